/- The contract of (*entries.reader).number · The contract of (*entries.reader).field: a stream, a number, a name. -/
import Derived.Test.YtigihgbgdillpaaGreatDoorP07
set_option linter.unusedVariables false
set_option linter.unusedSimpArgs false
set_option maxRecDepth 100000
namespace Go.Proofs.YtigihgbgdillpaaGreatDoor
open Go.RowKit

/-- A reader's cells. -/
def readC (s : ByteArray) (a : Int) (bad : Bool) : Array Value := #[.string s, .int .i64 a, .bool bad]
instance : AggT 175 3 := ⟨fun w => by kernel_rfl, by kernel_rfl⟩
instance (s : ByteArray) (a : Int) (bad : Bool) : CellAt (readC s a bad) 0 (.string s) := ⟨rfl⟩
instance (s : ByteArray) (a : Int) (bad : Bool) : CellAt (readC s a bad) 1 (.int .i64 a) := ⟨rfl⟩
instance (s : ByteArray) (a : Int) (bad : Bool) : CellAt (readC s a bad) 2 (.bool bad) := ⟨rfl⟩
instance (s : ByteArray) (a x : Int) (bad : Bool) : WrAt (readC s a bad) 1 1 (.int .i64 x) (readC s x bad) := wr_one _ _ _ _ rfl rfl (Nat.le_of_ble_eq_true rfl) rfl
instance (s : ByteArray) (a : Int) (bad x : Bool) : WrAt (readC s a bad) 2 1 (.bool x) (readC s a x) := wr_one _ _ _ _ rfl rfl (Nat.le_of_ble_eq_true rfl) rfl

def numN (s : ByteArray) (a b : Int) : Int := match getF s a b with | some (n, _) => n | none => 0
def numA (s : ByteArray) (a b : Int) : Int := match getF s a b with | some (_, x) => x | none => 0
def numOk (s : ByteArray) (a b : Int) : Bool := (getF s a b).isSome
theorem getV_num (s : ByteArray) (a b : Int) : getV (getF s a b) = .tuple #[.int .i64 (numN s a b), .int .i64 (numA s a b), .bool (numOk s a b)] := by
  unfold numN numA numOk
  cases getF s a b with
  | none => rfl
  | some x => obtain ⟨n, y⟩ := x; rfl
theorem get_calls3 (s : ByteArray) (a b : Int) (hs : s.size ≤ maxLen) (w : World) :
    Calls Tryz.prog 112 #[.string s, .int .i64 a, .int .i64 b] w fun e w' => e = .returned (.tuple #[.int .i64 (numN s a b), .int .i64 (numA s a b), .bool (numOk s a b)]) ∧ w = w' := by
  rw [← getV_num]
  exact get_any s a b hs w

set_option maxHeartbeats 4000000 in
set_option maxRecDepth 100000 in
theorem number_calls (g : Nat) (s : ByteArray) (a b : Int) (bad : Bool) (hs : s.size ≤ maxLen) (w : World) (hg : w.heap[g]? = some (.cells (readC s a bad) 175 (0, 0))) :
    Calls Tryz.prog 85 #[.pointer (some ⟨g, 0, none⟩), .int .i64 b] w fun r w' => r = .returned (.int .i64 (numN s a b)) ∧ St [g] w w' [(g, readC s (numA s a b) (bad || !numOk s a b), 175)] := by
  have hst : St [g] w w [(g, readC s a bad, 175)] := ⟨rfl, rfl, rfl, Nat.le_refl _, fun _ _ _ => rfl, fun p hp => by simp at hp; subst hp; exact Or.inr (by simp), by simp, fun p hp => by simp at hp; subst hp; exact hg⟩
  clear hg
  have C1 := Lib.hid (get_calls3 s a b hs)
  generalize numN s a b = n at *
  generalize numA s a b = x at *
  generalize numOk s a b = ok at *
  go_enter Tryz.func85, Tryz.ntmps85
  go_wp2_with fail
  have hq := hst.quiet
  refine wp_region_below_lit (by kernel_rfl) (by kernel_rfl) ?_
  repeat (first
    | (with_reducible refine wpQuiet_ld rfl _ _ rfl _ _ rfl hq ?_; simp only [Act.put, List.setIfInBounds_toArray, List.set_cons_succ, List.set_cons_zero])
    | go_big_quiet_step ((go_at_call 112; with_reducible exact Calls.below_of_same (C1.out _))))
  refine wpQuiet_nil ?_
  intro wq hwq
  have h1 := hq wq hwq
  clear hq hwq hst
  cases bad
  · cases ok
    · go_wp2_with (first|(with_reducible refine wpList_ld rfl _ _ rfl _ _ rfl (by assumption) ?_)|(with_reducible refine wpList_stI rfl _ _ _ rfl _ _ rfl _ _ rfl (by assumption) ?_; intro w' hst)|(with_reducible refine wpList_stB rfl _ _ _ rfl _ _ rfl _ rfl (by assumption) ?_; intro w' hst))
      go_ret
      exact ⟨rfl, hst⟩
    · go_wp2_with (first|(with_reducible refine wpList_ld rfl _ _ rfl _ _ rfl (by assumption) ?_)|(with_reducible refine wpList_stI rfl _ _ _ rfl _ _ rfl _ _ rfl (by assumption) ?_; intro w' hst)|(with_reducible refine wpList_stB rfl _ _ _ rfl _ _ rfl _ rfl (by assumption) ?_; intro w' hst))
      go_ret
      exact ⟨rfl, hst⟩
  · go_wp2_with (first|(with_reducible refine wpList_ld rfl _ _ rfl _ _ rfl (by assumption) ?_)|(with_reducible refine wpList_stI rfl _ _ _ rfl _ _ rfl _ _ rfl (by assumption) ?_; intro w' hst)|(with_reducible refine wpList_stB rfl _ _ _ rfl _ _ rfl _ rfl (by assumption) ?_; intro w' hst))
    go_ret
    exact ⟨rfl, hst⟩
end Go.Proofs.YtigihgbgdillpaaGreatDoor
namespace Go.Proofs.YtigihgbgdillpaaGreatDoor
open Go.RowKit

def textN (s : ByteArray) (a : Int) : ByteArray := match getTextF s a with | some (l, _) => mkS l | none => mkS []
def textA (s : ByteArray) (a : Int) : Int := match getTextF s a with | some (_, x) => x | none => 0
def textOk (s : ByteArray) (a : Int) : Bool := (getTextF s a).isSome
theorem getTextV_eq (s : ByteArray) (a : Int) : getTextV (getTextF s a) = .tuple #[.string (textN s a), .int .i64 (textA s a), .bool (textOk s a)] := by
  unfold textN textA textOk
  cases getTextF s a with
  | none => rfl
  | some x => obtain ⟨n, y⟩ := x; rfl
theorem get_text_calls3 (s : ByteArray) (a : Int) (hs : s.size ≤ maxLen) (w : World) :
    Calls Tryz.prog 113 #[.string s, .int .i64 a] w fun e w' => e = .returned (.tuple #[.string (textN s a), .int .i64 (textA s a), .bool (textOk s a)]) ∧ w = w' := by
  rw [← getTextV_eq]
  exact get_text_calls s a hs w

/-- A reader and an entry, each in a block of its own. -/
def two (g q : Nat) (s : ByteArray) (a : Int) (bad : Bool) (e : Ent) : List Blk := [(g, readC s a bad, 175), (q, entC e, 87)]
theorem two_start {g q : Nat} {s : ByteArray} {a : Int} {bad : Bool} {e : Ent} {w : World} (hg : w.heap[g]? = some (.cells (readC s a bad) 175 (0, 0))) (hq : w.heap[q]? = some (.cells (entC e) 87 (0, 0))) :
    St [g, q] w w [(g, readC s a bad, 175), (q, entC e, 87)] := by
  refine ⟨rfl, rfl, rfl, Nat.le_refl _, fun _ _ _ => rfl, fun p hp => ?_, ?_, fun p hp => ?_⟩
  · simp at hp; rcases hp with rfl | rfl <;> exact Or.inr (by simp)
  · simp
    rintro rfl
    rw [hg] at hq
    injection hq with hq
    injection hq with _ h2
    cases h2
  · simp at hp; rcases hp with rfl | rfl
    · exact hg
    · exact hq

set_option maxHeartbeats 4000000 in
set_option maxRecDepth 100000 in
theorem readfield_stream (g q : Nat) (s : ByteArray) (a : Int) (bad : Bool) (e : Ent) (hs : s.size ≤ maxLen) (w : World) (hg : w.heap[g]? = some (.cells (readC s a bad) 175 (0, 0))) (hq : w.heap[q]? = some (.cells (entC e) 87 (0, 0))) :
    Calls Tryz.prog 86 #[.pointer (some ⟨g, 0, none⟩), .int .i64 0, .pointer (some ⟨q, 0, none⟩)] w fun r w' => r = .returned (.tuple #[]) ∧
      St [g, q] w w' [(g, readC s (numA s a 1) (bad || !numOk s a 1), 175), (q, entC { e with stream := numN s a 1 }, 87)] := by
  have hst := two_start hg hq
  clear hg hq
  go_enter Tryz.func86, Tryz.ntmps86
  go_wp2_with fail
  refine (number_calls g s a 1 bad hs w hst.has).mono ?_
  rintro r w1 ⟨rfl, k⟩
  have h1 := hst.upd k
  clear k hst
  go_wp2_with (with_reducible refine wpList_stI rfl _ _ _ rfl _ _ rfl _ _ rfl (by assumption) ?_; intro w' hst)
  go_end0
  exact ⟨rfl, hst⟩
set_option maxHeartbeats 4000000 in
set_option maxRecDepth 100000 in
theorem readfield_number (g q : Nat) (s : ByteArray) (a : Int) (bad : Bool) (e : Ent) (hs : s.size ≤ maxLen) (w : World) (hg : w.heap[g]? = some (.cells (readC s a bad) 175 (0, 0))) (hq : w.heap[q]? = some (.cells (entC e) 87 (0, 0))) :
    Calls Tryz.prog 86 #[.pointer (some ⟨g, 0, none⟩), .int .i64 1, .pointer (some ⟨q, 0, none⟩)] w fun r w' => r = .returned (.tuple #[]) ∧
      St [g, q] w w' [(g, readC s (numA s a 4) (bad || !numOk s a 4), 175), (q, entC { e with n := numN s a 4 }, 87)] := by
  have hst := two_start hg hq
  clear hg hq
  go_enter Tryz.func86, Tryz.ntmps86
  go_wp2_with fail
  refine (number_calls g s a 4 bad hs w hst.has).mono ?_
  rintro r w1 ⟨rfl, k⟩
  have h1 := hst.upd k
  clear k hst
  go_wp2_with (with_reducible refine wpList_stI rfl _ _ _ rfl _ _ rfl _ _ rfl (by assumption) ?_; intro w' hst)
  go_end0
  exact ⟨rfl, hst⟩
set_option maxHeartbeats 4000000 in
set_option maxRecDepth 100000 in
theorem readfield_name (g q : Nat) (s : ByteArray) (a : Int) (bad : Bool) (e : Ent) (hs : s.size ≤ maxLen) (w : World) (hg : w.heap[g]? = some (.cells (readC s a bad) 175 (0, 0))) (hq : w.heap[q]? = some (.cells (entC e) 87 (0, 0))) :
    Calls Tryz.prog 86 #[.pointer (some ⟨g, 0, none⟩), .int .i64 2, .pointer (some ⟨q, 0, none⟩)] w fun r w' => r = .returned (.tuple #[]) ∧
      St [g, q] w w' [(g, readC s (textA s a) (bad || !textOk s a), 175), (q, entC { e with name := textN s a }, 87)] := by
  have hst := two_start hg hq
  clear hg hq
  have C1 := Lib.hid (get_text_calls3 s a hs)
  generalize textN s a = n at *
  generalize textA s a = x at *
  generalize textOk s a = ok at *
  go_enter Tryz.func86, Tryz.ntmps86
  go_wp2_with fail
  have hq := hst.quiet
  refine wp_region_below_lit (by kernel_rfl) (by kernel_rfl) ?_
  repeat (first
    | (with_reducible refine wpQuiet_ld rfl _ _ rfl _ _ rfl hq ?_; simp only [Act.put, List.setIfInBounds_toArray, List.set_cons_succ, List.set_cons_zero])
    | go_big_quiet_step ((go_at_call 113; with_reducible exact Calls.below_of_same (C1.out _))))
  refine wpQuiet_nil ?_
  intro wq hwq
  have h1 := hq wq hwq
  clear hq hwq hst
  cases bad
  · cases ok
    · go_wp2_with (first|(with_reducible refine wpList_ld rfl _ _ rfl _ _ rfl (by assumption) ?_)|(with_reducible refine wpList_stI rfl _ _ _ rfl _ _ rfl _ _ rfl (by assumption) ?_; intro w' hst)|(with_reducible refine wpList_stS rfl _ _ _ rfl _ _ rfl _ rfl (by assumption) ?_; intro w' hst)|(with_reducible refine wpList_stB rfl _ _ _ rfl _ _ rfl _ rfl (by assumption) ?_; intro w' hst))
      go_end0
      exact ⟨rfl, hst⟩
    · go_wp2_with (first|(with_reducible refine wpList_ld rfl _ _ rfl _ _ rfl (by assumption) ?_)|(with_reducible refine wpList_stI rfl _ _ _ rfl _ _ rfl _ _ rfl (by assumption) ?_; intro w' hst)|(with_reducible refine wpList_stS rfl _ _ _ rfl _ _ rfl _ rfl (by assumption) ?_; intro w' hst)|(with_reducible refine wpList_stB rfl _ _ _ rfl _ _ rfl _ rfl (by assumption) ?_; intro w' hst))
      go_end0
      exact ⟨rfl, hst⟩
  · go_wp2_with (first|(with_reducible refine wpList_ld rfl _ _ rfl _ _ rfl (by assumption) ?_)|(with_reducible refine wpList_stI rfl _ _ _ rfl _ _ rfl _ _ rfl (by assumption) ?_; intro w' hst)|(with_reducible refine wpList_stS rfl _ _ _ rfl _ _ rfl _ rfl (by assumption) ?_; intro w' hst)|(with_reducible refine wpList_stB rfl _ _ _ rfl _ _ rfl _ rfl (by assumption) ?_; intro w' hst))
    go_end0
    exact ⟨rfl, hst⟩
end Go.Proofs.YtigihgbgdillpaaGreatDoor
