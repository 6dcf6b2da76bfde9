/- The contract of (*entries.reader).number. -/
import Derived.Test.YtgjgjhikimnknaaEncode
import Derived.Test.YtgjgjhikimnknaaRefGet
set_option linter.unusedVariables false
set_option linter.unusedSimpArgs false
namespace Go.Proofs.Ytgjgjhikimnknaa
open Go.RowKit

/-- A reader's cells. -/
def readC (s : ByteArray) (a : Int) (bad : Bool) : Array Value := #[.string s, .int .i64 a, .bool bad]
instance : AggT 70 3 := ⟨fun w => by kernel_rfl, by kernel_rfl⟩
instance (s : ByteArray) (a : Int) (bad : Bool) : CellAt (readC s a bad) 0 (.string s) := ⟨rfl⟩
instance (s : ByteArray) (a : Int) (bad : Bool) : CellAt (readC s a bad) 1 (.int .i64 a) := ⟨rfl⟩
instance (s : ByteArray) (a : Int) (bad : Bool) : CellAt (readC s a bad) 2 (.bool bad) := ⟨rfl⟩
instance (s : ByteArray) (a x : Int) (bad : Bool) : WrAt (readC s a bad) 1 1 (.int .i64 x) (readC s x bad) := wr_one _ _ _ _ rfl rfl (Nat.le_of_ble_eq_true rfl) rfl
instance (s : ByteArray) (a : Int) (bad x : Bool) : WrAt (readC s a bad) 2 1 (.bool x) (readC s a x) := wr_one _ _ _ _ rfl rfl (Nat.le_of_ble_eq_true rfl) rfl

def numN (s : ByteArray) (a b : Int) : Int := match getF s a b with | some (n, _) => n | none => 0
def numA (s : ByteArray) (a b : Int) : Int := match getF s a b with | some (_, x) => x | none => 0
def numOk (s : ByteArray) (a b : Int) : Bool := (getF s a b).isSome
theorem getV_num (s : ByteArray) (a b : Int) : getV (getF s a b) = .tuple #[.int .i64 (numN s a b), .int .i64 (numA s a b), .bool (numOk s a b)] := by
  unfold numN numA numOk
  cases getF s a b with
  | none => rfl
  | some x => obtain ⟨n, y⟩ := x; rfl
theorem get_calls3 (s : ByteArray) (a b : Int) (hs : s.size ≤ maxLen) (w : World) :
    Calls Try.prog 47 #[.string s, .int .i64 a, .int .i64 b] w fun e w' => e = .returned (.tuple #[.int .i64 (numN s a b), .int .i64 (numA s a b), .bool (numOk s a b)]) ∧ w = w' := by
  rw [← getV_num]
  exact get_any s a b hs w

set_option maxHeartbeats 4000000 in
set_option maxRecDepth 100000 in
theorem number_calls (g : Nat) (s : ByteArray) (a b : Int) (bad : Bool) (hs : s.size ≤ maxLen) (w : World) (hg : w.heap[g]? = some (.cells (readC s a bad) 70 (0, 0))) :
    Calls Try.prog 34 #[.pointer (some ⟨g, 0, none⟩), .int .i64 b] w fun r w' => r = .returned (.int .i64 (numN s a b)) ∧ St [g] w w' [(g, readC s (numA s a b) (bad || !numOk s a b), 70)] := by
  have hst : St [g] w w [(g, readC s a bad, 70)] := ⟨rfl, rfl, rfl, Nat.le_refl _, fun _ _ _ => rfl, fun p hp => by simp at hp; subst hp; exact Or.inr (by simp), by simp, fun p hp => by simp at hp; subst hp; exact hg⟩
  clear hg
  have C1 := Lib.hid (get_calls3 s a b hs)
  generalize numN s a b = n at *
  generalize numA s a b = x at *
  generalize numOk s a b = ok at *
  go_enter Try.func34, Try.ntmps34
  go_wp2_with (first
      | (with_reducible refine wpList_neqE rfl _ _ _ rfl _ _ rfl rfl ?_)
      | (with_reducible refine wpList_eqlE rfl _ _ _ rfl _ _ rfl rfl ?_)
      | (with_reducible refine wpList_ld rfl _ _ rfl _ _ rfl (by assumption) ?_)
      | (with_reducible refine wpList_lda rfl _ _ rfl _ _ rfl (by assumption) ?_)
      | (with_reducible refine wpList_stI rfl _ _ _ rfl _ _ rfl _ _ rfl (by assumption) ?_; intro w' hst)
      | (with_reducible refine wpList_stS rfl _ _ _ rfl _ _ rfl _ rfl (by assumption) ?_; intro w' hst)
      | (with_reducible refine wpList_stB rfl _ _ _ rfl _ _ rfl _ rfl (by assumption) ?_; intro w' hst)
      | (with_reducible refine wpList_stA rfl _ _ _ rfl _ _ rfl _ rfl (by assumption) ?_; intro w' hst)
      | (with_reducible refine wpList_box rfl _ _ rfl (by assumption) _ rfl ?_; intro bb w' hst)
      | (with_reducible refine wpList_new rfl _ rfl (by assumption) _ zero_ent ?_; intro bn w' hst)
      | (with_reducible refine wpList_new rfl _ rfl (by assumption) _ zero_run ?_; intro br w' hst))
  have hq := hst.quiet
  refine wp_region_below_lit (by kernel_rfl) (by kernel_rfl) ?_
  repeat (first
    | (with_reducible refine wpQuiet_ld rfl _ _ rfl _ _ rfl hq ?_; simp only [Act.put, List.setIfInBounds_toArray, List.set_cons_succ, List.set_cons_zero])
    | go_big_quiet_step ((go_at_call 47; with_reducible exact Calls.below_of_same (C1.out _))))
  refine wpQuiet_nil ?_
  intro wq hwq
  have h1 := hq wq hwq
  clear hq hwq hst
  cases bad
  · cases ok
    · go_wp2_with (first
      | (with_reducible refine wpList_neqE rfl _ _ _ rfl _ _ rfl rfl ?_)
      | (with_reducible refine wpList_eqlE rfl _ _ _ rfl _ _ rfl rfl ?_)
      | (with_reducible refine wpList_ld rfl _ _ rfl _ _ rfl (by assumption) ?_)
      | (with_reducible refine wpList_lda rfl _ _ rfl _ _ rfl (by assumption) ?_)
      | (with_reducible refine wpList_stI rfl _ _ _ rfl _ _ rfl _ _ rfl (by assumption) ?_; intro w' hst)
      | (with_reducible refine wpList_stS rfl _ _ _ rfl _ _ rfl _ rfl (by assumption) ?_; intro w' hst)
      | (with_reducible refine wpList_stB rfl _ _ _ rfl _ _ rfl _ rfl (by assumption) ?_; intro w' hst)
      | (with_reducible refine wpList_stA rfl _ _ _ rfl _ _ rfl _ rfl (by assumption) ?_; intro w' hst)
      | (with_reducible refine wpList_box rfl _ _ rfl (by assumption) _ rfl ?_; intro bb w' hst)
      | (with_reducible refine wpList_new rfl _ rfl (by assumption) _ zero_ent ?_; intro bn w' hst)
      | (with_reducible refine wpList_new rfl _ rfl (by assumption) _ zero_run ?_; intro br w' hst))
      go_ret
      exact ⟨rfl, hst⟩
    · go_wp2_with (first
      | (with_reducible refine wpList_neqE rfl _ _ _ rfl _ _ rfl rfl ?_)
      | (with_reducible refine wpList_eqlE rfl _ _ _ rfl _ _ rfl rfl ?_)
      | (with_reducible refine wpList_ld rfl _ _ rfl _ _ rfl (by assumption) ?_)
      | (with_reducible refine wpList_lda rfl _ _ rfl _ _ rfl (by assumption) ?_)
      | (with_reducible refine wpList_stI rfl _ _ _ rfl _ _ rfl _ _ rfl (by assumption) ?_; intro w' hst)
      | (with_reducible refine wpList_stS rfl _ _ _ rfl _ _ rfl _ rfl (by assumption) ?_; intro w' hst)
      | (with_reducible refine wpList_stB rfl _ _ _ rfl _ _ rfl _ rfl (by assumption) ?_; intro w' hst)
      | (with_reducible refine wpList_stA rfl _ _ _ rfl _ _ rfl _ rfl (by assumption) ?_; intro w' hst)
      | (with_reducible refine wpList_box rfl _ _ rfl (by assumption) _ rfl ?_; intro bb w' hst)
      | (with_reducible refine wpList_new rfl _ rfl (by assumption) _ zero_ent ?_; intro bn w' hst)
      | (with_reducible refine wpList_new rfl _ rfl (by assumption) _ zero_run ?_; intro br w' hst))
      go_ret
      exact ⟨rfl, hst⟩
  · go_wp2_with (first
      | (with_reducible refine wpList_neqE rfl _ _ _ rfl _ _ rfl rfl ?_)
      | (with_reducible refine wpList_eqlE rfl _ _ _ rfl _ _ rfl rfl ?_)
      | (with_reducible refine wpList_ld rfl _ _ rfl _ _ rfl (by assumption) ?_)
      | (with_reducible refine wpList_lda rfl _ _ rfl _ _ rfl (by assumption) ?_)
      | (with_reducible refine wpList_stI rfl _ _ _ rfl _ _ rfl _ _ rfl (by assumption) ?_; intro w' hst)
      | (with_reducible refine wpList_stS rfl _ _ _ rfl _ _ rfl _ rfl (by assumption) ?_; intro w' hst)
      | (with_reducible refine wpList_stB rfl _ _ _ rfl _ _ rfl _ rfl (by assumption) ?_; intro w' hst)
      | (with_reducible refine wpList_stA rfl _ _ _ rfl _ _ rfl _ rfl (by assumption) ?_; intro w' hst)
      | (with_reducible refine wpList_box rfl _ _ rfl (by assumption) _ rfl ?_; intro bb w' hst)
      | (with_reducible refine wpList_new rfl _ rfl (by assumption) _ zero_ent ?_; intro bn w' hst)
      | (with_reducible refine wpList_new rfl _ rfl (by assumption) _ zero_run ?_; intro br w' hst))
    go_ret
    exact ⟨rfl, hst⟩
end Go.Proofs.Ytgjgjhikimnknaa
