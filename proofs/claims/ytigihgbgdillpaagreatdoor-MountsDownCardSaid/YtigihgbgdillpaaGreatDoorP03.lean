/- The contract of names.Check: it tells whether a text is a name · The contracts of (*strings.Builder).copyCheck, WriteString and String, at a builder that the call itself has made (the shelf's proofs, turned to this translation). -/
import Derived.Laws.IdiomStrings
import Derived.WalkLawsBesides
import Derived.Shelf.Strings.Builder1
import Derived.Shelf.Strings.BuilderF
import Derived.Shelf.Strings.BuilderK
import Derived.Test.YtigihgbgdillpaaGreatDoorP01
set_option linter.unusedVariables false
set_option linter.unusedSimpArgs false
set_option maxRecDepth 100000
namespace Go.Proofs.YtigihgbgdillpaaGreatDoor
open Go.RowKit

def okR (r : Int) : Bool := (decide (97 ≤ r) && decide (r ≤ 122)) || ((decide (48 ≤ r) && decide (r ≤ 57)) || (r == 45 || r == 46))
theorem okR_cases (r : Int) : (97 ≤ r ∧ r ≤ 122 ∧ okR r = true) ∨ (97 ≤ r ∧ 122 < r ∧ okR r = false) ∨ (r < 97 ∧ 48 ≤ r ∧ r ≤ 57 ∧ okR r = true) ∨ (r < 97 ∧ 57 < r ∧ okR r = false) ∨ (r = 45 ∧ okR r = true) ∨ (r = 46 ∧ okR r = true) ∨ (r < 48 ∧ r ≠ 45 ∧ r ≠ 46 ∧ okR r = false) := by
  have key : okR r = true ↔ ((97 ≤ r ∧ r ≤ 122) ∨ (48 ≤ r ∧ r ≤ 57) ∨ r = 45 ∨ r = 46) := by simp [okR]
  cases h : okR r with
  | true => rw [h] at key; simp at key; simp; omega
  | false => rw [h] at key; simp at key; simp; omega

set_option maxHeartbeats 1000000 in
theorem odd_calls (r : Int) (w : World) :
    Calls Tryz.prog 132 #[.int .i32 r] w fun e w' => e = .returned (.bool (!okR r)) ∧ w = w' := by
  rcases okR_cases r with ⟨h1, h2, h⟩ | ⟨h1, h2, h⟩ | ⟨h1, h2, h3, h⟩ | ⟨h1, h2, h⟩ | ⟨rfl, h⟩ | ⟨rfl, h⟩ | ⟨h1, h2, h3, h⟩
  · rw [h]
    have a1 : decide (97 ≤ r) = true := by simpa using h1
    have a2 : decide (r ≤ 122) = true := by simpa using h2
    clear h
    go_enter Tryz.func132, Tryz.ntmps132
    go_wp2
    go_ret
    exact ⟨rfl, rfl⟩
  · rw [h]
    have a1 : decide (97 ≤ r) = true := by simpa using h1
    have a2 : decide (r ≤ 122) = false := by simpa using h2
    have a3 : decide (48 ≤ r) = true := by simp; omega
    have a4 : decide (r ≤ 57) = false := by simp; omega
    have a5 : (r == 45) = false := by simp; omega
    have a6 : (r == 46) = false := by simp; omega
    clear h
    go_enter Tryz.func132, Tryz.ntmps132
    go_wp2
    go_ret
    exact ⟨rfl, rfl⟩
  · rw [h]
    have a1 : decide (97 ≤ r) = false := by simpa using h1
    have a3 : decide (48 ≤ r) = true := by simp; omega
    have a4 : decide (r ≤ 57) = true := by simp; omega
    clear h
    go_enter Tryz.func132, Tryz.ntmps132
    go_wp2
    go_ret
    exact ⟨rfl, rfl⟩
  · rw [h]
    have a1 : decide (97 ≤ r) = false := by simpa using h1
    have a3 : decide (48 ≤ r) = true := by simp; omega
    have a4 : decide (r ≤ 57) = false := by simp; omega
    have a5 : (r == 45) = false := by simp; omega
    have a6 : (r == 46) = false := by simp; omega
    clear h
    go_enter Tryz.func132, Tryz.ntmps132
    go_wp2
    go_ret
    exact ⟨rfl, rfl⟩
  · go_enter Tryz.func132, Tryz.ntmps132
    go_wp2
    go_ret
    exact ⟨rfl, rfl⟩
  · go_enter Tryz.func132, Tryz.ntmps132
    go_wp2
    go_ret
    exact ⟨rfl, rfl⟩
  · rw [h]
    have a1 : decide (97 ≤ r) = false := by simp; omega
    have a3 : decide (48 ≤ r) = false := by simp; omega
    have a5 : (r == 45) = false := by simpa using h2
    have a6 : (r == 46) = false := by simpa using h3
    clear h
    go_enter Tryz.func132, Tryz.ntmps132
    go_wp2
    go_ret
    exact ⟨rfl, rfl⟩

/-- None of the first k is odd. -/
def okTo (rs : List Int) (k : Nat) : Prop := ∀ r ∈ rs.take k, okR r = true
theorem okTo_succ {rs : List Int} {k : Nat} (h : k < rs.length) (hs : okTo rs k) (h1 : okR rs[k] = true) : okTo rs (k + 1) := fun r hm => by
  rw [List.take_succ_eq_append_getElem h] at hm
  rcases List.mem_append.1 hm with h2 | h2
  · exact hs r h2
  · simp at h2; subst h2; exact h1

set_option maxHeartbeats 1000000 in
theorem index_func_calls (rs : List Int) (b cap : Nat) (hlen : rs.length ≤ maxLen) (w : World) (hc : ∀ i (h : i < rs.length), w.cell? ⟨b, i, none⟩ = some (.int .i32 rs[i])) :
    Calls Tryz.prog 154 #[.slice (some ⟨b, 0, none⟩) rs.length cap, .func (.func 132) #[] #[]] w
      fun e w' => (∃ n : Int, e = .returned (.int .i64 n) ∧ (decide (0 ≤ n)) = !(rs.all okR)) ∧ w = w' := by
  unfold maxLen at hlen
  have HC := Lib.hid hc
  clear hc
  go_enter Tryz.func154, Tryz.ntmps154
  go_wp2_with fail
  go_loop [8] (fun i => ∃ k : Nat, k ≤ rs.length ∧ i = .int .i64 k ∧ Hid (okTo rs k)) (fun i => rs.length - (intOf i).toNat)
  case atStart => exact ⟨0, by omega, rfl, fun r hr => by simp at hr⟩
  case round =>
    obtain ⟨k, hk, rfl, hok⟩ := hrel
    by_cases hlt : k < rs.length
    · have hcell := HC.out k hlt
      have HS : okR rs[k] = true → Hid (okTo rs (k + 1)) := fun h => okTo_succ hlt hok.out h
      have HN : okR rs[k] = false → Hid (rs.all okR = false) := fun h => by
        show _ = _
        rw [List.all_eq_false]
        exact ⟨rs[k], List.getElem_mem hlt, by simp [h]⟩
      generalize rs[k] = r at *
      go_wp2_with fail
      refine (odd_calls r w).mono ?_
      rintro e w' ⟨rfl, rfl⟩
      cases ho : okR r with
      | true =>
        have HS' := HS ho
        clear HS HN ho
        go_wp2_with fail
        go_round
        case rel => exact ⟨k + 1, by omega, by go_num, HS'⟩
        case measure => simp [intOf]; omega
      | false =>
        have HN' := HN ho
        clear HS HN ho
        go_wp2_with fail
        go_ret
        exact ⟨⟨k, rfl, by rw [HN'.out]; simp⟩, rfl⟩
    · obtain rfl : k = rs.length := by omega
      go_wp2_with fail
      go_ret
      refine ⟨⟨-1, rfl, ?_⟩, rfl⟩
      have : rs.all okR = true := List.all_eq_true.2 (fun r hr => hok.out r (by rw [List.take_length]; exact hr))
      rw [this]; rfl

set_option maxHeartbeats 1000000 in
theorem contains_func_calls (rs : List Int) (b cap : Nat) (hlen : rs.length ≤ maxLen) (w : World) (hc : ∀ i (h : i < rs.length), w.cell? ⟨b, i, none⟩ = some (.int .i32 rs[i])) :
    Calls Tryz.prog 133 #[.slice (some ⟨b, 0, none⟩) rs.length cap, .func (.func 132) #[] #[]] w
      fun e w' => e = .returned (.bool !(rs.all okR)) ∧ w = w' := by
  have HC := Lib.hid hc
  clear hc
  go_enter Tryz.func133, Tryz.ntmps133
  go_wp2_with fail
  refine (index_func_calls rs b cap hlen w HC.out).mono ?_
  rintro e w' ⟨⟨n, rfl, hn⟩, rfl⟩
  have HN := Lib.hid hn
  clear hn
  go_wp2_with fail
  go_ret
  exact ⟨by rw [← HN.out]; rfl, rfl⟩

/-! ### The runes of a text, as far as names.Check asks -/
def runesL (s : ByteArray) : (bound i : Nat) → List Int
  | 0, _ => []
  | bound + 1, i => if i < s.size then ((Utf8.decode s i).1 : Int) :: runesL s bound (i + (Utf8.decode s i).2) else []
theorem runesFrom_eq (s : ByteArray) : ∀ (bound i : Nat) (acc : Array Value), Conv.runesFrom s bound i acc = acc ++ ((runesL s bound i).map (Value.int .i32)).toArray
  | 0, i, acc => by simp [Conv.runesFrom, runesL]
  | bound + 1, i, acc => by
    by_cases h : i < s.size
    · simp only [Conv.runesFrom, runesL, h, if_true]
      rw [runesFrom_eq s bound]
      simp
    · simp [Conv.runesFrom, runesL, h]
theorem runesL_length (s : ByteArray) : ∀ (bound i : Nat), (runesL s bound i).length ≤ bound
  | 0, i => by simp [runesL]
  | bound + 1, i => by
    unfold runesL
    split
    · have := runesL_length s bound (i + (Utf8.decode s i).2); simp; omega
    · simp

theorem decode_ascii (s : ByteArray) (i : Nat) (h : i < s.size) (h1 : s[i].toNat < 128) : Utf8.decode s i = (s[i].toNat, 1) := by
  have e : (s.get! (i + 0)).toNat = s[i].toNat := by
    have : s.get! (i + 0) = s[i] := by
      show s.data[i]! = s.data[i]
      exact getElem!_pos s.data i h
    rw [this]
  unfold Utf8.decode
  simp only [e]
  rw [if_pos h1]
theorem decode_high (s : ByteArray) (i : Nat) (h : i < s.size) (h1 : ¬ s[i].toNat < 128) : 128 ≤ (Utf8.decode s i).1 := by
  have e : (s.get! (i + 0)).toNat = s[i].toNat := by
    have : s.get! (i + 0) = s[i] := by
      show s.data[i]! = s.data[i]
      exact getElem!_pos s.data i h
    rw [this]
  unfold Utf8.decode
  simp only [e]
  rw [if_neg h1]
  split
  · split
    · simp only; omega
    · decide
  · split
    · split
      · rename_i h2; simp only [Bool.and_eq_true, decide_eq_true_eq] at h2; simp only; omega
      · decide
    · split
      · split
        · rename_i h2; simp only [Bool.and_eq_true, decide_eq_true_eq] at h2; simp only; omega
        · decide
      · decide
theorem okR_high {r : Int} (h : 128 ≤ r) : okR r = false := by rcases okR_cases r with h | h | h | h | h | h | h <;> first | exact h.2.2.2 | exact h.2.2 | (exfalso; omega)
theorem runes_ok (s : ByteArray) : ∀ (bound i : Nat), s.size - i ≤ bound → (runesL s bound i).all okR = ((ls s).drop i).all fun c => okR (c.toNat : Int)
  | 0, i, h => by
    have : (ls s).drop i = [] := List.drop_eq_nil_of_le (by rw [ls_length]; omega)
    rw [this]; rfl
  | bound + 1, i, h => by
    unfold runesL
    split
    · rename_i hi
      have hd : (ls s).drop i = s[i] :: (ls s).drop (i + 1) := by rw [List.drop_eq_getElem_cons (by rw [ls_length]; exact hi)]; rfl
      rw [hd]
      by_cases h1 : s[i].toNat < 128
      · rw [decode_ascii s i hi h1]
        simp only [List.all_cons]
        rw [runes_ok s bound (i + 1) (by omega)]
      · have h2 := decode_high s i hi h1
        have e1 : okR ((Utf8.decode s i).1 : Int) = false := okR_high (by omega)
        have e2 : okR (s[i].toNat : Int) = false := okR_high (by omega)
        simp only [List.all_cons, e1, e2, Bool.false_and]
    · rename_i hi
      have : (ls s).drop i = [] := List.drop_eq_nil_of_le (by rw [ls_length]; omega)
      rw [this]; rfl

/-- OK, or an error. -/
def errOf (b : Bool) (n : Int) : Int := if b then 0 else n
/-- Is a text a name? -/
def nameOk (s : ByteArray) : Bool := decide (1 ≤ s.size) && (decide (s.size ≤ 12) && (!((ls s).headD 0 == 46) && (ls s).all fun c => okR (c.toNat : Int)))

theorem U21 : Tryz.prog.underlying 21 = some (.int .i32) := by kernel_rfl
theorem U80 : Tryz.prog.underlying 231 = some (.slice 21) := by kernel_rfl

theorem empty_toList (s : ByteArray) (h : s.size = 0) : s.toList = [] := by
  have : s.toList.length = 0 := by rw [ByteArray.toList_eq]; exact h
  exact List.eq_nil_of_length_eq_zero this
theorem toList_empty (s : ByteArray) (h : s.size ≠ 0) : s.toList ≠ [] := fun h' => h (by
  have : s.toList.length = 0 := by rw [h']; rfl
  rw [ByteArray.toList_eq] at this; exact this)
theorem head_at (s : ByteArray) (h : 0 < s.size) : (ls s).headD 0 = s[0] := by
  have : ls s = s[0] :: (ls s).drop 1 := by
    have := List.drop_eq_getElem_cons (l := ls s) (i := 0) (by rw [ls_length]; exact h)
    rw [List.drop_zero] at this
    exact this
  rw [this]; rfl

set_option maxHeartbeats 1000000 in
theorem names_check_short (s : ByteArray) (h : s.size = 0) (w : World) :
    Calls Tryz.prog 98 #[.string s] w fun e w' => e = .returned (.int .i64 130) ∧ Below w.heap.size w w' := by
  have f1 := empty_toList s h
  clear h
  go_enter Tryz.func98, Tryz.ntmps98
  go_wp2
  go_ret
  exact ⟨rfl, Below.refl _ _⟩
set_option maxHeartbeats 1000000 in
theorem names_check_long (s : ByteArray) (h : 12 < s.size) (hs : s.size ≤ 9223372036854775807) (w : World) :
    Calls Tryz.prog 98 #[.string s] w fun e w' => e = .returned (.int .i64 130) ∧ Below w.heap.size w w' := by
  have f1 : s.toList.isEmpty = false := by simpa using toList_empty s (by omega)
  have f2 : decide ((12 : Int) < (s.size : Int)) = true := by simp; omega
  go_enter Tryz.func98, Tryz.ntmps98
  go_wp2
  go_ret
  exact ⟨rfl, Below.refl _ _⟩
set_option maxHeartbeats 1000000 in
theorem names_check_dot (s : ByteArray) (h : 0 < s.size) (h12 : s.size ≤ 12) (hd : (s[0].toNat : Int) = 46) (w : World) :
    Calls Tryz.prog 98 #[.string s] w fun e w' => e = .returned (.int .i64 130) ∧ Below w.heap.size w w' := by
  have f1 : s.toList.isEmpty = false := by simpa using toList_empty s (by omega)
  have f2 : decide ((12 : Int) < (s.size : Int)) = false := by simp; omega
  have f3 : ((s[0].toNat : Int) == 46) = true := by simpa using hd
  clear hd
  go_enter Tryz.func98, Tryz.ntmps98
  go_wp2
  go_ret
  exact ⟨rfl, Below.refl _ _⟩

theorem rune_cells (w : World) (rs : List Int) (m : Nat) : ∀ i (h : i < rs.length), (w.drew.alloc (.cells ((rs.map (Value.int .i32)).toArray ++ Array.replicate m (.int .i32 0)) 21)).cell? ⟨w.heap.size, i, none⟩ = some (.int .i32 rs[i]) := fun i h => by
  have e : w.heap.size = w.drew.heap.size := rfl
  rw [e, World.cell?_alloc_at _ _ _ _ rfl, Array.getElem?_append_left (by simpa using h)]
  simp [h]

set_option maxHeartbeats 1000000 in
theorem names_check_rest (s : ByteArray) (h : 0 < s.size) (h12 : s.size ≤ 12) (hd : ¬ (s[0].toNat : Int) = 46) (w : World) :
    Calls Tryz.prog 98 #[.string s] w fun e w' => e = .returned (.int .i64 (errOf ((ls s).all (fun c => okR (c.toNat : Int))) 130)) ∧ Below w.heap.size w w' := by
  have f1 : s.toList.isEmpty = false := by simpa using toList_empty s (by omega)
  have f2 : decide ((12 : Int) < (s.size : Int)) = false := by simp; omega
  have f3 : ((s[0].toNat : Int) == 46) = false := by simpa using hd
  have hr := runesFrom_eq s s.size 0 #[]
  rw [Array.empty_append] at hr
  have hl := runesL_length s s.size 0
  have hrun := run_runes_of_string (P := Tryz.prog) w 9 231 21 s T9 U80 U21 (by rw [hr]; simp; omega)
  have hall := runes_ok s s.size 0 (by omega)
  rw [List.drop_zero] at hall
  rw [← hall]
  rw [hr] at hrun
  clear hr hd hall
  generalize runesL s s.size 0 = rs at *
  rw [show (rs.map (Value.int .i32)).toArray.size = rs.length by simp] at hrun
  have HC := Lib.hid (rune_cells w rs (grownCap w rs.length 0 21 - rs.length))
  have HB : Hid (Below w.heap.size w (w.drew.alloc (.cells ((rs.map (Value.int .i32)).toArray ++ Array.replicate (grownCap w rs.length 0 21 - rs.length) (.int .i32 0)) 21))) := Lib.hid ((Below.refl _ _).drew.alloc (Nat.le_refl _) _)
  generalize w.drew.alloc (.cells ((rs.map (Value.int .i32)).toArray ++ Array.replicate (grownCap w rs.length 0 21 - rs.length) (.int .i32 0)) 21) = w1 at *
  generalize grownCap w rs.length 0 21 = cap at *
  go_enter Tryz.func98, Tryz.ntmps98
  go_wp2_with fail
  refine (contains_func_calls rs w.heap.size cap (by unfold maxLen; omega) w1 HC.out).mono ?_
  rintro e w' ⟨rfl, rfl⟩
  cases hb : rs.all okR with
  | true =>
    have HE : Hid (Ending.returned (Value.int .i64 0) = .returned (.int .i64 (errOf (rs.all okR) 130))) := Lib.hid (by rw [hb]; rfl)
    rw [Bool.not_true]
    clear hb
    go_wp2_with fail
    go_ret
    exact ⟨by rw [← HE.out]; rfl, HB.out⟩
  | false =>
    have HE : Hid (Ending.returned (Value.int .i64 130) = .returned (.int .i64 (errOf (rs.all okR) 130))) := Lib.hid (by rw [hb]; rfl)
    rw [Bool.not_false]
    clear hb
    go_wp2_with fail
    go_ret
    exact ⟨by rw [← HE.out]; rfl, HB.out⟩

theorem names_check_calls (s : ByteArray) (hs : s.size ≤ maxLen) (w : World) :
    Calls Tryz.prog 98 #[.string s] w fun e w' => e = .returned (.int .i64 (errOf (nameOk s) 130)) ∧ Below w.heap.size w w' := by
  unfold maxLen at hs
  unfold nameOk
  by_cases h0 : s.size = 0
  · have : decide (1 ≤ s.size) = false := by simp [h0]
    rw [this]
    exact names_check_short s h0 w
  · have e0 : decide (1 ≤ s.size) = true := by simp; omega
    by_cases h12 : 12 < s.size
    · have : decide (s.size ≤ 12) = false := by simp; omega
      rw [e0, this]
      exact names_check_long s h12 (by omega) w
    · have e1 : decide (s.size ≤ 12) = true := by simp; omega
      rw [e0, e1, head_at s (by omega)]
      by_cases hd : (s[0].toNat : Int) = 46
      · have : (s[0] == 46) = true := by
          rw [beq_iff_eq]; apply UInt8.toNat_inj.mp; show s[0].toNat = 46; omega
        rw [this]
        exact names_check_dot s (by omega) (by omega) hd w
      · have : (s[0] == 46) = false := by
          rw [beq_eq_false_iff_ne]; intro h; apply hd; rw [h]; rfl
        rw [this]
        simpa using names_check_rest s (by omega) (by omega) hd w
end Go.Proofs.YtigihgbgdillpaaGreatDoor
namespace Go.Proofs.YtigihgbgdillpaaGreatDoor
open Go.Shelf Go.RowKit

theorem sizeBuilder : (Tryz.prog.info? 137).map (·.size) = some 2 := by kernel_rfl

set_option maxHeartbeats 1000000 in
set_option maxRecDepth 100000 in
theorem copyCheck_fresh (b : Nat) (w : World) (h0 : w.cell? ⟨b, 0, none⟩ = some (.pointer none)) (hsh : w.shape? b = some (137, 2)) (hfz : w.frozen? ⟨b, 0, none⟩ = false) :
    Calls Tryz.prog 99 #[.pointer (some ⟨b, 0, none⟩)] w fun e w' => e = .returned (.tuple #[]) ∧ w' = w.setCell ⟨b, 0, none⟩ (.pointer (some ⟨b, 0, none⟩)) := by
  obtain ⟨j, hj, hjs⟩ := Option.map_eq_some_iff.1 sizeBuilder
  go_enter Tryz.func99, Tryz.ntmps99
  go_wp2_with fail
  rw [Lib.run_to_unsafe w ⟨b, 0, none⟩ Tryz.underlying135 Tryz.underlying232 hj (by rw [hjs]; decide) hsh (Nat.zero_lt_succ 1)]
  simp only [Result.andThen]
  rw [Oper.upon_value]
  go_wp2_with fail
  rw [run_callFunc_extern Tryz.func134 (by kernel_rfl) (by kernel_rfl) (by kernel_rfl) (e := Extern.AbiNoEscape.same) (by kernel_rfl)]
  rw [Lib.run_noEscape]
  simp only [Result.andThen]
  rw [Oper.upon_value]
  go_wp2_with fail
  rw [Lib.run_from_unsafe w ⟨b, 0, none⟩ Tryz.underlying232 Tryz.underlying135 hj hsh (by kernel_rfl)]
  simp only [Result.andThen]
  rw [Oper.upon_value]
  go_wp2_with fail
  go_end0
  exact ⟨rfl, rfl⟩

set_option maxHeartbeats 1000000 in
set_option maxRecDepth 100000 in
theorem copyCheck_used (b : Nat) (w : World) (h0 : w.cell? ⟨b, 0, none⟩ = some (.pointer (some ⟨b, 0, none⟩))) :
    Calls Tryz.prog 99 #[.pointer (some ⟨b, 0, none⟩)] w fun e w' => e = .returned (.tuple #[]) ∧ w' = w := by
  obtain ⟨j, hj, _⟩ := Option.map_eq_some_iff.1 sizeBuilder
  go_enter Tryz.func99, Tryz.ntmps99
  go_wp2_with fail
  rw [Lib.run_neq_ptr_same w _ Tryz.underlying135 hj]
  go_wp2_with fail
  go_end0
  exact ⟨rfl, rfl⟩

/-- The builder holds bs; its blocks lie from B on. -/
abbrev IsB (B b : Nat) (bs : List Value) (w : World) : Prop := Lib.IsBuilderF 137 5 B b bs w
/-- What a writer leaves: below B all is as it was; every block that is not the builder's, and is no row of bytes, too. -/
abbrev KeptB (B b : Nat) (w w' : World) : Prop := Below B w w' ∧ Lib.OthersKept 5 (some b) w w'

theorem copyCheck_calls (B b : Nat) (bs : List Value) (w : World) (h : IsB B b bs w) :
    Calls Tryz.prog 99 #[.pointer (some ⟨b, 0, none⟩)] w fun e w' => e = .returned (.tuple #[]) ∧ (Lib.BuilderAtF 137 5 B b (.pointer (some ⟨b, 0, none⟩)) bs w' ∧ Below B w w' ∧ Lib.OthersKept 5 (some b) w w') := by
  rcases h with h | h
  · refine (copyCheck_fresh b w h.cell0 h.shape h.frozen0).mono ?_
    rintro e w' ⟨rfl, rfl⟩
    exact ⟨rfl, h.used _, (Below.refl B w).setCell (p := ⟨b, 0, none⟩) h.1 _, (Lib.OthersKept.refl _ _ w).setCell ⟨b, 0, none⟩ rfl _⟩
  · refine (copyCheck_used b w h.cell0).mono ?_
    rintro e w' ⟨rfl, rfl⟩
    exact ⟨rfl, h, Below.refl B _, Lib.OthersKept.refl _ _ _⟩

theorem infoByte : (Tryz.prog.info? 5).map (fun i => (i.zero, i.size, i.bytes)) = some (some (.int .u8 0), 1, 1) := by kernel_rfl

set_option maxHeartbeats 2000000 in
set_option maxRecDepth 100000 in
theorem write_string_calls (B b : Nat) (bs : List Value) (s : ByteArray) (w : World) (h : IsB B b bs w) (hlen : bs.length + s.size ≤ 140737488355328) (hBw : B ≤ w.heap.size) :
    Calls Tryz.prog 58 #[.pointer (some ⟨b, 0, none⟩), .string s] w fun e w' => e = .returned (.tuple #[.int .i64 s.size, .nilIface]) ∧ (IsB B b (bs ++ Lib.strCells s) w' ∧ KeptB B b w w') := by
  obtain ⟨i0, hi, hz0, hz1, hz2⟩ := info_parts infoByte
  go_enter Tryz.func58, Tryz.ntmps58
  go_wp2_with fail
  refine (copyCheck_calls B b bs _ h).mono ?_
  rintro e w1 ⟨rfl, h1, hb1, hk1⟩
  obtain ⟨hB, v, hbk, hown, hne⟩ := h1
  have c0 : w1.cell? ⟨b, 0, none⟩ = some (.pointer (some ⟨b, 0, none⟩)) := by rw [Lib.cell_of_heap hbk]; rfl
  have c1 : w1.cell? ⟨b, 1, none⟩ = some v := by rw [Lib.cell_of_heap hbk]; rfl
  go_wp2_with (at_builtin; refine Lib.wpList_append_own_stringF _ rfl _ _ 115 9 rfl B 5 i0 Tryz.underlying115 Tryz.underlying9 hi hz0 hz1 hz2 _ _ _ rfl hown s rfl ?c3 ?c4 ?c5 ?_)
  case c3 => unfold maxLen; omega
  case c4 => omega
  case c5 => have := hb1.size; omega
  intro v' w2 hown' hgrow _
  have hlt : b < w1.heap.size := by
    rcases Nat.lt_or_ge b w1.heap.size with h' | h'
    · exact h'
    · simp [Array.getElem?_eq_none h'] at hbk
  have hb2 : w2.heap[b]? = some (.cells #[.pointer (some ⟨b, 0, none⟩), v] 137 (0, 0)) := by
    rw [hgrow.block b hlt (fun e => hne e.symm)]
    exact hbk
  have d0 : w2.cell? ⟨b, 0, none⟩ = some (.pointer (some ⟨b, 0, none⟩)) := by rw [Lib.cell_of_heap hb2]; rfl
  have d1 : w2.cell? ⟨b, 1, none⟩ = some v := by rw [Lib.cell_of_heap hb2]; rfl
  have f1 : w2.frozen? ⟨b, 1, none⟩ = false := Lib.frozen_of_heap hb2 1
  obtain ⟨ao, n', cap, rfl⟩ : ∃ ao n' cap, v' = .slice ao n' cap := by
    rcases hown'.2 with ⟨hv, _⟩ | ⟨g, cap, cur, fz, hv, _⟩
    · exact ⟨_, _, _, hv⟩
    · exact ⟨_, _, _, hv⟩
  go_wp2_with fail
  go_ret2
  refine ⟨rfl, Or.inr ?_, ?_, (hk1.grown hgrow (Lib.ownsRowF_kind hown)).setCell ⟨b, 1, none⟩ rfl _⟩
  · exact Lib.BuilderAtF.put (T := 137) (e := 5) hB hb2 (bs' := bs ++ Lib.strCells s) (by simpa [Lib.strCells_length] using hown') (by decide)
  · exact (hb1.grown hgrow (by have := hb1.size; omega) (fun k hk => (hown.lt k hk).1)).setCell (p := ⟨b, 1, none⟩) hB _

def stringRen : Go.Shelf.Ren := ⟨fun | 169 => 62 | n => n, fun | 70 => 135 | 9 => 9 | 0 => 0 | 72 => 137 | 37 => 115 | 127 => 194 | 3 => 3 | 5 => 5 | n => n, fun | n => n⟩
theorem stringLays : Go.Proofs.Lays.n169 Tryz.prog stringRen := {
  mixed := by kernel_rfl
  f169 := Tryz.func62.trans (congrArg some (by kernel_rfl))
  t0 := Tryz.underlying0
  a0 := Tryz.isAgg0
  z0 := Tryz.sizeOf0
  v0 := Tryz.zeroValue0
  t3 := Tryz.underlying3
  a3 := Tryz.isAgg3
  z3 := Tryz.sizeOf3
  v3 := Tryz.zeroValue3
  t9 := Tryz.underlying9
  a9 := Tryz.isAgg9
  z9 := Tryz.sizeOf9
  v9 := Tryz.zeroValue9
  t37 := Tryz.underlying115
  a37 := Tryz.isAgg115
  z37 := Tryz.sizeOf115
  v37 := Tryz.zeroValue115
  t70 := Tryz.underlying135
  a70 := Tryz.isAgg135
  z70 := Tryz.sizeOf135
  v70 := Tryz.zeroValue135
  t72 := Tryz.underlying137
  a72 := Tryz.isAgg137
  z72 := Tryz.sizeOf137
  v72 := Tryz.zeroValue137
  t127 := Tryz.underlying194
  a127 := Tryz.isAgg194
  z127 := Tryz.sizeOf194
  v127 := Tryz.zeroValue194 }
theorem stringExtra : Builder.Extra Tryz.prog stringRen := {
  sizeBuilder := by kernel_rfl
  liesBuilder := by kernel_rfl
  t5 := Tryz.underlying5
  a5 := Tryz.isAgg5
  z5 := Tryz.sizeOf5
  v5 := Tryz.zeroValue5
  infoByte := by kernel_rfl
  cellsByte := by kernel_rfl
  sizeByte := by kernel_rfl
  neB5 := by decide }
theorem builder_string_calls (B b : Nat) (l : List UInt8) (w : World) (h : IsB B b (Lib.byteCells l) w) (hBw : B ≤ w.heap.size) :
    Calls Tryz.prog 62 #[.pointer (some ⟨b, 0, none⟩)] w fun e w' => e = .returned (.string (mkS l)) ∧ (IsB B b (Lib.byteCells l) w' ∧ KeptB B b w w') := Any.Builder_String_any_k stringLays stringExtra B b l w h hBw
end Go.Proofs.YtigihgbgdillpaaGreatDoor
