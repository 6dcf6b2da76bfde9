/- The contract of names.Check: it tells whether a text is a name. -/
import Derived.Test.YtgjgjhikimnknaaText
import Derived.Laws.IdiomStrings
import Derived.WalkLawsBesides
set_option linter.unusedVariables false
set_option linter.unusedSimpArgs false
namespace Go.Proofs.Ytgjgjhikimnknaa
open Go.RowKit

def okR (r : Int) : Bool := (decide (97 ≤ r) && decide (r ≤ 122)) || ((decide (48 ≤ r) && decide (r ≤ 57)) || (r == 45 || r == 46))
theorem okR_cases (r : Int) : (97 ≤ r ∧ r ≤ 122 ∧ okR r = true) ∨ (97 ≤ r ∧ 122 < r ∧ okR r = false) ∨ (r < 97 ∧ 48 ≤ r ∧ r ≤ 57 ∧ okR r = true) ∨ (r < 97 ∧ 57 < r ∧ okR r = false) ∨ (r = 45 ∧ okR r = true) ∨ (r = 46 ∧ okR r = true) ∨ (r < 48 ∧ r ≠ 45 ∧ r ≠ 46 ∧ okR r = false) := by
  have key : okR r = true ↔ ((97 ≤ r ∧ r ≤ 122) ∨ (48 ≤ r ∧ r ≤ 57) ∨ r = 45 ∨ r = 46) := by simp [okR]
  cases h : okR r with
  | true => rw [h] at key; simp at key; simp; omega
  | false => rw [h] at key; simp at key; simp; omega

set_option maxHeartbeats 1000000 in
theorem odd_calls (r : Int) (w : World) :
    Calls Try.prog 45 #[.int .i32 r] w fun e w' => e = .returned (.bool (!okR r)) ∧ w = w' := by
  rcases okR_cases r with ⟨h1, h2, h⟩ | ⟨h1, h2, h⟩ | ⟨h1, h2, h3, h⟩ | ⟨h1, h2, h⟩ | ⟨rfl, h⟩ | ⟨rfl, h⟩ | ⟨h1, h2, h3, h⟩
  · rw [h]
    have a1 : decide (97 ≤ r) = true := by simpa using h1
    have a2 : decide (r ≤ 122) = true := by simpa using h2
    clear h
    go_enter Try.func45, Try.ntmps45
    go_wp2
    go_ret
    exact ⟨rfl, rfl⟩
  · rw [h]
    have a1 : decide (97 ≤ r) = true := by simpa using h1
    have a2 : decide (r ≤ 122) = false := by simpa using h2
    have a3 : decide (48 ≤ r) = true := by simp; omega
    have a4 : decide (r ≤ 57) = false := by simp; omega
    have a5 : (r == 45) = false := by simp; omega
    have a6 : (r == 46) = false := by simp; omega
    clear h
    go_enter Try.func45, Try.ntmps45
    go_wp2
    go_ret
    exact ⟨rfl, rfl⟩
  · rw [h]
    have a1 : decide (97 ≤ r) = false := by simpa using h1
    have a3 : decide (48 ≤ r) = true := by simp; omega
    have a4 : decide (r ≤ 57) = true := by simp; omega
    clear h
    go_enter Try.func45, Try.ntmps45
    go_wp2
    go_ret
    exact ⟨rfl, rfl⟩
  · rw [h]
    have a1 : decide (97 ≤ r) = false := by simpa using h1
    have a3 : decide (48 ≤ r) = true := by simp; omega
    have a4 : decide (r ≤ 57) = false := by simp; omega
    have a5 : (r == 45) = false := by simp; omega
    have a6 : (r == 46) = false := by simp; omega
    clear h
    go_enter Try.func45, Try.ntmps45
    go_wp2
    go_ret
    exact ⟨rfl, rfl⟩
  · go_enter Try.func45, Try.ntmps45
    go_wp2
    go_ret
    exact ⟨rfl, rfl⟩
  · go_enter Try.func45, Try.ntmps45
    go_wp2
    go_ret
    exact ⟨rfl, rfl⟩
  · rw [h]
    have a1 : decide (97 ≤ r) = false := by simp; omega
    have a3 : decide (48 ≤ r) = false := by simp; omega
    have a5 : (r == 45) = false := by simpa using h2
    have a6 : (r == 46) = false := by simpa using h3
    clear h
    go_enter Try.func45, Try.ntmps45
    go_wp2
    go_ret
    exact ⟨rfl, rfl⟩

/-- None of the first k is odd. -/
def okTo (rs : List Int) (k : Nat) : Prop := ∀ r ∈ rs.take k, okR r = true
theorem okTo_succ {rs : List Int} {k : Nat} (h : k < rs.length) (hs : okTo rs k) (h1 : okR rs[k] = true) : okTo rs (k + 1) := fun r hm => by
  rw [List.take_succ_eq_append_getElem h] at hm
  rcases List.mem_append.1 hm with h2 | h2
  · exact hs r h2
  · simp at h2; subst h2; exact h1

set_option maxHeartbeats 1000000 in
theorem index_func_calls (rs : List Int) (b cap : Nat) (hlen : rs.length ≤ maxLen) (w : World) (hc : ∀ i (h : i < rs.length), w.cell? ⟨b, i, none⟩ = some (.int .i32 rs[i])) :
    Calls Try.prog 54 #[.slice (some ⟨b, 0, none⟩) rs.length cap, .func (.func 45) #[] #[]] w
      fun e w' => (∃ n : Int, e = .returned (.int .i64 n) ∧ (decide (0 ≤ n)) = !(rs.all okR)) ∧ w = w' := by
  unfold maxLen at hlen
  have HC := Lib.hid hc
  clear hc
  go_enter Try.func54, Try.ntmps54
  go_wp2_with fail
  go_loop [8] (fun i => ∃ k : Nat, k ≤ rs.length ∧ i = .int .i64 k ∧ Hid (okTo rs k)) (fun i => rs.length - (intOf i).toNat)
  case atStart => exact ⟨0, by omega, rfl, fun r hr => by simp at hr⟩
  case round =>
    obtain ⟨k, hk, rfl, hok⟩ := hrel
    by_cases hlt : k < rs.length
    · have hcell := HC.out k hlt
      have HS : okR rs[k] = true → Hid (okTo rs (k + 1)) := fun h => okTo_succ hlt hok.out h
      have HN : okR rs[k] = false → Hid (rs.all okR = false) := fun h => by
        show _ = _
        rw [List.all_eq_false]
        exact ⟨rs[k], List.getElem_mem hlt, by simp [h]⟩
      generalize rs[k] = r at *
      go_wp2_with fail
      refine (odd_calls r w).mono ?_
      rintro e w' ⟨rfl, rfl⟩
      cases ho : okR r with
      | true =>
        have HS' := HS ho
        clear HS HN ho
        go_wp2_with fail
        go_round
        case rel => exact ⟨k + 1, by omega, by go_num, HS'⟩
        case measure => simp [intOf]; omega
      | false =>
        have HN' := HN ho
        clear HS HN ho
        go_wp2_with fail
        go_ret
        exact ⟨⟨k, rfl, by rw [HN'.out]; simp⟩, rfl⟩
    · obtain rfl : k = rs.length := by omega
      go_wp2_with fail
      go_ret
      refine ⟨⟨-1, rfl, ?_⟩, rfl⟩
      have : rs.all okR = true := List.all_eq_true.2 (fun r hr => hok.out r (by rw [List.take_length]; exact hr))
      rw [this]; rfl

set_option maxHeartbeats 1000000 in
theorem contains_func_calls (rs : List Int) (b cap : Nat) (hlen : rs.length ≤ maxLen) (w : World) (hc : ∀ i (h : i < rs.length), w.cell? ⟨b, i, none⟩ = some (.int .i32 rs[i])) :
    Calls Try.prog 46 #[.slice (some ⟨b, 0, none⟩) rs.length cap, .func (.func 45) #[] #[]] w
      fun e w' => e = .returned (.bool !(rs.all okR)) ∧ w = w' := by
  have HC := Lib.hid hc
  clear hc
  go_enter Try.func46, Try.ntmps46
  go_wp2_with fail
  refine (index_func_calls rs b cap hlen w HC.out).mono ?_
  rintro e w' ⟨⟨n, rfl, hn⟩, rfl⟩
  have HN := Lib.hid hn
  clear hn
  go_wp2_with fail
  go_ret
  exact ⟨by rw [← HN.out]; rfl, rfl⟩

/-! ### The runes of a text, as far as names.Check asks -/
def runesL (s : ByteArray) : (bound i : Nat) → List Int
  | 0, _ => []
  | bound + 1, i => if i < s.size then ((Utf8.decode s i).1 : Int) :: runesL s bound (i + (Utf8.decode s i).2) else []
theorem runesFrom_eq (s : ByteArray) : ∀ (bound i : Nat) (acc : Array Value), Conv.runesFrom s bound i acc = acc ++ ((runesL s bound i).map (Value.int .i32)).toArray
  | 0, i, acc => by simp [Conv.runesFrom, runesL]
  | bound + 1, i, acc => by
    by_cases h : i < s.size
    · simp only [Conv.runesFrom, runesL, h, if_true]
      rw [runesFrom_eq s bound]
      simp
    · simp [Conv.runesFrom, runesL, h]
theorem runesL_length (s : ByteArray) : ∀ (bound i : Nat), (runesL s bound i).length ≤ bound
  | 0, i => by simp [runesL]
  | bound + 1, i => by
    unfold runesL
    split
    · have := runesL_length s bound (i + (Utf8.decode s i).2); simp; omega
    · simp

theorem decode_ascii (s : ByteArray) (i : Nat) (h : i < s.size) (h1 : s[i].toNat < 128) : Utf8.decode s i = (s[i].toNat, 1) := by
  have e : (s.get! (i + 0)).toNat = s[i].toNat := by
    have : s.get! (i + 0) = s[i] := by
      show s.data[i]! = s.data[i]
      exact getElem!_pos s.data i h
    rw [this]
  unfold Utf8.decode
  simp only [e]
  rw [if_pos h1]
theorem decode_high (s : ByteArray) (i : Nat) (h : i < s.size) (h1 : ¬ s[i].toNat < 128) : 128 ≤ (Utf8.decode s i).1 := by
  have e : (s.get! (i + 0)).toNat = s[i].toNat := by
    have : s.get! (i + 0) = s[i] := by
      show s.data[i]! = s.data[i]
      exact getElem!_pos s.data i h
    rw [this]
  unfold Utf8.decode
  simp only [e]
  rw [if_neg h1]
  split
  · split
    · simp only; omega
    · decide
  · split
    · split
      · rename_i h2; simp only [Bool.and_eq_true, decide_eq_true_eq] at h2; simp only; omega
      · decide
    · split
      · split
        · rename_i h2; simp only [Bool.and_eq_true, decide_eq_true_eq] at h2; simp only; omega
        · decide
      · decide
theorem okR_high {r : Int} (h : 128 ≤ r) : okR r = false := by rcases okR_cases r with h | h | h | h | h | h | h <;> first | exact h.2.2.2 | exact h.2.2 | (exfalso; omega)
theorem runes_ok (s : ByteArray) : ∀ (bound i : Nat), s.size - i ≤ bound → (runesL s bound i).all okR = ((ls s).drop i).all fun c => okR (c.toNat : Int)
  | 0, i, h => by
    have : (ls s).drop i = [] := List.drop_eq_nil_of_le (by rw [ls_length]; omega)
    rw [this]; rfl
  | bound + 1, i, h => by
    unfold runesL
    split
    · rename_i hi
      have hd : (ls s).drop i = s[i] :: (ls s).drop (i + 1) := by rw [List.drop_eq_getElem_cons (by rw [ls_length]; exact hi)]; rfl
      rw [hd]
      by_cases h1 : s[i].toNat < 128
      · rw [decode_ascii s i hi h1]
        simp only [List.all_cons]
        rw [runes_ok s bound (i + 1) (by omega)]
      · have h2 := decode_high s i hi h1
        have e1 : okR ((Utf8.decode s i).1 : Int) = false := okR_high (by omega)
        have e2 : okR (s[i].toNat : Int) = false := okR_high (by omega)
        simp only [List.all_cons, e1, e2, Bool.false_and]
    · rename_i hi
      have : (ls s).drop i = [] := List.drop_eq_nil_of_le (by rw [ls_length]; omega)
      rw [this]; rfl

/-- OK, or an error. -/
def errOf (b : Bool) (n : Int) : Int := if b then 0 else n
/-- Is a text a name? -/
def nameOk (s : ByteArray) : Bool := decide (1 ≤ s.size) && (decide (s.size ≤ 12) && (!((ls s).headD 0 == 46) && (ls s).all fun c => okR (c.toNat : Int)))

theorem U21 : Try.prog.underlying 21 = some (.int .i32) := by kernel_rfl
theorem U80 : Try.prog.underlying 80 = some (.slice 21) := by kernel_rfl

theorem empty_toList (s : ByteArray) (h : s.size = 0) : s.toList = [] := by
  have : s.toList.length = 0 := by rw [ByteArray.toList_eq]; exact h
  exact List.eq_nil_of_length_eq_zero this
theorem toList_empty (s : ByteArray) (h : s.size ≠ 0) : s.toList ≠ [] := fun h' => h (by
  have : s.toList.length = 0 := by rw [h']; rfl
  rw [ByteArray.toList_eq] at this; exact this)
theorem head_at (s : ByteArray) (h : 0 < s.size) : (ls s).headD 0 = s[0] := by
  have : ls s = s[0] :: (ls s).drop 1 := by
    have := List.drop_eq_getElem_cons (l := ls s) (i := 0) (by rw [ls_length]; exact h)
    rw [List.drop_zero] at this
    exact this
  rw [this]; rfl

set_option maxHeartbeats 1000000 in
theorem names_check_short (s : ByteArray) (h : s.size = 0) (w : World) :
    Calls Try.prog 29 #[.string s] w fun e w' => e = .returned (.int .i64 130) ∧ Below w.heap.size w w' := by
  have f1 := empty_toList s h
  clear h
  go_enter Try.func29, Try.ntmps29
  go_wp2
  go_ret
  exact ⟨rfl, Below.refl _ _⟩
set_option maxHeartbeats 1000000 in
theorem names_check_long (s : ByteArray) (h : 12 < s.size) (hs : s.size ≤ 9223372036854775807) (w : World) :
    Calls Try.prog 29 #[.string s] w fun e w' => e = .returned (.int .i64 130) ∧ Below w.heap.size w w' := by
  have f1 : s.toList.isEmpty = false := by simpa using toList_empty s (by omega)
  have f2 : decide ((12 : Int) < (s.size : Int)) = true := by simp; omega
  go_enter Try.func29, Try.ntmps29
  go_wp2
  go_ret
  exact ⟨rfl, Below.refl _ _⟩
set_option maxHeartbeats 1000000 in
theorem names_check_dot (s : ByteArray) (h : 0 < s.size) (h12 : s.size ≤ 12) (hd : (s[0].toNat : Int) = 46) (w : World) :
    Calls Try.prog 29 #[.string s] w fun e w' => e = .returned (.int .i64 130) ∧ Below w.heap.size w w' := by
  have f1 : s.toList.isEmpty = false := by simpa using toList_empty s (by omega)
  have f2 : decide ((12 : Int) < (s.size : Int)) = false := by simp; omega
  have f3 : ((s[0].toNat : Int) == 46) = true := by simpa using hd
  clear hd
  go_enter Try.func29, Try.ntmps29
  go_wp2
  go_ret
  exact ⟨rfl, Below.refl _ _⟩

theorem rune_cells (w : World) (rs : List Int) (m : Nat) : ∀ i (h : i < rs.length), (w.drew.alloc (.cells ((rs.map (Value.int .i32)).toArray ++ Array.replicate m (.int .i32 0)) 21)).cell? ⟨w.heap.size, i, none⟩ = some (.int .i32 rs[i]) := fun i h => by
  have e : w.heap.size = w.drew.heap.size := rfl
  rw [e, World.cell?_alloc_at _ _ _ _ rfl, Array.getElem?_append_left (by simpa using h)]
  simp [h]

set_option maxHeartbeats 1000000 in
theorem names_check_rest (s : ByteArray) (h : 0 < s.size) (h12 : s.size ≤ 12) (hd : ¬ (s[0].toNat : Int) = 46) (w : World) :
    Calls Try.prog 29 #[.string s] w fun e w' => e = .returned (.int .i64 (errOf ((ls s).all (fun c => okR (c.toNat : Int))) 130)) ∧ Below w.heap.size w w' := by
  have f1 : s.toList.isEmpty = false := by simpa using toList_empty s (by omega)
  have f2 : decide ((12 : Int) < (s.size : Int)) = false := by simp; omega
  have f3 : ((s[0].toNat : Int) == 46) = false := by simpa using hd
  have hr := runesFrom_eq s s.size 0 #[]
  rw [Array.empty_append] at hr
  have hl := runesL_length s s.size 0
  have hrun := run_runes_of_string (P := Try.prog) w 9 80 21 s T9 U80 U21 (by rw [hr]; simp; omega)
  have hall := runes_ok s s.size 0 (by omega)
  rw [List.drop_zero] at hall
  rw [← hall]
  rw [hr] at hrun
  clear hr hd hall
  generalize runesL s s.size 0 = rs at *
  rw [show (rs.map (Value.int .i32)).toArray.size = rs.length by simp] at hrun
  have HC := Lib.hid (rune_cells w rs (grownCap w rs.length 0 21 - rs.length))
  have HB : Hid (Below w.heap.size w (w.drew.alloc (.cells ((rs.map (Value.int .i32)).toArray ++ Array.replicate (grownCap w rs.length 0 21 - rs.length) (.int .i32 0)) 21))) := Lib.hid ((Below.refl _ _).drew.alloc (Nat.le_refl _) _)
  generalize w.drew.alloc (.cells ((rs.map (Value.int .i32)).toArray ++ Array.replicate (grownCap w rs.length 0 21 - rs.length) (.int .i32 0)) 21) = w1 at *
  generalize grownCap w rs.length 0 21 = cap at *
  go_enter Try.func29, Try.ntmps29
  go_wp2_with fail
  refine (contains_func_calls rs w.heap.size cap (by unfold maxLen; omega) w1 HC.out).mono ?_
  rintro e w' ⟨rfl, rfl⟩
  cases hb : rs.all okR with
  | true =>
    have HE : Hid (Ending.returned (Value.int .i64 0) = .returned (.int .i64 (errOf (rs.all okR) 130))) := Lib.hid (by rw [hb]; rfl)
    rw [Bool.not_true]
    clear hb
    go_wp2_with fail
    go_ret
    exact ⟨by rw [← HE.out]; rfl, HB.out⟩
  | false =>
    have HE : Hid (Ending.returned (Value.int .i64 130) = .returned (.int .i64 (errOf (rs.all okR) 130))) := Lib.hid (by rw [hb]; rfl)
    rw [Bool.not_false]
    clear hb
    go_wp2_with fail
    go_ret
    exact ⟨by rw [← HE.out]; rfl, HB.out⟩

theorem names_check_calls (s : ByteArray) (hs : s.size ≤ maxLen) (w : World) :
    Calls Try.prog 29 #[.string s] w fun e w' => e = .returned (.int .i64 (errOf (nameOk s) 130)) ∧ Below w.heap.size w w' := by
  unfold maxLen at hs
  unfold nameOk
  by_cases h0 : s.size = 0
  · have : decide (1 ≤ s.size) = false := by simp [h0]
    rw [this]
    exact names_check_short s h0 w
  · have e0 : decide (1 ≤ s.size) = true := by simp; omega
    by_cases h12 : 12 < s.size
    · have : decide (s.size ≤ 12) = false := by simp; omega
      rw [e0, this]
      exact names_check_long s h12 (by omega) w
    · have e1 : decide (s.size ≤ 12) = true := by simp; omega
      rw [e0, e1, head_at s (by omega)]
      by_cases hd : (s[0].toNat : Int) = 46
      · have : (s[0] == 46) = true := by
          rw [beq_iff_eq]; apply UInt8.toNat_inj.mp; show s[0].toNat = 46; omega
        rw [this]
        exact names_check_dot s (by omega) (by omega) hd w
      · have : (s[0] == 46) = false := by
          rw [beq_eq_false_iff_ne]; intro h; apply hd; rw [h]; rfl
        rw [this]
        simpa using names_check_rest s (by omega) (by omega) hd w
end Go.Proofs.Ytgjgjhikimnknaa
