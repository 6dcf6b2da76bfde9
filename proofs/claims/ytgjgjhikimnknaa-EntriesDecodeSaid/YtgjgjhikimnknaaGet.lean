/- The contracts of words.there and words.Get. -/
import Derived.Test.YtgjgjhikimnknaaPut
import Derived.Laws.Bits64b
set_option linter.unusedVariables false
set_option linter.unusedSimpArgs false
namespace Go.Proofs.Ytgjgjhikimnknaa
open Go.RowKit

/-- The bytes of a string. -/
def ls (s : ByteArray) : List UInt8 := s.data.toList
theorem ls_length (s : ByteArray) : (ls s).length = s.size := rfl
def mkS (l : List UInt8) : ByteArray := ⟨l.toArray⟩
theorem ls_mkS (l : List UInt8) : ls (mkS l) = l := rfl
theorem mkS_ls (s : ByteArray) : mkS (ls s) = s := rfl

def thereB (s : ByteArray) (at_ n : Int) : Bool := decide (0 ≤ at_) && (decide (at_ ≤ (s.size : Int)) && decide (n ≤ (s.size : Int) - at_))

set_option maxHeartbeats 400000 in
theorem there_calls (s : ByteArray) (at_ n : Int) (hs : s.size ≤ maxLen) (w : World) :
    Calls Try.prog 55 #[.string s, .int .i64 at_, .int .i64 n] w fun e w' => e = .returned (.bool (thereB s at_ n)) ∧ w = w' := by
  unfold maxLen at hs
  unfold thereB
  by_cases h0 : 0 ≤ at_
  · by_cases h1 : at_ ≤ (s.size : Int)
    · have h0' : decide (0 ≤ at_) = true := by simpa using h0
      have h1' : decide (at_ ≤ (s.size : Int)) = true := by simpa using h1
      go_enter Try.func55, Try.ntmps55
      go_wp2
      go_ret
      exact ⟨by simp [h0', h1'], rfl⟩
    · have h0' : decide (0 ≤ at_) = true := by simpa using h0
      have h1' : decide (at_ ≤ (s.size : Int)) = false := by simpa using h1
      go_enter Try.func55, Try.ntmps55
      go_wp2
      go_ret
      exact ⟨by simp [h0', h1'], rfl⟩
  · have h0' : decide (0 ≤ at_) = false := by simpa using h0
    go_enter Try.func55, Try.ntmps55
    go_wp2
    go_ret
    exact ⟨by simp [h0'], rfl⟩

def bv (l : List UInt8) : Nat := l.foldl (fun a c => a * 256 + c.toNat) 0
theorem bv_snoc (l : List UInt8) (c : UInt8) : bv (l ++ [c]) = bv l * 256 + c.toNat := by simp [bv]
theorem bv_from (l : List UInt8) : ∀ a : Nat, l.foldl (fun a c => a * 256 + c.toNat) a = a * 256 ^ l.length + bv l := by
  induction l with
  | nil => intro a; simp [bv]
  | cons c l ih =>
    intro a
    have h1 := ih (a * 256 + c.toNat)
    have h2 := ih (0 * 256 + c.toNat)
    simp only [List.foldl_cons, bv, List.length_cons]
    rw [h1, h2, Nat.pow_succ, Nat.add_mul]
    simp only [Nat.zero_mul, Nat.zero_add, Nat.mul_assoc, Nat.mul_comm 256, Nat.add_assoc]
theorem bv_cons (c : UInt8) (l : List UInt8) : bv (c :: l) = c.toNat * 256 ^ l.length + bv l := by
  have := bv_from l c.toNat
  simpa [bv] using this
theorem bv_lt (l : List UInt8) : bv l < 256 ^ l.length := by
  induction l with
  | nil => simp [bv]
  | cons c l ih =>
    rw [bv_cons, List.length_cons, Nat.pow_succ]
    have := c.toNat_lt
    have h : c.toNat * 256 ^ l.length ≤ 255 * 256 ^ l.length := Nat.mul_le_mul_right _ (by omega)
    omega

def sub (s : ByteArray) (at_ n : Int) : List UInt8 := ((ls s).drop at_.toNat).take n.toNat
theorem sub_succ (s : ByteArray) (a k : Nat) (h : a + k < s.size) : sub s a ((k + 1 : Nat) : Int) = sub s a k ++ [s[a + k]] := by
  unfold sub
  simp only [Int.toNat_natCast]
  rw [List.take_succ_eq_append_getElem (by simp [ls_length]; omega)]
  simp [ls]
  rfl
theorem sub_length (s : ByteArray) (a k : Nat) (h : a + k ≤ s.size) : (sub s a k).length = k := by
  simp [sub, ls_length]; omega

theorem or_step (x c : Nat) (hx : x < 72057594037927936) (hc : c < 256) : bits .or .u64 (IntKind.u64.wrap ((x : Int) * 256)) (IntKind.u64.wrap (c : Int)) = ((x * 256 + c : Nat) : Int) := by
  have e1 : IntKind.u64.wrap ((x : Int) * 256) = ((x * 256 : Nat) : Int) := by
    simp only [IntKind.wrap, IntKind.signed, IntKind.bits]; simp; omega
  have e2 : IntKind.u64.wrap (c : Int) = ((c : Nat) : Int) := by
    simp only [IntKind.wrap, IntKind.signed, IntKind.bits]; simp; omega
  rw [e1, e2, bits_or_u64_nat _ _ (by omega) (by omega)]
  congr 1
  have := Nat.shiftLeft_add_eq_or_of_lt (i := 8) (b := c) (by simpa using hc) x
  rw [Nat.shiftLeft_eq] at this
  exact this.symm

theorem get_round (s : ByteArray) (a k b : Nat) (hk : k < b) (hb : b ≤ 8) (h : a + k < s.size) :
    bits .or .u64 (IntKind.u64.wrap ((bv (sub s a k) : Int) * 256)) (IntKind.u64.wrap (s[a + k].toNat : Int)) = (bv (sub s a ((k + 1 : Nat) : Int)) : Int) := by
  have hl := sub_length s a k (by omega)
  have hv := bv_lt (sub s a k)
  have : 256 ^ (sub s a k).length ≤ 256 ^ 7 := Nat.pow_le_pow_right (by omega) (by omega)
  rw [or_step _ _ (by omega) s[a + k].toNat_lt, sub_succ s a k h, bv_snoc]

theorem sizeB_le8 {b : Nat} (h : sizeB b = true) : b ≤ 8 := by have := sizeB_range h; omega
theorem wrap64_nat {x : Nat} (h : x < 9223372036854775808) : wrap64 (x : Int) = x := by unfold wrap64; omega
theorem top_no {x : Nat} (h : x < 9223372036854775808) : decide (0 < (x : Int) / 9223372036854775808) = false := by simp; omega
theorem top_yes {x : Nat} (h : 9223372036854775808 ≤ x) : decide (0 < (x : Int) / 9223372036854775808) = true := by simp; omega

set_option maxHeartbeats 400000 in
theorem get_yes (s : ByteArray) (a b : Nat) (hs : s.size ≤ maxLen) (hb : sizeB b = true) (ht : a + b ≤ s.size) (hv : bv (sub s a b) < 9223372036854775808) (w : World) :
    Calls Try.prog 47 #[.string s, .int .i64 a, .int .i64 b] w fun e w' => e = .returned (.tuple #[.int .i64 (bv (sub s a b)), .int .i64 (a + b), .bool true]) ∧ w = w' := by
  have hth : thereB s a b = true := by simp [thereB]; omega
  have hs' := hs
  unfold maxLen at hs
  have HB := Lib.hid hb
  have HT := Lib.hid hth
  have HV := Lib.hid hv
  clear hb hth hv
  go_enter Try.func47, Try.ntmps47
  go_wp2_with fail
  refine (size_calls b _).mono ?_
  rintro e w' ⟨rfl, rfl⟩
  rw [HB.out]
  go_wp2_with fail
  refine (there_calls s a b hs' _).mono ?_
  rintro e w' ⟨rfl, rfl⟩
  rw [HT.out]
  go_wp2_with fail
  go_loop [9, 22] (fun u i => ∃ k : Nat, k ≤ b ∧ i = .int .i64 k ∧ u = .int .u64 (bv (sub s a k))) (fun _ i => b - (intOf i).toNat)
  case atStart => exact ⟨0, by omega, rfl, rfl⟩
  case round =>
    obtain ⟨k, hk, rfl, rfl⟩ := hrel
    by_cases hlt : k < b
    · have hx : a + k < s.size := by omega
      go_wp2
      go_round
      case rel => exact ⟨k + 1, by omega, by go_num, by rw [get_round s a k b hlt (sizeB_le8 HB.out) hx]⟩
      case measure => simp [intOf]; omega
    · obtain rfl : k = b := by omega
      have hno : decide (0 < (bv (sub s a k) : Int) / 9223372036854775808) = false := top_no HV.out
      go_wp2
      go_ret3
      refine ⟨?_, rfl⟩
      show Ending.returned (.tuple #[.int .i64 (wrap64 (bv (sub s a k) : Int)), .int .i64 (a + k), .bool true]) = _
      rw [wrap64_nat HV.out]

set_option maxHeartbeats 400000 in
theorem get_top (s : ByteArray) (a b : Nat) (hs : s.size ≤ maxLen) (hb : sizeB b = true) (ht : a + b ≤ s.size) (hv : 9223372036854775808 ≤ bv (sub s a b)) (w : World) :
    Calls Try.prog 47 #[.string s, .int .i64 a, .int .i64 b] w fun e w' => e = .returned (.tuple #[.int .i64 0, .int .i64 0, .bool false]) ∧ w = w' := by
  have hth : thereB s a b = true := by simp [thereB]; omega
  have hs' := hs
  unfold maxLen at hs
  have HB := Lib.hid hb
  have HT := Lib.hid hth
  have HV := Lib.hid hv
  clear hb hth hv
  go_enter Try.func47, Try.ntmps47
  go_wp2_with fail
  refine (size_calls b _).mono ?_
  rintro e w' ⟨rfl, rfl⟩
  rw [HB.out]
  go_wp2_with fail
  refine (there_calls s a b hs' _).mono ?_
  rintro e w' ⟨rfl, rfl⟩
  rw [HT.out]
  go_wp2_with fail
  go_loop [9, 22] (fun u i => ∃ k : Nat, k ≤ b ∧ i = .int .i64 k ∧ u = .int .u64 (bv (sub s a k))) (fun _ i => b - (intOf i).toNat)
  case atStart => exact ⟨0, by omega, rfl, rfl⟩
  case round =>
    obtain ⟨k, hk, rfl, rfl⟩ := hrel
    by_cases hlt : k < b
    · have hx : a + k < s.size := by omega
      go_wp2
      go_round
      case rel => exact ⟨k + 1, by omega, by go_num, by rw [get_round s a k b hlt (sizeB_le8 HB.out) hx]⟩
      case measure => simp [intOf]; omega
    · obtain rfl : k = b := by omega
      have hno : decide (0 < (bv (sub s a k) : Int) / 9223372036854775808) = true := top_yes HV.out
      go_wp2
      go_ret3
      exact ⟨rfl, rfl⟩

set_option maxHeartbeats 400000 in
theorem get_no_size (s : ByteArray) (a b : Int) (hb : sizeB b = false) (w : World) :
    Calls Try.prog 47 #[.string s, .int .i64 a, .int .i64 b] w fun e w' => e = .returned (.tuple #[.int .i64 0, .int .i64 0, .bool false]) ∧ w = w' := by
  have HB := Lib.hid hb
  clear hb
  go_enter Try.func47, Try.ntmps47
  go_wp2_with fail
  refine (size_calls b _).mono ?_
  rintro e w' ⟨rfl, rfl⟩
  rw [HB.out]
  go_wp2
  go_ret3
  exact ⟨rfl, rfl⟩

set_option maxHeartbeats 400000 in
theorem get_not_there (s : ByteArray) (a b : Int) (hs : s.size ≤ maxLen) (hb : sizeB b = true) (hth : thereB s a b = false) (w : World) :
    Calls Try.prog 47 #[.string s, .int .i64 a, .int .i64 b] w fun e w' => e = .returned (.tuple #[.int .i64 0, .int .i64 0, .bool false]) ∧ w = w' := by
  have HB := Lib.hid hb
  have HT := Lib.hid hth
  clear hb hth
  go_enter Try.func47, Try.ntmps47
  go_wp2_with fail
  refine (size_calls b _).mono ?_
  rintro e w' ⟨rfl, rfl⟩
  rw [HB.out]
  go_wp2_with fail
  refine (there_calls s a b hs _).mono ?_
  rintro e w' ⟨rfl, rfl⟩
  rw [HT.out]
  go_wp2
  go_ret3
  exact ⟨rfl, rfl⟩

/-- What words.Get tells: the number and the place behind it, or nothing. -/
def getF (s : ByteArray) (a b : Int) : Option (Nat × Int) :=
  if sizeB b && thereB s a b then (if bv (sub s a b) < 9223372036854775808 then some (bv (sub s a b), a + b) else none) else none
def getV : Option (Nat × Int) → Value
  | some (n, next) => .tuple #[.int .i64 n, .int .i64 next, .bool true]
  | none => .tuple #[.int .i64 0, .int .i64 0, .bool false]

theorem get_any (s : ByteArray) (a b : Int) (hs : s.size ≤ maxLen) (w : World) :
    Calls Try.prog 47 #[.string s, .int .i64 a, .int .i64 b] w fun e w' => e = .returned (getV (getF s a b)) ∧ w = w' := by
  unfold getF
  cases hb : sizeB b with
  | false => simpa [getV] using get_no_size s a b hb w
  | true =>
    cases ht : thereB s a b with
    | false => simpa [getV] using get_not_there s a b hs hb ht w
    | true =>
      obtain ⟨h1, h2⟩ := sizeB_range hb
      obtain ⟨b, rfl⟩ := Int.eq_ofNat_of_zero_le (show 0 ≤ b by omega)
      have hth := ht
      simp [thereB] at ht
      obtain ⟨a, rfl⟩ := Int.eq_ofNat_of_zero_le ht.1
      by_cases hv : bv (sub s a b) < 9223372036854775808
      · simpa [hv, getV] using get_yes s a b hs hb (by omega) hv w
      · simpa [hv, getV] using get_top s a b hs hb (by omega) (by omega) w
end Go.Proofs.Ytgjgjhikimnknaa
