/- The contracts of the document's answers for numbers and texts (sealingwaxref01): they compute what the program's functions compute. -/
import Derived.Test.YtgjgjhikimnknaaText
set_option linter.unusedVariables false
set_option linter.unusedSimpArgs false
namespace Go.Proofs.Ytgjgjhikimnknaa
open Go.RowKit

set_option maxHeartbeats 400000 in
theorem ref_size_calls (n : Int) (w : World) :
    Calls Try.prog 42 #[.int .i64 n] w fun e w' => e = .returned (.bool (sizeB n)) ∧ w = w' := by
  unfold sizeB
  rcases (by omega : n = 1 ∨ n = 2 ∨ n = 4 ∨ (n ≠ 1 ∧ n ≠ 2 ∧ n ≠ 4)) with rfl | rfl | rfl | ⟨h1, h2, h3⟩
  · go_enter Try.func42, Try.ntmps42
    go_wp2
    go_ret
    exact ⟨rfl, rfl⟩
  · go_enter Try.func42, Try.ntmps42
    go_wp2
    go_ret
    exact ⟨rfl, rfl⟩
  · go_enter Try.func42, Try.ntmps42
    go_wp2
    go_ret
    exact ⟨rfl, rfl⟩
  · have e1 : (n == 1) = false := by simpa using h1
    have e2 : (n == 2) = false := by simpa using h2
    have e3 : (n == 4) = false := by simpa using h3
    go_enter Try.func42, Try.ntmps42
    go_wp2
    go_ret
    exact ⟨by simp [e1, e2, e3], rfl⟩

theorem one_byte (w : World) (x : Nat) : (convert 42 9 (.slice (some ⟨w.heap.size, 0, none⟩) 1 1)).run Try.prog (w.alloc (.cells #[.int .u8 ((x : Int) % 256)] 5)) = .ok (.string ⟨#[UInt8.ofNat x]⟩) (w.alloc (.cells #[.int .u8 ((x : Int) % 256)] 5)) := by
  have h := run_convert_bytes_back (P := Try.prog) (w.alloc (.cells #[.int .u8 ((x : Int) % 256)] 5)) 42 9 5 ⟨w.heap.size, 0, none⟩ 1 [UInt8.ofNat x] T29 U5 T9 (fun j hj => by
    have ha : (⟨w.heap.size, 0, none⟩ : Addr).add j = ⟨w.heap.size, j, none⟩ := by unfold Addr.add; split <;> simp_all
    rw [ha, World.cell?_alloc_at _ _ _ _ rfl]
    have : j = 0 := by simpa using hj
    subst this
    simp)
  exact h

/-- What is left of the number behind k rounds. -/
def leftOf (n k : Nat) : Nat := n / 256 ^ k
theorem leftOf_succ (n k : Nat) : leftOf n k / 256 = leftOf n (k + 1) := by simp [leftOf, Nat.pow_succ, Nat.div_div_eq_div_mul]
theorem leftOf_zero (n : Nat) : leftOf n 0 = n := by simp [leftOf]

theorem ref_put_step (n k : Nat) : (⟨#[UInt8.ofNat (leftOf n k)]⟩ : ByteArray) ++ mkS (be k n) = mkS (be (k + 1) n) := by
  apply eq_mkS
  rw [ls_append, ls_mkS]
  rfl

theorem cat_one {c : UInt8} {s : ByteArray} (h : s.size ≤ 8) : ¬ 9223372036854775807 < (⟨#[c]⟩ : ByteArray).size + s.size := by
  have : (⟨#[c]⟩ : ByteArray).size = 1 := rfl
  omega
theorem ref_put_zero {n b : Nat} (hb : sizeB b = true) (h : leftOf n b = 0) : putF n b = mkS (be b n) := by
  apply putF_of
  have hp : 0 < 256 ^ b := Nat.pow_pos (by omega)
  have : n < 256 ^ b := by
    unfold leftOf at h
    rcases Nat.lt_or_ge n (256 ^ b) with h1 | h1
    · exact h1
    · have := Nat.div_pos h1 hp; omega
  simp [fitsB, hb, this]
theorem ref_put_more {n b : Nat} (hb : sizeB b = true) (h : ¬ leftOf n b = 0) (hn : n ≤ 9223372036854775807) : putF n b = mkS [] := by
  have h1 : 256 ^ b ≤ n := by
    rcases Nat.lt_or_ge n (256 ^ b) with h1 | h1
    · exact absurd (Nat.div_eq_of_lt h1) h
    · exact h1
  have h2 : ¬ 8 ≤ b := fun h8 => by
    have : 256 ^ 8 ≤ 256 ^ b := Nat.pow_le_pow_right (by omega) h8
    omega
  have e1 : decide (n < 256 ^ b) = false := by simp; omega
  have e2 : decide ((8 : Int) ≤ (b : Int)) = false := by simp; omega
  simp [putF, fitsB, e1, e2, mkS]

set_option maxHeartbeats 1000000 in
theorem ref_put_loop (n : Nat) (b : Nat) (hb : sizeB b = true) (hn : n ≤ 9223372036854775807) (w : World) :
    Calls Try.prog 25 #[.int .i64 n, .int .i64 b] w fun e w' => e = .returned (.string (putF n b)) ∧ Below w.heap.size w w' := by
  have hb8 := sizeB_le8 hb
  have hneg : decide ((n : Int) < 0) = false := by simp
  have HB := Lib.hid hb
  clear hb
  go_enter Try.func25, Try.ntmps25
  go_wp2_with fail
  refine (ref_size_calls b _).mono ?_
  rintro e w' ⟨rfl, rfl⟩
  rw [HB.out]
  go_wp2_with fail
  go_loopw [0, 5, 6] (fun m s i wr => ∃ k : Nat, k ≤ b ∧ i = .int .i64 k ∧ m = .int .i64 (leftOf n k) ∧ s = .string (mkS (be k n)) ∧ Below w.heap.size w wr) (fun _ _ i _ => b - (intOf i).toNat)
  case atStart => exact ⟨0, by omega, rfl, by rw [leftOf_zero], rfl, Below.refl _ _⟩
  case round =>
    obtain ⟨k, hk, rfl, rfl, rfl, hbel⟩ := hrel
    by_cases hlt : k < b
    · have hm0 : 0 ≤ (leftOf n k : Int) := by omega
      have hm1 : (leftOf n k : Int) ≤ 9223372036854775807 := by have := Nat.div_le_self n (256 ^ k); unfold leftOf; omega
      have hsz : (mkS (be k n)).size ≤ 8 := by simp [mkS, ByteArray.size, be_length]; omega
      have hone := one_byte wr (leftOf n k)
      have hcat : ¬ 9223372036854775807 < (⟨#[UInt8.ofNat (leftOf n k)]⟩ : ByteArray).size + (mkS (be k n)).size := cat_one hsz
      go_wp2
      go_roundw
      case rel => exact ⟨k + 1, by omega, by go_num, by rw [← leftOf_succ, Int.natCast_ediv]; rfl, by rw [ref_put_step], hbel.alloc hbel.size _⟩
      case measure => simp [intOf]; omega
    · obtain rfl : k = b := by omega
      by_cases hz : leftOf n k = 0
      · have hz' : decide (0 < leftOf n k) = false := by simp; omega
        have HZ := Lib.hid hz
        clear hz
        go_wp2
        go_ret
        exact ⟨by rw [ref_put_zero HB.out HZ.out]; rfl, hbel⟩
      · have hz' : decide (0 < leftOf n k) = true := by simp; omega
        have HZ := Lib.hid hz
        clear hz
        go_wp2
        go_ret
        exact ⟨by rw [ref_put_more HB.out HZ.out hn]; rfl, hbel⟩

set_option maxHeartbeats 400000 in
theorem ref_put_any (n b : Int) (hn : n ≤ 9223372036854775807) (w : World) :
    Calls Try.prog 25 #[.int .i64 n, .int .i64 b] w fun e w' => e = .returned (.string (putF n b)) ∧ Below w.heap.size w w' := by
  cases hb : sizeB b with
  | false =>
    have HE : Hid (putF n b = ⟨#[]⟩) := Lib.hid (by simp [putF, fitsB, hb])
    have HB := Lib.hid hb
    clear hb
    go_enter Try.func25, Try.ntmps25
    go_wp2_with fail
    refine (ref_size_calls b _).mono ?_
    rintro e w' ⟨rfl, rfl⟩
    rw [HB.out]
    go_wp2
    go_ret
    exact ⟨by rw [HE.out]; rfl, Below.refl _ _⟩
  | true =>
    by_cases h0 : n < 0
    · have HE : Hid (putF n b = ⟨#[]⟩) := Lib.hid (by
        have : decide (0 ≤ n) = false := by simp; omega
        simp [putF, fitsB, this])
      have HB := Lib.hid hb
      clear hb
      go_enter Try.func25, Try.ntmps25
      go_wp2_with fail
      refine (ref_size_calls b _).mono ?_
      rintro e w' ⟨rfl, rfl⟩
      rw [HB.out]
      go_wp2
      go_ret
      exact ⟨by rw [HE.out]; rfl, Below.refl _ _⟩
    · obtain ⟨h1, h2⟩ := sizeB_range hb
      obtain ⟨b, rfl⟩ := Int.eq_ofNat_of_zero_le (show 0 ≤ b by omega)
      obtain ⟨n, rfl⟩ := Int.eq_ofNat_of_zero_le (show 0 ≤ n by omega)
      exact ref_put_loop n b hb (by omega) w

set_option maxHeartbeats 400000 in
theorem ref_put_text_calls (t : ByteArray) (ht : t.size ≤ maxLen) (w : World) :
    Calls Try.prog 43 #[.string t] w fun e w' => e = .returned (putTextV (putTextF t)) ∧ Below w.heap.size w w' := by
  unfold maxLen at ht
  unfold putTextF
  by_cases h : t.size ≤ 65535
  · have h' : decide ((65535 : Int) < (t.size : Int)) = false := by simp; omega
    have hle := putF_size (t.size : Int) 2
    have hcat : ¬ 9223372036854775807 < (putF (t.size : Int) 2).size + t.size := by omega
    rw [if_pos h]
    go_enter Try.func43, Try.ntmps43
    go_wp2_with fail
    refine (ref_put_any _ _ (by omega) _).mono ?_
    rintro e w' ⟨rfl, hb⟩
    go_wp2_with fail
    go_ret2
    exact ⟨by rw [put_text_eq t h]; rfl, hb⟩
  · have h' : decide ((65535 : Int) < (t.size : Int)) = true := by simp; omega
    rw [if_neg h]
    go_enter Try.func43, Try.ntmps43
    go_wp2
    go_ret2
    exact ⟨rfl, Below.refl _ _⟩
end Go.Proofs.Ytgjgjhikimnknaa
