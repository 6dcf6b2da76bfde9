/- The contracts of sealingwaxref01.Get and GetText: they compute what the program's functions compute. -/
import Derived.Test.YtgjgjhikimnknaaRef01
set_option linter.unusedVariables false
set_option linter.unusedSimpArgs false
namespace Go.Proofs.Ytgjgjhikimnknaa
open Go.RowKit

theorem sub_cons (s : ByteArray) (a b : Nat) (h : a < s.size) : sub s a ((b + 1 : Nat) : Int) = s[a] :: sub s ((a + 1 : Nat) : Int) b := by
  unfold sub
  simp only [Int.toNat_natCast]
  rw [List.drop_eq_getElem_cons (by simpa [ls_length] using h), List.take_succ_cons]
  rfl
theorem bv_eight (s : ByteArray) (a : Nat) (h : a + 8 ≤ s.size) : bv (sub s a (8 : Nat)) < 9223372036854775808 ↔ s[a].toNat < 128 := by
  rw [show (8 : Nat) = 7 + 1 from rfl, sub_cons s a 7 (by omega), bv_cons, sub_length s (a + 1) 7 (by omega)]
  have h1 := bv_lt (sub s ((a + 1 : Nat) : Int) (7 : Nat))
  rw [sub_length s (a + 1) 7 (by omega)] at h1
  omega
theorem bv_small {l : List UInt8} {k : Nat} (hl : l.length = k) (hk : k < 8) : bv l < 72057594037927936 := by
  have h := bv_lt l
  have : 256 ^ l.length ≤ 256 ^ 7 := Nat.pow_le_pow_right (by omega) (by omega)
  omega

/-- The round: the number with one more byte, below the bound. -/
theorem ref_get_round (s : ByteArray) (a k b : Nat) (hk : k < b) (hb : b ≤ 8) (h : a + k < s.size) (hv : bv (sub s a b) < 9223372036854775808) (hab : a + b ≤ s.size) :
    wrap64 (wrap64 ((bv (sub s a k) : Int) * 256) + wrap64 (s[a + k].toNat : Int)) = (bv (sub s a ((k + 1 : Nat) : Int)) : Int) := by
  have hs : bv (sub s a ((k + 1 : Nat) : Int)) < 9223372036854775808 := by
    rcases Nat.lt_or_ge (k + 1) 8 with h8 | h8
    · have := bv_small (sub_length s a (k + 1) (by omega)) h8; omega
    · have : k + 1 = b := by omega
      rw [this]; exact hv
  rw [sub_succ s a k h, bv_snoc] at hs ⊢
  have := s[a + k].toNat_lt
  unfold wrap64
  omega

set_option maxRecDepth 100000 in
set_option maxHeartbeats 1000000 in
theorem ref_get_yes (s : ByteArray) (a b : Nat) (hs : s.size ≤ maxLen) (hb : sizeB b = true) (ht : a + b ≤ s.size) (hv : bv (sub s a b) < 9223372036854775808) (w : World) :
    Calls Try.prog 50 #[.string s, .int .i64 a, .int .i64 b] w fun e w' => e = .returned (.tuple #[.int .i64 (bv (sub s a b)), .int .i64 (a + b), .bool true]) ∧ w = w' := by
  have hb8 := sizeB_le8 hb
  have hb1 := (sizeB_range hb).1
  unfold maxLen at hs
  have n0 : decide ((a : Int) < 0) = false := by simp
  have n1 : decide (s.size < a) = false := by simp; omega
  have n2 : decide ((s.size : Int) - a < b) = false := by simp; omega
  have hax : a < s.size := by omega
  have hc : ((b : Int) == 8) = false ∨ (((b : Int) == 8) = true ∧ decide ((128 : Int) ≤ (s[a].toNat : Int)) = false) := by
    by_cases h : b = 8
    · subst h; exact Or.inr ⟨rfl, by have := (bv_eight s a ht).mp hv; simp; omega⟩
    · exact Or.inl (by simp; omega)
  have HB := Lib.hid hb
  have HV := Lib.hid hv
  clear hb hv
  rcases hc with hc | ⟨hc, hd⟩
  all_goals
    go_enter Try.func50, Try.ntmps50
    go_wp2_with fail
    refine (ref_size_calls b _).mono ?_
    rintro e w' ⟨rfl, rfl⟩
    rw [HB.out]
    go_wp2_with fail
    go_loop [9, 10] (fun u i => ∃ k : Nat, k ≤ b ∧ i = .int .i64 k ∧ u = .int .i64 (bv (sub s a k))) (fun _ i => b - (intOf i).toNat)
    case atStart => exact ⟨0, by omega, rfl, rfl⟩
    case round =>
      obtain ⟨k, hk, rfl, rfl⟩ := hrel
      by_cases hlt : k < b
      · have hx : a + k < s.size := by omega
        go_wp2
        go_round
        case rel => exact ⟨k + 1, by omega, by go_num, by rw [← ref_get_round s a k b hlt hb8 hx HV.out ht]⟩
        case measure => simp [intOf]; omega
      · obtain rfl : k = b := by omega
        go_wp2
        go_ret3
        exact ⟨rfl, rfl⟩

set_option maxHeartbeats 400000 in
theorem ref_get_no (s : ByteArray) (a b : Int) (hs : s.size ≤ maxLen) (hno : getF s a b = none) (w : World) :
    Calls Try.prog 50 #[.string s, .int .i64 a, .int .i64 b] w fun e w' => e = .returned (.tuple #[.int .i64 0, .int .i64 0, .bool false]) ∧ w = w' := by
  unfold maxLen at hs
  cases hb : sizeB b with
  | false =>
    have HB := Lib.hid hb
    clear hb hno
    go_enter Try.func50, Try.ntmps50
    go_wp2_with fail
    refine (ref_size_calls b _).mono ?_
    rintro e w' ⟨rfl, rfl⟩
    rw [HB.out]
    go_wp2
    go_ret3
    exact ⟨rfl, rfl⟩
  | true =>
    obtain ⟨h1, h8⟩ := sizeB_range hb
    obtain ⟨b, rfl⟩ := Int.eq_ofNat_of_zero_le (show 0 ≤ b by omega)
    have HB := Lib.hid hb
    by_cases ha : a < 0
    · have n0 : decide (a < 0) = true := by simpa using ha
      clear hb hno
      go_enter Try.func50, Try.ntmps50
      go_wp2_with fail
      refine (ref_size_calls b _).mono ?_
      rintro e w' ⟨rfl, rfl⟩
      rw [HB.out]
      go_wp2
      go_ret3
      exact ⟨rfl, rfl⟩
    · obtain ⟨a, rfl⟩ := Int.eq_ofNat_of_zero_le (show 0 ≤ a by omega)
      have n0 : decide ((a : Int) < 0) = false := by simp
      by_cases h2 : s.size < a
      · have n1 : decide (s.size < a) = true := by simpa using h2
        clear hb hno
        go_enter Try.func50, Try.ntmps50
        go_wp2_with fail
        refine (ref_size_calls b _).mono ?_
        rintro e w' ⟨rfl, rfl⟩
        rw [HB.out]
        go_wp2
        go_ret3
        exact ⟨rfl, rfl⟩
      · have n1 : decide (s.size < a) = false := by simpa using h2
        by_cases h3 : s.size < a + b
        · have n2 : decide ((s.size : Int) - a < b) = true := by simp; omega
          clear hb hno
          go_enter Try.func50, Try.ntmps50
          go_wp2_with fail
          refine (ref_size_calls b _).mono ?_
          rintro e w' ⟨rfl, rfl⟩
          rw [HB.out]
          go_wp2
          go_ret3
          exact ⟨rfl, rfl⟩
        · have n2 : decide ((s.size : Int) - a < b) = false := by simp; omega
          have hth : thereB s a b = true := by simp [thereB]; omega
          have hv : ¬ bv (sub s a b) < 9223372036854775808 := by
            intro h
            simp [getF, hb, hth, h] at hno
          have h8' : b = 8 := by
            rcases Nat.lt_or_ge b 8 with h9 | h9
            · have := bv_small (sub_length s a b (by omega)) h9; omega
            · omega
          subst h8'
          have hax : a < s.size := by omega
          have n2' : decide ((s.size : Int) - a < 8) = false := by simp; omega
          clear n2
          have hd : decide ((128 : Int) ≤ (s[a].toNat : Int)) = true := by
            have := bv_eight s a (by omega)
            simp only [decide_eq_true_eq]
            omega
          clear hb hno hv hth HB
          have HB : Hid (sizeB 8 = true) := Lib.hid rfl
          go_enter Try.func50, Try.ntmps50
          go_wp2_with fail
          refine (ref_size_calls _ _).mono ?_
          rintro e w' ⟨rfl, rfl⟩
          rw [HB.out]
          go_wp2
          go_ret3
          exact ⟨rfl, rfl⟩

theorem ref_get_any (s : ByteArray) (a b : Int) (hs : s.size ≤ maxLen) (w : World) :
    Calls Try.prog 50 #[.string s, .int .i64 a, .int .i64 b] w fun e w' => e = .returned (getV (getF s a b)) ∧ w = w' := by
  cases h : getF s a b with
  | none => exact ref_get_no s a b hs h w
  | some p =>
    obtain ⟨n, next⟩ := p
    obtain ⟨h0, h1, h2, h3, h4, h5, h6⟩ := getF_le h
    obtain ⟨h7, h8⟩ := sizeB_range h3
    obtain ⟨b, rfl⟩ := Int.eq_ofNat_of_zero_le (show 0 ≤ b by omega)
    obtain ⟨a, rfl⟩ := Int.eq_ofNat_of_zero_le h0
    subst h1 h4
    exact ref_get_yes s a b hs h3 (by omega) h6 w

set_option maxHeartbeats 400000 in
theorem ref_get_text_calls (s : ByteArray) (a : Int) (hs : s.size ≤ maxLen) (w : World) :
    Calls Try.prog 51 #[.string s, .int .i64 a] w fun e w' => e = .returned (getTextV (getTextF s a)) ∧ w = w' := by
  have hs' := hs
  unfold maxLen at hs
  unfold getTextF
  cases hg : getF s a 2 with
  | none =>
    have HG := Lib.hid hg
    clear hg
    go_enter Try.func51, Try.ntmps51
    go_wp2_with fail
    refine (ref_get_any _ _ _ hs' _).mono ?_
    rintro e w' ⟨rfl, rfl⟩
    rw [HG.out]
    unfold getV
    go_wp2
    go_ret3
    exact ⟨rfl, rfl⟩
  | some p =>
    obtain ⟨n, next⟩ := p
    obtain ⟨h0, h1, h2, hx1, hx2, hn, hx3⟩ := getF_le hg
    have hn' : n < 65536 := by simpa using hn
    obtain ⟨next, rfl⟩ := Int.eq_ofNat_of_zero_le (show 0 ≤ next by omega)
    have HG := Lib.hid hg
    clear hg hn h1 hx1 hx2 hx3
    by_cases hle : (next : Int) + n ≤ s.size
    · have n2 : decide ((s.size : Int) - next < n) = false := by simp; omega
      simp only [hle, if_true]
      go_enter Try.func51, Try.ntmps51
      go_wp2_with fail
      refine (ref_get_any _ _ _ hs' _).mono ?_
      rintro e w' ⟨rfl, rfl⟩
      rw [HG.out]
      simp only [getV]
      go_wp2
      go_ret3
      exact ⟨by rw [getTextV, ← text_extract s next n]; rfl, rfl⟩
    · have n2 : decide ((s.size : Int) - next < n) = true := by simp; omega
      simp only [hle, if_false]
      go_enter Try.func51, Try.ntmps51
      go_wp2_with fail
      refine (ref_get_any _ _ _ hs' _).mono ?_
      rintro e w' ⟨rfl, rfl⟩
      rw [HG.out]
      simp only [getV]
      go_wp2
      go_ret3
      exact ⟨rfl, rfl⟩
end Go.Proofs.Ytgjgjhikimnknaa
