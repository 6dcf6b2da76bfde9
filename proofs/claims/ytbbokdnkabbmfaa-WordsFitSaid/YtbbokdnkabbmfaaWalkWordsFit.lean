/- The walk of WordsFit: the law returns true. -/
import Derived.Test.YtbbokdnkabbmfaaFitPlain
set_option linter.unusedVariables false
set_option linter.unusedSimpArgs false
namespace Go.Proofs.Ytbbokdnkabbmfaa
open Go.RowKit

set_option maxRecDepth 100000 in
set_option maxHeartbeats 2000000 in
theorem fit_walk1 (n m wh : Int) (hn : n ≤ 9223372036854775807) (hm : m ≤ 9223372036854775807) (hw0 : 0 ≤ wh) (hw1 : wh ≤ 255) (h : wh % 4 = 0) (w : World) :
    Calls Try.prog 4 #[.int .i64 n, .int .i64 m, .int .u8 wh] w fun e w' => e = .returned (.bool true) ∧ Below w.heap.size w w' := by
  have HF := Lib.hid (fits_of n m 1 256 rfl (by omega) rfl)
  go_enter Try.func4, Try.ntmps4
  go_wp2_with fail
  refine (put_any _ _ hn _).mono ?_
  rintro e w1 ⟨rfl, hb1⟩
  change Hid (Fits n m 1 256 (putF n 1) (putF m 1)) at HF
  generalize putF n 1 = sa at *
  go_wp2_with fail
  refine (put_any _ _ hm _).mono ?_
  rintro e w2 ⟨rfl, hb2⟩
  generalize putF m 1 = sb at *
  go_wp2_with fail
  all_goals first
    | (refine (does_calls _).mono ?_; rintro e w3 ⟨rfl, hb3⟩; go_wp2_with fail; go_ret; exact ⟨rfl, bel (bel hb1 hb2) hb3⟩)
    | (exfalso; have h1 : ((sa.size : Int) != 1) = true := by assumption
       have h2 := HF.out.len (by assumption) (by assumption); rw [h2] at h1; exact absurd h1 (by decide))
    | (exfalso; have h1 : ¬ (sa.toList == sb.toList) = (n == m) := by assumption
       exact h1 (HF.out.same (by assumption) (by assumption) (by assumption)))
    | (exfalso; have h1 : ¬ Op.bytesLess sa.toList sb.toList = decide (n < m) := by assumption
       exact h1 (HF.out.less (by assumption) (by assumption) (by assumption)))
    | (exfalso; have h1 : ¬ (sa.toList.isEmpty = !decide (n < 256)) := by assumption
       exact h1 (HF.out.emp (by assumption)))
    | (exfalso; have h1 : ¬ sa.toList = [] := by assumption
       exact h1 (HF.out.neg (by assumption)))

set_option maxRecDepth 100000 in
set_option maxHeartbeats 2000000 in
theorem fit_walk2 (n m wh : Int) (hn : n ≤ 9223372036854775807) (hm : m ≤ 9223372036854775807) (hw0 : 0 ≤ wh) (hw1 : wh ≤ 255) (h : wh % 4 = 1) (w : World) :
    Calls Try.prog 4 #[.int .i64 n, .int .i64 m, .int .u8 wh] w fun e w' => e = .returned (.bool true) ∧ Below w.heap.size w w' := by
  have HF := Lib.hid (fits_of n m 2 65536 rfl (by omega) rfl)
  go_enter Try.func4, Try.ntmps4
  go_wp2_with fail
  refine (put_any _ _ hn _).mono ?_
  rintro e w1 ⟨rfl, hb1⟩
  change Hid (Fits n m 2 65536 (putF n 2) (putF m 2)) at HF
  generalize putF n 2 = sa at *
  go_wp2_with fail
  refine (put_any _ _ hm _).mono ?_
  rintro e w2 ⟨rfl, hb2⟩
  generalize putF m 2 = sb at *
  go_wp2_with fail
  all_goals first
    | (refine (does_calls _).mono ?_; rintro e w3 ⟨rfl, hb3⟩; go_wp2_with fail; go_ret; exact ⟨rfl, bel (bel hb1 hb2) hb3⟩)
    | (exfalso; have h1 : ((sa.size : Int) != 2) = true := by assumption
       have h2 := HF.out.len (by assumption) (by assumption); rw [h2] at h1; exact absurd h1 (by decide))
    | (exfalso; have h1 : ¬ (sa.toList == sb.toList) = (n == m) := by assumption
       exact h1 (HF.out.same (by assumption) (by assumption) (by assumption)))
    | (exfalso; have h1 : ¬ Op.bytesLess sa.toList sb.toList = decide (n < m) := by assumption
       exact h1 (HF.out.less (by assumption) (by assumption) (by assumption)))
    | (exfalso; have h1 : ¬ (sa.toList.isEmpty = !decide (n < 65536)) := by assumption
       exact h1 (HF.out.emp (by assumption)))
    | (exfalso; have h1 : ¬ sa.toList = [] := by assumption
       exact h1 (HF.out.neg (by assumption)))

set_option maxRecDepth 100000 in
set_option maxHeartbeats 2000000 in
theorem fit_walk4 (n m wh : Int) (hn : n ≤ 9223372036854775807) (hm : m ≤ 9223372036854775807) (hw0 : 0 ≤ wh) (hw1 : wh ≤ 255) (h : wh % 4 = 2) (w : World) :
    Calls Try.prog 4 #[.int .i64 n, .int .i64 m, .int .u8 wh] w fun e w' => e = .returned (.bool true) ∧ Below w.heap.size w w' := by
  have HF := Lib.hid (fits_of n m 4 4294967296 rfl (by omega) rfl)
  go_enter Try.func4, Try.ntmps4
  go_wp2_with fail
  refine (put_any _ _ hn _).mono ?_
  rintro e w1 ⟨rfl, hb1⟩
  change Hid (Fits n m 4 4294967296 (putF n 4) (putF m 4)) at HF
  generalize putF n 4 = sa at *
  go_wp2_with fail
  refine (put_any _ _ hm _).mono ?_
  rintro e w2 ⟨rfl, hb2⟩
  generalize putF m 4 = sb at *
  go_wp2_with fail
  all_goals first
    | (refine (does_calls _).mono ?_; rintro e w3 ⟨rfl, hb3⟩; go_wp2_with fail; go_ret; exact ⟨rfl, bel (bel hb1 hb2) hb3⟩)
    | (exfalso; have h1 : ((sa.size : Int) != 4) = true := by assumption
       have h2 := HF.out.len (by assumption) (by assumption); rw [h2] at h1; exact absurd h1 (by decide))
    | (exfalso; have h1 : ¬ (sa.toList == sb.toList) = (n == m) := by assumption
       exact h1 (HF.out.same (by assumption) (by assumption) (by assumption)))
    | (exfalso; have h1 : ¬ Op.bytesLess sa.toList sb.toList = decide (n < m) := by assumption
       exact h1 (HF.out.less (by assumption) (by assumption) (by assumption)))
    | (exfalso; have h1 : ¬ (sa.toList.isEmpty = !decide (n < 4294967296)) := by assumption
       exact h1 (HF.out.emp (by assumption)))
    | (exfalso; have h1 : ¬ sa.toList = [] := by assumption
       exact h1 (HF.out.neg (by assumption)))

/-- What the law asks of the bytes of two numbers of size 8. -/
structure Fits8 (n m : Int) (sa sb : ByteArray) : Prop where
  neg : n < 0 → sa.toList = []
  emp : 0 ≤ n → ¬ sa.toList = []
  len : 0 ≤ n → sa.size = 8
  empb : ¬ sb.toList = [] → 0 ≤ m
  less : 0 ≤ n → ¬ sb.toList = [] → Op.bytesLess sa.toList sb.toList = decide (n < m)
  same : 0 ≤ n → ¬ sb.toList = [] → (sa.toList == sb.toList) = (n == m)

theorem fits8_of (n m : Int) (hn : n ≤ 9223372036854775807) (hm : m ≤ 9223372036854775807) : Fits8 n m (putF n 8) (putF m 8) := by
  have hf : ∀ x : Int, fitsB x (8 : Nat) = decide (0 ≤ x) := fun x => by
    have h1 : sizeB ((8 : Nat) : Int) = true := rfl
    have h2 : decide ((8 : Int) ≤ ((8 : Nat) : Int)) = true := rfl
    simp only [fitsB, h1, h2, Bool.true_or, Bool.and_true, Bool.true_and]
  have hyes : ∀ x : Int, 0 ≤ x → (putF x (8 : Nat)).toList = be 8 x.toNat := fun x h0 => by rw [putF_list, hf]; simp [h0]
  have hno : ∀ x : Int, x < 0 → (putF x (8 : Nat)).toList = [] := fun x h0 => by rw [putF_list, hf]; simp; omega
  have hne : ∀ x : Int, ¬ (putF x (8 : Nat)).toList = [] → 0 ≤ x := fun x h => by
    by_cases h1 : 0 ≤ x
    · exact h1
    · exact absurd (hno x (by omega)) h
  have hlt : ∀ x : Int, 0 ≤ x → x ≤ 9223372036854775807 → x.toNat < 256 ^ 8 := fun x h0 h1 => by omega
  refine ⟨hno n, fun h => by rw [show (8 : Int) = ((8 : Nat) : Int) from rfl, hyes n h]; exact be_ne (by omega), fun h => ?_, hne m, fun h0 h2 => ?_, fun h0 h2 => ?_⟩
  · have e : (putF n (8 : Nat)).size = (putF n (8 : Nat)).toList.length := by rw [toList_ls, ls_length]
    rw [show (8 : Int) = ((8 : Nat) : Int) from rfl, e, hyes n h, be_length]
  · have h3 := hne m h2
    rw [show (8 : Int) = ((8 : Nat) : Int) from rfl, hyes n h0, hyes m h3, be_less (hlt n h0 hn) (hlt m h3 hm)]
    congr 1
    simp; omega
  · have h3 := hne m h2
    rw [show (8 : Int) = ((8 : Nat) : Int) from rfl, hyes n h0, hyes m h3, Bool.eq_iff_iff]
    simp only [beq_iff_eq]
    constructor
    · intro h; have := be_inj (hlt n h0 hn) (hlt m h3 hm) h; omega
    · rintro rfl; rfl

set_option maxRecDepth 100000 in
set_option maxHeartbeats 2000000 in
theorem fit_walk8 (n m wh : Int) (hn : n ≤ 9223372036854775807) (hm : m ≤ 9223372036854775807) (hw0 : 0 ≤ wh) (hw1 : wh ≤ 255) (h : wh % 4 = 3) (w : World) :
    Calls Try.prog 4 #[.int .i64 n, .int .i64 m, .int .u8 wh] w fun e w' => e = .returned (.bool true) ∧ Below w.heap.size w w' := by
  have HF := Lib.hid (fits8_of n m hn hm)
  go_enter Try.func4, Try.ntmps4
  go_wp2_with fail
  refine (put_any _ _ hn _).mono ?_
  rintro e w1 ⟨rfl, hb1⟩
  generalize putF n 8 = sa at *
  go_wp2_with fail
  refine (put_any _ _ hm _).mono ?_
  rintro e w2 ⟨rfl, hb2⟩
  generalize putF m 8 = sb at *
  go_wp2_with fail
  all_goals first
    | (refine (does_calls _).mono ?_; rintro e w3 ⟨rfl, hb3⟩; go_wp2_with fail; go_ret; exact ⟨rfl, bel (bel hb1 hb2) hb3⟩)
    | (exfalso; have h1 : ((sa.size : Int) != 8) = true := by assumption
       have h2 := HF.out.len (by assumption); rw [h2] at h1; exact absurd h1 (by decide))
    | (exfalso; have h1 : ¬ (sa.toList == sb.toList) = (n == m) := by assumption
       exact h1 (HF.out.same (by assumption) (by assumption)))
    | (exfalso; have h1 : ¬ Op.bytesLess sa.toList sb.toList = decide (n < m) := by assumption
       exact h1 (HF.out.less (by assumption) (by assumption)))
    | (exfalso; have h1 : sa.toList.isEmpty = true ∨ ((sa.size : Int) != 8) = true := by assumption
       have h2 := HF.out.emp (by assumption)
       have h3 := HF.out.len (by assumption)
       rcases h1 with h1 | h1
       · exact h2 (by simpa using h1)
       · rw [h3] at h1; exact absurd h1 (by decide))
    | (exfalso; exact HF.out.emp (by assumption) (by assumption))
    | (exfalso; have h1 : ¬ sa.toList = [] := by assumption
       exact h1 (HF.out.neg (by assumption)))

theorem wordsFit_walk (a0 a1 a2 : Int) (w0 : (Lit.int .i64 a0).wf = true) (w1 : (Lit.int .i64 a1).wf = true) (w2 : (Lit.int .u8 a2).wf = true) (w : World) :
    Calls Try.prog 4 #[.int .i64 a0, .int .i64 a1, .int .u8 a2] w fun e w' => e = .returned (.bool true) ∧ Below w.heap.size w w' := by
  have hn := (bounds_i64 w0).2
  have hm := (bounds_i64 w1).2
  obtain ⟨h0, h1⟩ := bounds_u8 w2
  rcases (by omega : a2 % 4 = 0 ∨ a2 % 4 = 1 ∨ a2 % 4 = 2 ∨ a2 % 4 = 3) with h | h | h | h
  · exact fit_walk1 a0 a1 a2 hn hm h0 h1 h w
  · exact fit_walk2 a0 a1 a2 hn hm h0 h1 h w
  · exact fit_walk4 a0 a1 a2 hn hm h0 h1 h w
  · exact fit_walk8 a0 a1 a2 hn hm h0 h1 h w
end Go.Proofs.Ytbbokdnkabbmfaa
