/- The walk of WordsLong: the law returns true. -/
import Derived.Test.YtbbokdnkabbmfaaLawKit
import Derived.WalkLawsBesides
set_option linter.unusedVariables false
set_option linter.unusedSimpArgs false
namespace Go.Proofs.Ytbbokdnkabbmfaa
open Go.RowKit

theorem make_zeros (w : World) (n : Nat) (hn : n ≤ 1000000) : (Instr.makeSlice 29 (.int .i64 n) (.int .i64 n)).run Try.prog w = .ok (.slice (some ⟨w.heap.size, 0, none⟩) n n) (w.alloc (.cells (arrC (zeros n)) 5)) := by
  obtain ⟨i0, hi, hz0, hz1, hz2⟩ := info_parts I5
  have h := run_make (P := Try.prog) w 29 5 i0 (.int .u8 0) T29 hi hz0 .i64 .i64 n n (by omega) (by omega) (by rw [hz2]; omega) (by omega)
  rw [h, hz1]
  have e : madeCells (Value.int .u8 0).cells ((n : Int).toNat * 1) = arrC (zeros n) := by
    apply Array.ext
    · simp [madeCells, arrC, u8s, zeros]
    · intro i h1 h2
      simp [madeCells, arrC, u8s, zeros, Value.cells, Nat.mod_one]
  rw [e]
  simp

theorem zeros_back (w : World) (n : Nat) : (convert 29 9 (.slice (some ⟨w.heap.size, 0, none⟩) n n)).run Try.prog (w.alloc (.cells (arrC (zeros n)) 5)) = .ok (.string (mkS (zeros n))) (w.alloc (.cells (arrC (zeros n)) 5)) := by
  have h := run_convert_bytes_back (P := Try.prog) (w.alloc (.cells (arrC (zeros n)) 5)) 29 9 5 ⟨w.heap.size, 0, none⟩ n (zeros n) T29 U5 T9 (fun j hj => by
    have ha : (⟨w.heap.size, 0, none⟩ : Addr).add j = ⟨w.heap.size, j, none⟩ := by unfold Addr.add; split <;> simp_all
    rw [ha, World.cell?_alloc_at _ _ _ _ rfl]
    simp [arrC, u8s, hj])
  rw [zeros_length] at h
  exact h

theorem put_zeros_small (n : Nat) (h : n ≤ 65535) : ∃ s : ByteArray, s.size = n + 2 ∧ putTextV (putTextF (mkS (zeros n))) = .tuple #[.string s, .int .i64 0] := by
  have e : (mkS (zeros n)).size = n := by simp [mkS, ByteArray.size, zeros]
  refine ⟨mkS (be 2 n ++ zeros n), ?_, ?_⟩
  · simp [mkS, ByteArray.size, zeros, be_length]; omega
  · unfold putTextF; rw [e, if_pos h]; rfl
theorem put_zeros_big (n : Nat) (h : ¬ n ≤ 65535) : putTextV (putTextF (mkS (zeros n))) = .tuple #[.string ⟨#[]⟩, .int .i64 3] := by
  have e : (mkS (zeros n)).size = n := by simp [mkS, ByteArray.size, zeros]
  unfold putTextF; rw [e, if_neg h]; rfl

set_option maxRecDepth 100000 in
set_option maxHeartbeats 2000000 in
theorem wordsLong_walk (a0 : Int) (w0 : (Lit.int .u8 a0).wf = true) (w : World) :
    Calls Try.prog 5 #[.int .u8 a0] w fun e w' => e = .returned (.bool true) ∧ Below w.heap.size w w' := by
  obtain ⟨hw0, hw1⟩ := bounds_u8 w0
  obtain ⟨k, hk⟩ : ∃ k : Nat, a0 % 6 = k := ⟨(a0 % 6).toNat, by omega⟩
  have hk6 : k < 6 := by omega
  have hmk := make_zeros w (65533 + k) (by omega)
  have hbk := zeros_back w (65533 + k)
  have hm : (mkS (zeros (65533 + k))).size ≤ maxLen := by simp [mkS, ByteArray.size, zeros, maxLen]; omega
  have e1 : ((65533 + k : Nat) : Int) = 65533 + (k : Int) := by omega
  rw [e1] at hmk
  clear e1 w0
  by_cases hs : 65533 + k ≤ 65535
  · obtain ⟨s, hsz, he⟩ := put_zeros_small (65533 + k) hs
    have HE := Lib.hid he
    have HS := Lib.hid hsz
    have hs2 : s.size ≤ 65537 := by omega
    have f1 : decide ((65533 : Int) + k ≤ 65535) = true := by simp; omega
    have f2 : ((s.size : Int) == 65533 + (k : Int) + 2) = true := by simp; omega
    clear he hsz
    go_enter Try.func5, Try.ntmps5
    go_wp2_with fail
    refine (put_text_calls _ hm _).mono ?_
    rintro e w1 ⟨rfl, hb1⟩
    rw [HE.out]
    clear hmk hbk
    go_wp2_with fail
    refine (does_calls _).mono ?_
    rintro e w2 ⟨rfl, hb2⟩
    go_wp2_with fail
    go_ret
    exact ⟨rfl, bel (bel (bel_alloc (bel_refl _)) hb1) hb2⟩
  · have HE := Lib.hid (put_zeros_big (65533 + k) hs)
    have f1 : decide ((65533 : Int) + k ≤ 65535) = false := by simp; omega
    go_enter Try.func5, Try.ntmps5
    go_wp2_with fail
    refine (put_text_calls _ hm _).mono ?_
    rintro e w1 ⟨rfl, hb1⟩
    rw [HE.out]
    clear hmk hbk
    go_wp2_with fail
    refine (does_calls _).mono ?_
    rintro e w2 ⟨rfl, hb2⟩
    go_wp2_with fail
    go_ret
    exact ⟨rfl, bel (bel (bel_alloc (bel_refl _)) hb1) hb2⟩
end Go.Proofs.Ytbbokdnkabbmfaa
