/- The walk of EntriesParts: the law returns true. -/
import Derived.Test.YtgjgjhikimnknaaRowAct
import Derived.Test.YtgjgjhikimnknaaDoes15
set_option linter.unusedVariables false
set_option linter.unusedSimpArgs false
namespace Go.Proofs.Ytgjgjhikimnknaa
open Go.RowKit

theorem enc_two' {l : List Ent} {t : List UInt8} (h : encF l = (t, 0)) : t.drop 2 = l.flatMap entBytes ∧ 2 ≤ t.length := by
  obtain ⟨h1, h2, rfl⟩ := enc_ok h
  have h3 : (putL (l.length : Int) 2).length = 2 := by
    have := putL_fits (b := 2) (fits2 (n := (l.length : Int)) (by omega) (by omega))
    rw [show ((2 : Nat) : Int) = 2 from rfl] at this
    rw [this, be_length]
  unfold encBytes
  refine ⟨?_, by rw [List.length_append]; omega⟩
  rw [← h3, List.drop_left]
theorem enc_err2 {l : List Ent} {t : List UInt8} {e : Int} (h : encF l = (t, e)) (hl : l.length ≤ 200) (he : e ≠ 0) : l.all checkB = false ∧ e = 2 ∧ t = [] := by
  unfold encF at h
  rw [if_pos hl] at h
  split at h
  · injection h with _ h
    exact absurd h.symm he
  · rename_i hc
    injection h with h1 h2
    exact ⟨by simpa using hc, h2.symm, h1.symm⟩
theorem parts_bad {l m : List Ent} (h : l.all checkB = false ∨ m.all checkB = false) : encF (l ++ m) = ([], 2) := by
  unfold encF
  rw [List.all_append]
  rcases h with h | h <;> simp [h]
theorem parts_good {l m : List Ent} {t u : List UInt8} (h1 : encF l = (t, 0)) (h2 : encF m = (u, 0)) (h : l.length + m.length ≤ 200) : ∃ b, encF (l ++ m) = (b, 0) ∧ 2 ≤ t.length ∧ 2 ≤ u.length ∧ 2 ≤ b.length ∧ b.drop 2 = t.drop 2 ++ u.drop 2 := by
  obtain ⟨a1, a2, _⟩ := enc_ok h1
  obtain ⟨b1, b2, _⟩ := enc_ok h2
  have h3 := enc_of (m := l ++ m) (by rw [List.all_append, a1, b1]; rfl) (by rw [List.length_append]; exact h)
  obtain ⟨c1, c2⟩ := enc_two' h1
  obtain ⟨d1, d2⟩ := enc_two' h2
  obtain ⟨e1, e2⟩ := enc_two' h3
  exact ⟨_, h3, c2, d2, e2, by rw [c1, d1, e1, List.flatMap_append]⟩
theorem drop_str (S : ByteArray) : S.extract 2 S.size = mkS ((ls S).drop 2) := by
  apply eq_mkS
  simp [ls, ByteArray.data_extract, Array.toList_extract, List.extract_eq_take_drop]
  rw [List.take_of_length_le]
  simp
set_option maxHeartbeats 8000000 in
set_option maxRecDepth 100000 in
theorem entriesParts_walk (v : Value) (l : List Ent) (v2 : Value) (m : List Ent) (w : World) (hr : EntRow w v l) (hr2 : EntRow w v2 m) :
    Calls Try.prog 7 #[v, v2] w fun e w' => e = .returned (.bool true) ∧ Below w.heap.size w w' := by
  have HR := Lib.hid hr
  obtain ⟨a, cap, rfl, hwf, hml, _⟩ := hr
  have HW := Lib.hid hwf
  have HR2 := Lib.hid hr2
  obtain ⟨a2, cap2, rfl, hwf2, hml2, _⟩ := hr2
  have HW2 := Lib.hid hwf2
  clear hwf hwf2
  unfold maxLen at hml hml2
  by_cases hbig : 100 < l.length
  · have f1 : decide ((100 : Int) < (l.length : Int)) = true := by simp; omega
    go_enter Try.func7, Try.ntmps7
    go_wp2
    go_ret
    exact ⟨rfl, Below.refl _ _⟩
  have f1 : decide ((100 : Int) < (l.length : Int)) = false := by simp; omega
  by_cases hbig2 : 100 < m.length
  · have f2 : decide ((100 : Int) < (m.length : Int)) = true := by simp; omega
    go_enter Try.func7, Try.ntmps7
    go_wp2
    go_ret
    exact ⟨rfl, Below.refl _ _⟩
  have f2 : decide ((100 : Int) < (m.length : Int)) = false := by simp; omega
  go_enter Try.func7, Try.ntmps7
  go_wp2_with fail
  refine (encode_calls _ l _ HR.out (by omega)).mono ?_
  rintro e w1 ⟨rfl, hb1⟩
  rcases henc : encF l with ⟨t, e⟩
  have HE := Lib.hid henc
  clear henc
  dsimp only
  go_wp2_with fail
  refine (encode_calls _ m _ (HR2.out.old hb1) (by omega)).mono ?_
  rintro e2 w2 ⟨rfl, hb2⟩
  rcases henc : encF m with ⟨u, e2⟩
  have HE2 := Lib.hid henc
  clear henc
  have h2 := belw hb1 hb2
  clear hb1 hb2
  dsimp only
  go_wp2_with (first
    | (refine wpList_bs0 rfl rfl w.heap.size h2.size ?_
       intro v3 w3 hown3 hb3 hz3
       have h3 := belw h2 hb3
       have hown3 : w3.ownsRow w.heap.size 27 39 v3 ([] : List Ent).length (([] : List Ent).flatMap entL) := hown3
       clear h2 hb3)
    | (refine wpList_appE rfl (.tmp 30) (.tmp 31) rfl w.heap.size _ _ [] l rfl rfl hown3 (HR.out.old h3) (by rw [List.length_nil]; omega) hz3 ?_
       intro v4 w4 hown4 hg4
       have h4 := h3.grown hg4 h3.size (fun g hg => own_ge hown3 g hg)
       have hz4 : w.heap.size ≤ w4.heap.size := Nat.le_trans hz3 hg4.size
       clear hown3 hg4 h3 hz3)
    | (refine wpList_appE rfl (.tmp 32) (.tmp 33) rfl w.heap.size _ _ ([] ++ l) m rfl rfl hown4 (HR2.out.old h4) (by rw [List.nil_append]; omega) hz4 ?_
       intro v5 w5 hown5 hg5
       have h5 := h4.grown hg5 h4.size (fun g hg => own_ge hown4 g hg)
       clear hown4 hg5 h4 hz4))
  rw [List.nil_append] at hown5
  have HRB := Lib.hid (entRow_owns hown5 (fun x hx => by
    rcases List.mem_append.1 hx with h | h
    · exact HW.out x h
    · exact HW2.out x h) (by rw [List.length_append]; unfold maxLen; omega))
  clear hown5
  refine (encode_calls v5 (l ++ m) _ HRB.out (by rw [List.length_append]; omega)).mono ?_
  rintro e3 w6 ⟨rfl, hb6⟩
  have h6 := belw h5 hb6
  clear h5 hb6 HRB
  by_cases he : e = 0
  · subst he
    by_cases he2 : e2 = 0
    · subst he2
      obtain ⟨b, hb, k1, k2, k3, k4⟩ := parts_good HE.out HE2.out (by omega)
      have k5 : (((mkS b).extract 2 (mkS b).size).toList == ((mkS t).extract 2 (mkS t).size ++ (mkS u).extract 2 (mkS u).size).toList) = true := by
        rw [toList_ls, toList_ls, ls_append, drop_str, drop_str, drop_str]
        simp only [ls_mkS, k4, beq_self_eq_true]
      have k6 : 2 ≤ (mkS t).size := k1
      have k7 : 2 ≤ (mkS u).size := k2
      have k8 : 2 ≤ (mkS b).size := k3
      have k9 : (mkS t).size ≤ 40000000000 := by have := enc_len l (by omega) (fun e he => (HW.out e he).hash); rw [HE.out] at this; exact this
      have k10 : (mkS u).size ≤ 40000000000 := by have := enc_len m (by omega) (fun e he => (HW2.out e he).hash); rw [HE2.out] at this; exact this
      rw [hb]
      dsimp only
      generalize mkS t = S1 at *
      generalize mkS u = S2 at *
      generalize mkS b = S3 at *
      clear hb k1 k2 k3 k4
      have g1 : decide ((2 : Int) ≤ (S1.size : Int)) = true := by simp; omega
      have g2 : decide ((2 : Int) ≤ (S2.size : Int)) = true := by simp; omega
      have g3 : decide ((2 : Int) ≤ (S3.size : Int)) = true := by simp; omega
      have g4 : ¬ 9223372036854775807 < (S1.extract 2 S1.size).size + (S2.extract 2 S2.size).size := by simp; omega
      have i1 : (2 : Int) ≤ (S1.size : Int) := by omega
      have i2 : (2 : Int) ≤ (S2.size : Int) := by omega
      have i3 : (2 : Int) ≤ (S3.size : Int) := by omega
      have k5' := k5
      rw [beq_iff_eq] at k5'
      go_wp2_with fail
      refine wp_region_below_lit (by kernel_rfl) (by kernel_rfl) ?_
      repeat (go_big_quiet_step ((go_at_call 17; exact Calls.below_of (does_calls _))))
      refine wpQuiet_nil ?_
      rintro w7 ⟨n7, rfl⟩
      have h7 := belw h6 n7.2
      go_wp2_with fail
      go_ret
      exact ⟨rfl, h7⟩
    · obtain ⟨q1, rfl, rfl⟩ := enc_err2 HE2.out (by omega) he2
      have hb := parts_bad (l := l) (m := m) (Or.inr q1)
      rw [hb]
      dsimp only
      have q2 : (mkS []).toList = [] := toList_ls _
      clear q1 hb he2
      go_wp2_with fail
      refine (does_calls _).mono ?_
      rintro e w7 ⟨rfl, hb7⟩
      have h7 := belw h6 hb7
      clear h6 hb7
      go_wp2_with fail
      go_ret
      exact ⟨rfl, h7⟩
  · obtain ⟨q1, rfl, rfl⟩ := enc_err2 HE.out (by omega) he
    have hb := parts_bad (l := l) (m := m) (Or.inl q1)
    rw [hb]
    dsimp only
    have q2 : (mkS []).toList = [] := toList_ls _
    clear q1 hb he
    go_wp2_with fail
    refine (does_calls _).mono ?_
    rintro e w7 ⟨rfl, hb7⟩
    have h7 := belw h6 hb7
    clear h6 hb7
    go_wp2_with fail
    go_ret
    exact ⟨rfl, h7⟩
end Go.Proofs.Ytgjgjhikimnknaa
