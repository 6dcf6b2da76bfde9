/- The contract of the reference's one: an entry's bytes. -/
import Derived.Test.YtgjgjhikimnknaaRef15d
set_option linter.unusedVariables false
set_option linter.unusedSimpArgs false
namespace Go.Proofs.Ytgjgjhikimnknaa
open Go.RowKit

theorem one_1 (e : Ent) (hk : e.kind = 1) : putF e.kind 1 ++ mkS (textL e.name) = mkS (entBytes e) := by
  have h : entBytes e = putL e.kind 1 ++ (textL e.name ++ []) := by
    obtain ⟨k, s, n, l, nm, hs, st, c⟩ := e
    subst hk
    rfl
  apply eq_mkS
  rw [h]
  simp only [ls_append, ls_mkS, putL, List.append_assoc, List.append_nil]
theorem one_2 (e : Ent) (hk : e.kind = 2) : putF e.kind 1 ++ putF e.stream 1 ++ putF e.n 4 ++ putF e.len 2 ++ mkS e.hash ++ putF e.start 2 ++ putF e.count 2 = mkS (entBytes e) := by
  have h : entBytes e = putL e.kind 1 ++ (putL e.stream 1 ++ (putL e.n 4 ++ ((((putL e.len 2 ++ e.hash) ++ putL e.start 2) ++ putL e.count 2) ++ []))) := by
    obtain ⟨k, s, n, l, nm, hs, st, c⟩ := e
    subst hk
    rfl
  apply eq_mkS
  rw [h]
  simp only [ls_append, ls_mkS, putL, List.append_assoc, List.append_nil]
theorem one_3 (e : Ent) (hk : e.kind = 3) : putF e.kind 1 ++ putF e.stream 1 ++ putF e.n 4 = mkS (entBytes e) := by
  have h : entBytes e = putL e.kind 1 ++ (putL e.stream 1 ++ (putL e.n 4 ++ [])) := by
    obtain ⟨k, s, n, l, nm, hs, st, c⟩ := e
    subst hk
    rfl
  apply eq_mkS
  rw [h]
  simp only [ls_append, ls_mkS, putL, List.append_assoc, List.append_nil]
theorem one_4 (e : Ent) (hk : e.kind = 4) : putF e.kind 1 ++ putF e.stream 1 ++ mkS (textL e.name) = mkS (entBytes e) := by
  have h : entBytes e = putL e.kind 1 ++ (putL e.stream 1 ++ (textL e.name ++ [])) := by
    obtain ⟨k, s, n, l, nm, hs, st, c⟩ := e
    subst hk
    rfl
  apply eq_mkS
  rw [h]
  simp only [ls_append, ls_mkS, putL, List.append_assoc, List.append_nil]
theorem one_5 (e : Ent) (hk : e.kind = 5) : putF e.kind 1 ++ putF e.stream 1 ++ mkS (textL e.name) = mkS (entBytes e) := by
  have h : entBytes e = putL e.kind 1 ++ (putL e.stream 1 ++ (textL e.name ++ [])) := by
    obtain ⟨k, s, n, l, nm, hs, st, c⟩ := e
    subst hk
    rfl
  apply eq_mkS
  rw [h]
  simp only [ls_append, ls_mkS, putL, List.append_assoc, List.append_nil]
theorem one_6 (e : Ent) (hk : e.kind = 6) : putF e.kind 1 ++ putF e.stream 1 ++ putF e.n 4 = mkS (entBytes e) := by
  have h : entBytes e = putL e.kind 1 ++ (putL e.stream 1 ++ (putL e.n 4 ++ [])) := by
    obtain ⟨k, s, n, l, nm, hs, st, c⟩ := e
    subst hk
    rfl
  apply eq_mkS
  rw [h]
  simp only [ls_append, ls_mkS, putL, List.append_assoc, List.append_nil]

set_option maxHeartbeats 16000000 in
set_option maxRecDepth 100000 in
theorem one_calls (e : Ent) (he : e.Wf) (hc : checkB e = true) (w : World) :
    Calls Try.prog 26 #[.agg (entC e)] w fun r w' => r = .returned (.string (mkS (entBytes e))) ∧ Below w.heap.size w w' := by
  have HB := check_kind hc
  have hst := St.start w
  obtain ⟨x, hx⟩ := putTextV_textL e.name
  have HX := Lib.hid hx
  clear hx
  have z1 := putF_size e.kind 1
  have z2 := putF_size e.stream 1
  have z3 := putF_size e.n 4
  have z4 := putF_size e.len 2
  have z5 := putF_size e.start 2
  have z6 := putF_size e.count 2
  have z7 : (mkS e.hash).size = 32 := by rw [size_mkS, he.hash]
  have z8 : (mkS (textL e.name)).size ≤ 65537 := by rw [size_mkS]; exact textL_len _
  have CT := Lib.hid (ref_put_text_calls e.name (by have := he.name; unfold maxLen; omega))
  have CK := Lib.hid (ref_put_any e.kind 1 he.kind.2)
  have CS := Lib.hid (ref_put_any e.stream 1 he.stream.2)
  have CN := Lib.hid (ref_put_any e.n 4 he.n.2)
  have CL := Lib.hid (ref_put_any e.len 2 he.len.2)
  have CA := Lib.hid (ref_put_any e.start 2 he.start.2)
  have CC := Lib.hid (ref_put_any e.count 2 he.count.2)
  have CH := Lib.hid (ref_put_hash_calls e.hash he.hash)
  clear he
  rcases (by omega : e.kind = 1 ∨ e.kind = 2 ∨ e.kind = 3 ∨ e.kind = 4 ∨ e.kind = 5 ∨ e.kind = 6) with hk | hk | hk | hk | hk | hk
  · have HR : Hid (putF e.kind 1 ++ mkS (textL e.name) = mkS (entBytes e)) := Lib.hid (one_1 e hk)
    have g1 : (e.kind == 1) = true := by rw [hk]; rfl
    clear hk hc HB
    generalize mkS (textL e.name) = T at *
    generalize putF e.kind 1 = S1 at *
    generalize putF e.stream 1 = S2 at *
    generalize putF e.n 4 = S3 at *
    generalize putF e.len 2 = S4 at *
    generalize mkS e.hash = SH at *
    generalize putF e.start 2 = S5 at *
    generalize putF e.count 2 = S6 at *
    have k1 : ¬ 9223372036854775807 < S1.size + T.size := by omega
    have k2 : ¬ 9223372036854775807 < S1.size + S2.size := by omega
    have k3 : ¬ 9223372036854775807 < (S1 ++ S2).size + T.size := by rw [ByteArray.size_append]; omega
    have k4 : ¬ 9223372036854775807 < (S1 ++ S2).size + S3.size := by rw [ByteArray.size_append]; omega
    have k5 : ¬ 9223372036854775807 < (S1 ++ S2 ++ S3).size + S4.size := by simp only [ByteArray.size_append]; omega
    have k6 : ¬ 9223372036854775807 < (S1 ++ S2 ++ S3 ++ S4).size + SH.size := by simp only [ByteArray.size_append]; omega
    have k7 : ¬ 9223372036854775807 < (S1 ++ S2 ++ S3 ++ S4 ++ SH).size + S5.size := by simp only [ByteArray.size_append]; omega
    have k8 : ¬ 9223372036854775807 < (S1 ++ S2 ++ S3 ++ S4 ++ SH ++ S5).size + S6.size := by simp only [ByteArray.size_append]; omega
    go_enter Try.func26, Try.ntmps26
    go_wp2_with (first
      | (with_reducible refine wpList_neqE rfl _ _ _ rfl _ _ rfl rfl ?_)
      | (with_reducible refine wpList_eqlE rfl _ _ _ rfl _ _ rfl rfl ?_)
      | (with_reducible refine wpList_ld rfl _ _ rfl _ _ rfl (by assumption) ?_)
      | (with_reducible refine wpList_lda rfl _ _ rfl _ _ rfl (by assumption) ?_)
      | (with_reducible refine wpList_stI rfl _ _ _ rfl _ _ rfl _ _ rfl (by assumption) ?_; intro w' hst)
      | (with_reducible refine wpList_stS rfl _ _ _ rfl _ _ rfl _ rfl (by assumption) ?_; intro w' hst)
      | (with_reducible refine wpList_stB rfl _ _ _ rfl _ _ rfl _ rfl (by assumption) ?_; intro w' hst)
      | (with_reducible refine wpList_stA rfl _ _ _ rfl _ _ rfl _ rfl (by assumption) ?_; intro w' hst)
      | (with_reducible refine wpList_box rfl _ _ rfl (by assumption) _ rfl ?_; intro bb w' hst)
      | (with_reducible refine wpList_new rfl _ rfl (by assumption) _ zero_ent ?_; intro bn w' hst)
      | (with_reducible refine wpList_new rfl _ rfl (by assumption) _ zero_run ?_; intro br w' hst))
    refine (CT.out _).mono ?_
    rintro r w1 ⟨rfl, hb⟩
    have h1 := hst.below hb
    clear hb hst
    rw [HX.out]
    go_wp2_with (first
      | (with_reducible refine wpList_neqE rfl _ _ _ rfl _ _ rfl rfl ?_)
      | (with_reducible refine wpList_eqlE rfl _ _ _ rfl _ _ rfl rfl ?_)
      | (with_reducible refine wpList_ld rfl _ _ rfl _ _ rfl (by assumption) ?_)
      | (with_reducible refine wpList_lda rfl _ _ rfl _ _ rfl (by assumption) ?_)
      | (with_reducible refine wpList_stI rfl _ _ _ rfl _ _ rfl _ _ rfl (by assumption) ?_; intro w' hst)
      | (with_reducible refine wpList_stS rfl _ _ _ rfl _ _ rfl _ rfl (by assumption) ?_; intro w' hst)
      | (with_reducible refine wpList_stB rfl _ _ _ rfl _ _ rfl _ rfl (by assumption) ?_; intro w' hst)
      | (with_reducible refine wpList_stA rfl _ _ _ rfl _ _ rfl _ rfl (by assumption) ?_; intro w' hst)
      | (with_reducible refine wpList_box rfl _ _ rfl (by assumption) _ rfl ?_; intro bb w' hst)
      | (with_reducible refine wpList_new rfl _ rfl (by assumption) _ zero_ent ?_; intro bn w' hst)
      | (with_reducible refine wpList_new rfl _ rfl (by assumption) _ zero_run ?_; intro br w' hst))
    refine (CK.out _).mono ?_
    rintro r w1 ⟨rfl, hb⟩
    have h2 := h1.below hb
    clear hb h1
    go_wp2_with (first
      | (with_reducible refine wpList_neqE rfl _ _ _ rfl _ _ rfl rfl ?_)
      | (with_reducible refine wpList_eqlE rfl _ _ _ rfl _ _ rfl rfl ?_)
      | (with_reducible refine wpList_ld rfl _ _ rfl _ _ rfl (by assumption) ?_)
      | (with_reducible refine wpList_lda rfl _ _ rfl _ _ rfl (by assumption) ?_)
      | (with_reducible refine wpList_stI rfl _ _ _ rfl _ _ rfl _ _ rfl (by assumption) ?_; intro w' hst)
      | (with_reducible refine wpList_stS rfl _ _ _ rfl _ _ rfl _ rfl (by assumption) ?_; intro w' hst)
      | (with_reducible refine wpList_stB rfl _ _ _ rfl _ _ rfl _ rfl (by assumption) ?_; intro w' hst)
      | (with_reducible refine wpList_stA rfl _ _ _ rfl _ _ rfl _ rfl (by assumption) ?_; intro w' hst)
      | (with_reducible refine wpList_box rfl _ _ rfl (by assumption) _ rfl ?_; intro bb w' hst)
      | (with_reducible refine wpList_new rfl _ rfl (by assumption) _ zero_ent ?_; intro bn w' hst)
      | (with_reducible refine wpList_new rfl _ rfl (by assumption) _ zero_run ?_; intro br w' hst))
    go_ret
    exact ⟨by rw [← HR.out]; rfl, h2.end⟩
  · have HR : Hid (putF e.kind 1 ++ putF e.stream 1 ++ putF e.n 4 ++ putF e.len 2 ++ mkS e.hash ++ putF e.start 2 ++ putF e.count 2 = mkS (entBytes e)) := Lib.hid (one_2 e hk)
    have g1 : (e.kind == 1) = false := by rw [hk]; rfl
    have g4 : (e.kind == 4) = false := by rw [hk]; rfl
    have g5 : (e.kind == 5) = false := by rw [hk]; rfl
    have g2 : (e.kind != 2) = false := by rw [hk]; rfl
    clear hk hc HB
    generalize mkS (textL e.name) = T at *
    generalize putF e.kind 1 = S1 at *
    generalize putF e.stream 1 = S2 at *
    generalize putF e.n 4 = S3 at *
    generalize putF e.len 2 = S4 at *
    generalize mkS e.hash = SH at *
    generalize putF e.start 2 = S5 at *
    generalize putF e.count 2 = S6 at *
    have k1 : ¬ 9223372036854775807 < S1.size + T.size := by omega
    have k2 : ¬ 9223372036854775807 < S1.size + S2.size := by omega
    have k3 : ¬ 9223372036854775807 < (S1 ++ S2).size + T.size := by rw [ByteArray.size_append]; omega
    have k4 : ¬ 9223372036854775807 < (S1 ++ S2).size + S3.size := by rw [ByteArray.size_append]; omega
    have k5 : ¬ 9223372036854775807 < (S1 ++ S2 ++ S3).size + S4.size := by simp only [ByteArray.size_append]; omega
    have k6 : ¬ 9223372036854775807 < (S1 ++ S2 ++ S3 ++ S4).size + SH.size := by simp only [ByteArray.size_append]; omega
    have k7 : ¬ 9223372036854775807 < (S1 ++ S2 ++ S3 ++ S4 ++ SH).size + S5.size := by simp only [ByteArray.size_append]; omega
    have k8 : ¬ 9223372036854775807 < (S1 ++ S2 ++ S3 ++ S4 ++ SH ++ S5).size + S6.size := by simp only [ByteArray.size_append]; omega
    go_enter Try.func26, Try.ntmps26
    go_wp2_with (first
      | (with_reducible refine wpList_neqE rfl _ _ _ rfl _ _ rfl rfl ?_)
      | (with_reducible refine wpList_eqlE rfl _ _ _ rfl _ _ rfl rfl ?_)
      | (with_reducible refine wpList_ld rfl _ _ rfl _ _ rfl (by assumption) ?_)
      | (with_reducible refine wpList_lda rfl _ _ rfl _ _ rfl (by assumption) ?_)
      | (with_reducible refine wpList_stI rfl _ _ _ rfl _ _ rfl _ _ rfl (by assumption) ?_; intro w' hst)
      | (with_reducible refine wpList_stS rfl _ _ _ rfl _ _ rfl _ rfl (by assumption) ?_; intro w' hst)
      | (with_reducible refine wpList_stB rfl _ _ _ rfl _ _ rfl _ rfl (by assumption) ?_; intro w' hst)
      | (with_reducible refine wpList_stA rfl _ _ _ rfl _ _ rfl _ rfl (by assumption) ?_; intro w' hst)
      | (with_reducible refine wpList_box rfl _ _ rfl (by assumption) _ rfl ?_; intro bb w' hst)
      | (with_reducible refine wpList_new rfl _ rfl (by assumption) _ zero_ent ?_; intro bn w' hst)
      | (with_reducible refine wpList_new rfl _ rfl (by assumption) _ zero_run ?_; intro br w' hst))
    refine (CT.out _).mono ?_
    rintro r w1 ⟨rfl, hb⟩
    have h1 := hst.below hb
    clear hb hst
    rw [HX.out]
    go_wp2_with (first
      | (with_reducible refine wpList_neqE rfl _ _ _ rfl _ _ rfl rfl ?_)
      | (with_reducible refine wpList_eqlE rfl _ _ _ rfl _ _ rfl rfl ?_)
      | (with_reducible refine wpList_ld rfl _ _ rfl _ _ rfl (by assumption) ?_)
      | (with_reducible refine wpList_lda rfl _ _ rfl _ _ rfl (by assumption) ?_)
      | (with_reducible refine wpList_stI rfl _ _ _ rfl _ _ rfl _ _ rfl (by assumption) ?_; intro w' hst)
      | (with_reducible refine wpList_stS rfl _ _ _ rfl _ _ rfl _ rfl (by assumption) ?_; intro w' hst)
      | (with_reducible refine wpList_stB rfl _ _ _ rfl _ _ rfl _ rfl (by assumption) ?_; intro w' hst)
      | (with_reducible refine wpList_stA rfl _ _ _ rfl _ _ rfl _ rfl (by assumption) ?_; intro w' hst)
      | (with_reducible refine wpList_box rfl _ _ rfl (by assumption) _ rfl ?_; intro bb w' hst)
      | (with_reducible refine wpList_new rfl _ rfl (by assumption) _ zero_ent ?_; intro bn w' hst)
      | (with_reducible refine wpList_new rfl _ rfl (by assumption) _ zero_run ?_; intro br w' hst))
    refine (CK.out _).mono ?_
    rintro r w1 ⟨rfl, hb⟩
    have h2 := h1.below hb
    clear hb h1
    go_wp2_with (first
      | (with_reducible refine wpList_neqE rfl _ _ _ rfl _ _ rfl rfl ?_)
      | (with_reducible refine wpList_eqlE rfl _ _ _ rfl _ _ rfl rfl ?_)
      | (with_reducible refine wpList_ld rfl _ _ rfl _ _ rfl (by assumption) ?_)
      | (with_reducible refine wpList_lda rfl _ _ rfl _ _ rfl (by assumption) ?_)
      | (with_reducible refine wpList_stI rfl _ _ _ rfl _ _ rfl _ _ rfl (by assumption) ?_; intro w' hst)
      | (with_reducible refine wpList_stS rfl _ _ _ rfl _ _ rfl _ rfl (by assumption) ?_; intro w' hst)
      | (with_reducible refine wpList_stB rfl _ _ _ rfl _ _ rfl _ rfl (by assumption) ?_; intro w' hst)
      | (with_reducible refine wpList_stA rfl _ _ _ rfl _ _ rfl _ rfl (by assumption) ?_; intro w' hst)
      | (with_reducible refine wpList_box rfl _ _ rfl (by assumption) _ rfl ?_; intro bb w' hst)
      | (with_reducible refine wpList_new rfl _ rfl (by assumption) _ zero_ent ?_; intro bn w' hst)
      | (with_reducible refine wpList_new rfl _ rfl (by assumption) _ zero_run ?_; intro br w' hst))
    refine (CS.out _).mono ?_
    rintro r w1 ⟨rfl, hb⟩
    have h3 := h2.below hb
    clear hb h2
    go_wp2_with (first
      | (with_reducible refine wpList_neqE rfl _ _ _ rfl _ _ rfl rfl ?_)
      | (with_reducible refine wpList_eqlE rfl _ _ _ rfl _ _ rfl rfl ?_)
      | (with_reducible refine wpList_ld rfl _ _ rfl _ _ rfl (by assumption) ?_)
      | (with_reducible refine wpList_lda rfl _ _ rfl _ _ rfl (by assumption) ?_)
      | (with_reducible refine wpList_stI rfl _ _ _ rfl _ _ rfl _ _ rfl (by assumption) ?_; intro w' hst)
      | (with_reducible refine wpList_stS rfl _ _ _ rfl _ _ rfl _ rfl (by assumption) ?_; intro w' hst)
      | (with_reducible refine wpList_stB rfl _ _ _ rfl _ _ rfl _ rfl (by assumption) ?_; intro w' hst)
      | (with_reducible refine wpList_stA rfl _ _ _ rfl _ _ rfl _ rfl (by assumption) ?_; intro w' hst)
      | (with_reducible refine wpList_box rfl _ _ rfl (by assumption) _ rfl ?_; intro bb w' hst)
      | (with_reducible refine wpList_new rfl _ rfl (by assumption) _ zero_ent ?_; intro bn w' hst)
      | (with_reducible refine wpList_new rfl _ rfl (by assumption) _ zero_run ?_; intro br w' hst))
    refine (CN.out _).mono ?_
    rintro r w1 ⟨rfl, hb⟩
    have h4 := h3.below hb
    clear hb h3
    go_wp2_with (first
      | (with_reducible refine wpList_neqE rfl _ _ _ rfl _ _ rfl rfl ?_)
      | (with_reducible refine wpList_eqlE rfl _ _ _ rfl _ _ rfl rfl ?_)
      | (with_reducible refine wpList_ld rfl _ _ rfl _ _ rfl (by assumption) ?_)
      | (with_reducible refine wpList_lda rfl _ _ rfl _ _ rfl (by assumption) ?_)
      | (with_reducible refine wpList_stI rfl _ _ _ rfl _ _ rfl _ _ rfl (by assumption) ?_; intro w' hst)
      | (with_reducible refine wpList_stS rfl _ _ _ rfl _ _ rfl _ rfl (by assumption) ?_; intro w' hst)
      | (with_reducible refine wpList_stB rfl _ _ _ rfl _ _ rfl _ rfl (by assumption) ?_; intro w' hst)
      | (with_reducible refine wpList_stA rfl _ _ _ rfl _ _ rfl _ rfl (by assumption) ?_; intro w' hst)
      | (with_reducible refine wpList_box rfl _ _ rfl (by assumption) _ rfl ?_; intro bb w' hst)
      | (with_reducible refine wpList_new rfl _ rfl (by assumption) _ zero_ent ?_; intro bn w' hst)
      | (with_reducible refine wpList_new rfl _ rfl (by assumption) _ zero_run ?_; intro br w' hst))
    have hq := h4.quiet
    refine wp_region_below_lit (by kernel_rfl) (by kernel_rfl) ?_
    repeat (first
      | (with_reducible refine wpQuiet_ld rfl _ _ rfl _ _ rfl hq ?_; simp only [Act.put, List.setIfInBounds_toArray, List.set_cons_succ, List.set_cons_zero])
      | (with_reducible refine wpQuiet_lda rfl _ _ rfl _ _ rfl hq ?_; simp only [Act.put, List.setIfInBounds_toArray, List.set_cons_succ, List.set_cons_zero])
      | go_big_quiet_step ((first | (go_at_call 25; first | with_reducible exact Calls.below_of (CL.out _) | with_reducible exact Calls.below_of (CA.out _) | with_reducible exact Calls.below_of (CC.out _)) | (go_at_call 44; with_reducible exact Calls.below_of (CH.out _)))))
    refine wpQuiet_nil ?_
    intro wq hwq
    have h5 := hq wq hwq
    clear hq hwq
    go_wp2_with (first
      | (with_reducible refine wpList_neqE rfl _ _ _ rfl _ _ rfl rfl ?_)
      | (with_reducible refine wpList_eqlE rfl _ _ _ rfl _ _ rfl rfl ?_)
      | (with_reducible refine wpList_ld rfl _ _ rfl _ _ rfl (by assumption) ?_)
      | (with_reducible refine wpList_lda rfl _ _ rfl _ _ rfl (by assumption) ?_)
      | (with_reducible refine wpList_stI rfl _ _ _ rfl _ _ rfl _ _ rfl (by assumption) ?_; intro w' hst)
      | (with_reducible refine wpList_stS rfl _ _ _ rfl _ _ rfl _ rfl (by assumption) ?_; intro w' hst)
      | (with_reducible refine wpList_stB rfl _ _ _ rfl _ _ rfl _ rfl (by assumption) ?_; intro w' hst)
      | (with_reducible refine wpList_stA rfl _ _ _ rfl _ _ rfl _ rfl (by assumption) ?_; intro w' hst)
      | (with_reducible refine wpList_box rfl _ _ rfl (by assumption) _ rfl ?_; intro bb w' hst)
      | (with_reducible refine wpList_new rfl _ rfl (by assumption) _ zero_ent ?_; intro bn w' hst)
      | (with_reducible refine wpList_new rfl _ rfl (by assumption) _ zero_run ?_; intro br w' hst))
    go_ret
    exact ⟨by rw [← HR.out]; rfl, h5.end⟩
  · have HR : Hid (putF e.kind 1 ++ putF e.stream 1 ++ putF e.n 4 = mkS (entBytes e)) := Lib.hid (one_3 e hk)
    have g1 : (e.kind == 1) = false := by rw [hk]; rfl
    have g4 : (e.kind == 4) = false := by rw [hk]; rfl
    have g5 : (e.kind == 5) = false := by rw [hk]; rfl
    have g2 : (e.kind != 2) = true := by rw [hk]; rfl
    clear hk hc HB
    generalize mkS (textL e.name) = T at *
    generalize putF e.kind 1 = S1 at *
    generalize putF e.stream 1 = S2 at *
    generalize putF e.n 4 = S3 at *
    generalize putF e.len 2 = S4 at *
    generalize mkS e.hash = SH at *
    generalize putF e.start 2 = S5 at *
    generalize putF e.count 2 = S6 at *
    have k1 : ¬ 9223372036854775807 < S1.size + T.size := by omega
    have k2 : ¬ 9223372036854775807 < S1.size + S2.size := by omega
    have k3 : ¬ 9223372036854775807 < (S1 ++ S2).size + T.size := by rw [ByteArray.size_append]; omega
    have k4 : ¬ 9223372036854775807 < (S1 ++ S2).size + S3.size := by rw [ByteArray.size_append]; omega
    have k5 : ¬ 9223372036854775807 < (S1 ++ S2 ++ S3).size + S4.size := by simp only [ByteArray.size_append]; omega
    have k6 : ¬ 9223372036854775807 < (S1 ++ S2 ++ S3 ++ S4).size + SH.size := by simp only [ByteArray.size_append]; omega
    have k7 : ¬ 9223372036854775807 < (S1 ++ S2 ++ S3 ++ S4 ++ SH).size + S5.size := by simp only [ByteArray.size_append]; omega
    have k8 : ¬ 9223372036854775807 < (S1 ++ S2 ++ S3 ++ S4 ++ SH ++ S5).size + S6.size := by simp only [ByteArray.size_append]; omega
    go_enter Try.func26, Try.ntmps26
    go_wp2_with (first
      | (with_reducible refine wpList_neqE rfl _ _ _ rfl _ _ rfl rfl ?_)
      | (with_reducible refine wpList_eqlE rfl _ _ _ rfl _ _ rfl rfl ?_)
      | (with_reducible refine wpList_ld rfl _ _ rfl _ _ rfl (by assumption) ?_)
      | (with_reducible refine wpList_lda rfl _ _ rfl _ _ rfl (by assumption) ?_)
      | (with_reducible refine wpList_stI rfl _ _ _ rfl _ _ rfl _ _ rfl (by assumption) ?_; intro w' hst)
      | (with_reducible refine wpList_stS rfl _ _ _ rfl _ _ rfl _ rfl (by assumption) ?_; intro w' hst)
      | (with_reducible refine wpList_stB rfl _ _ _ rfl _ _ rfl _ rfl (by assumption) ?_; intro w' hst)
      | (with_reducible refine wpList_stA rfl _ _ _ rfl _ _ rfl _ rfl (by assumption) ?_; intro w' hst)
      | (with_reducible refine wpList_box rfl _ _ rfl (by assumption) _ rfl ?_; intro bb w' hst)
      | (with_reducible refine wpList_new rfl _ rfl (by assumption) _ zero_ent ?_; intro bn w' hst)
      | (with_reducible refine wpList_new rfl _ rfl (by assumption) _ zero_run ?_; intro br w' hst))
    refine (CT.out _).mono ?_
    rintro r w1 ⟨rfl, hb⟩
    have h1 := hst.below hb
    clear hb hst
    rw [HX.out]
    go_wp2_with (first
      | (with_reducible refine wpList_neqE rfl _ _ _ rfl _ _ rfl rfl ?_)
      | (with_reducible refine wpList_eqlE rfl _ _ _ rfl _ _ rfl rfl ?_)
      | (with_reducible refine wpList_ld rfl _ _ rfl _ _ rfl (by assumption) ?_)
      | (with_reducible refine wpList_lda rfl _ _ rfl _ _ rfl (by assumption) ?_)
      | (with_reducible refine wpList_stI rfl _ _ _ rfl _ _ rfl _ _ rfl (by assumption) ?_; intro w' hst)
      | (with_reducible refine wpList_stS rfl _ _ _ rfl _ _ rfl _ rfl (by assumption) ?_; intro w' hst)
      | (with_reducible refine wpList_stB rfl _ _ _ rfl _ _ rfl _ rfl (by assumption) ?_; intro w' hst)
      | (with_reducible refine wpList_stA rfl _ _ _ rfl _ _ rfl _ rfl (by assumption) ?_; intro w' hst)
      | (with_reducible refine wpList_box rfl _ _ rfl (by assumption) _ rfl ?_; intro bb w' hst)
      | (with_reducible refine wpList_new rfl _ rfl (by assumption) _ zero_ent ?_; intro bn w' hst)
      | (with_reducible refine wpList_new rfl _ rfl (by assumption) _ zero_run ?_; intro br w' hst))
    refine (CK.out _).mono ?_
    rintro r w1 ⟨rfl, hb⟩
    have h2 := h1.below hb
    clear hb h1
    go_wp2_with (first
      | (with_reducible refine wpList_neqE rfl _ _ _ rfl _ _ rfl rfl ?_)
      | (with_reducible refine wpList_eqlE rfl _ _ _ rfl _ _ rfl rfl ?_)
      | (with_reducible refine wpList_ld rfl _ _ rfl _ _ rfl (by assumption) ?_)
      | (with_reducible refine wpList_lda rfl _ _ rfl _ _ rfl (by assumption) ?_)
      | (with_reducible refine wpList_stI rfl _ _ _ rfl _ _ rfl _ _ rfl (by assumption) ?_; intro w' hst)
      | (with_reducible refine wpList_stS rfl _ _ _ rfl _ _ rfl _ rfl (by assumption) ?_; intro w' hst)
      | (with_reducible refine wpList_stB rfl _ _ _ rfl _ _ rfl _ rfl (by assumption) ?_; intro w' hst)
      | (with_reducible refine wpList_stA rfl _ _ _ rfl _ _ rfl _ rfl (by assumption) ?_; intro w' hst)
      | (with_reducible refine wpList_box rfl _ _ rfl (by assumption) _ rfl ?_; intro bb w' hst)
      | (with_reducible refine wpList_new rfl _ rfl (by assumption) _ zero_ent ?_; intro bn w' hst)
      | (with_reducible refine wpList_new rfl _ rfl (by assumption) _ zero_run ?_; intro br w' hst))
    refine (CS.out _).mono ?_
    rintro r w1 ⟨rfl, hb⟩
    have h3 := h2.below hb
    clear hb h2
    go_wp2_with (first
      | (with_reducible refine wpList_neqE rfl _ _ _ rfl _ _ rfl rfl ?_)
      | (with_reducible refine wpList_eqlE rfl _ _ _ rfl _ _ rfl rfl ?_)
      | (with_reducible refine wpList_ld rfl _ _ rfl _ _ rfl (by assumption) ?_)
      | (with_reducible refine wpList_lda rfl _ _ rfl _ _ rfl (by assumption) ?_)
      | (with_reducible refine wpList_stI rfl _ _ _ rfl _ _ rfl _ _ rfl (by assumption) ?_; intro w' hst)
      | (with_reducible refine wpList_stS rfl _ _ _ rfl _ _ rfl _ rfl (by assumption) ?_; intro w' hst)
      | (with_reducible refine wpList_stB rfl _ _ _ rfl _ _ rfl _ rfl (by assumption) ?_; intro w' hst)
      | (with_reducible refine wpList_stA rfl _ _ _ rfl _ _ rfl _ rfl (by assumption) ?_; intro w' hst)
      | (with_reducible refine wpList_box rfl _ _ rfl (by assumption) _ rfl ?_; intro bb w' hst)
      | (with_reducible refine wpList_new rfl _ rfl (by assumption) _ zero_ent ?_; intro bn w' hst)
      | (with_reducible refine wpList_new rfl _ rfl (by assumption) _ zero_run ?_; intro br w' hst))
    refine (CN.out _).mono ?_
    rintro r w1 ⟨rfl, hb⟩
    have h4 := h3.below hb
    clear hb h3
    go_wp2_with (first
      | (with_reducible refine wpList_neqE rfl _ _ _ rfl _ _ rfl rfl ?_)
      | (with_reducible refine wpList_eqlE rfl _ _ _ rfl _ _ rfl rfl ?_)
      | (with_reducible refine wpList_ld rfl _ _ rfl _ _ rfl (by assumption) ?_)
      | (with_reducible refine wpList_lda rfl _ _ rfl _ _ rfl (by assumption) ?_)
      | (with_reducible refine wpList_stI rfl _ _ _ rfl _ _ rfl _ _ rfl (by assumption) ?_; intro w' hst)
      | (with_reducible refine wpList_stS rfl _ _ _ rfl _ _ rfl _ rfl (by assumption) ?_; intro w' hst)
      | (with_reducible refine wpList_stB rfl _ _ _ rfl _ _ rfl _ rfl (by assumption) ?_; intro w' hst)
      | (with_reducible refine wpList_stA rfl _ _ _ rfl _ _ rfl _ rfl (by assumption) ?_; intro w' hst)
      | (with_reducible refine wpList_box rfl _ _ rfl (by assumption) _ rfl ?_; intro bb w' hst)
      | (with_reducible refine wpList_new rfl _ rfl (by assumption) _ zero_ent ?_; intro bn w' hst)
      | (with_reducible refine wpList_new rfl _ rfl (by assumption) _ zero_run ?_; intro br w' hst))
    go_ret
    exact ⟨by rw [← HR.out]; rfl, h4.end⟩
  · have HR : Hid (putF e.kind 1 ++ putF e.stream 1 ++ mkS (textL e.name) = mkS (entBytes e)) := Lib.hid (one_4 e hk)
    have g1 : (e.kind == 1) = false := by rw [hk]; rfl
    have g4 : (e.kind == 4) = true := by rw [hk]; rfl
    clear hk hc HB
    generalize mkS (textL e.name) = T at *
    generalize putF e.kind 1 = S1 at *
    generalize putF e.stream 1 = S2 at *
    generalize putF e.n 4 = S3 at *
    generalize putF e.len 2 = S4 at *
    generalize mkS e.hash = SH at *
    generalize putF e.start 2 = S5 at *
    generalize putF e.count 2 = S6 at *
    have k1 : ¬ 9223372036854775807 < S1.size + T.size := by omega
    have k2 : ¬ 9223372036854775807 < S1.size + S2.size := by omega
    have k3 : ¬ 9223372036854775807 < (S1 ++ S2).size + T.size := by rw [ByteArray.size_append]; omega
    have k4 : ¬ 9223372036854775807 < (S1 ++ S2).size + S3.size := by rw [ByteArray.size_append]; omega
    have k5 : ¬ 9223372036854775807 < (S1 ++ S2 ++ S3).size + S4.size := by simp only [ByteArray.size_append]; omega
    have k6 : ¬ 9223372036854775807 < (S1 ++ S2 ++ S3 ++ S4).size + SH.size := by simp only [ByteArray.size_append]; omega
    have k7 : ¬ 9223372036854775807 < (S1 ++ S2 ++ S3 ++ S4 ++ SH).size + S5.size := by simp only [ByteArray.size_append]; omega
    have k8 : ¬ 9223372036854775807 < (S1 ++ S2 ++ S3 ++ S4 ++ SH ++ S5).size + S6.size := by simp only [ByteArray.size_append]; omega
    go_enter Try.func26, Try.ntmps26
    go_wp2_with (first
      | (with_reducible refine wpList_neqE rfl _ _ _ rfl _ _ rfl rfl ?_)
      | (with_reducible refine wpList_eqlE rfl _ _ _ rfl _ _ rfl rfl ?_)
      | (with_reducible refine wpList_ld rfl _ _ rfl _ _ rfl (by assumption) ?_)
      | (with_reducible refine wpList_lda rfl _ _ rfl _ _ rfl (by assumption) ?_)
      | (with_reducible refine wpList_stI rfl _ _ _ rfl _ _ rfl _ _ rfl (by assumption) ?_; intro w' hst)
      | (with_reducible refine wpList_stS rfl _ _ _ rfl _ _ rfl _ rfl (by assumption) ?_; intro w' hst)
      | (with_reducible refine wpList_stB rfl _ _ _ rfl _ _ rfl _ rfl (by assumption) ?_; intro w' hst)
      | (with_reducible refine wpList_stA rfl _ _ _ rfl _ _ rfl _ rfl (by assumption) ?_; intro w' hst)
      | (with_reducible refine wpList_box rfl _ _ rfl (by assumption) _ rfl ?_; intro bb w' hst)
      | (with_reducible refine wpList_new rfl _ rfl (by assumption) _ zero_ent ?_; intro bn w' hst)
      | (with_reducible refine wpList_new rfl _ rfl (by assumption) _ zero_run ?_; intro br w' hst))
    refine (CT.out _).mono ?_
    rintro r w1 ⟨rfl, hb⟩
    have h1 := hst.below hb
    clear hb hst
    rw [HX.out]
    go_wp2_with (first
      | (with_reducible refine wpList_neqE rfl _ _ _ rfl _ _ rfl rfl ?_)
      | (with_reducible refine wpList_eqlE rfl _ _ _ rfl _ _ rfl rfl ?_)
      | (with_reducible refine wpList_ld rfl _ _ rfl _ _ rfl (by assumption) ?_)
      | (with_reducible refine wpList_lda rfl _ _ rfl _ _ rfl (by assumption) ?_)
      | (with_reducible refine wpList_stI rfl _ _ _ rfl _ _ rfl _ _ rfl (by assumption) ?_; intro w' hst)
      | (with_reducible refine wpList_stS rfl _ _ _ rfl _ _ rfl _ rfl (by assumption) ?_; intro w' hst)
      | (with_reducible refine wpList_stB rfl _ _ _ rfl _ _ rfl _ rfl (by assumption) ?_; intro w' hst)
      | (with_reducible refine wpList_stA rfl _ _ _ rfl _ _ rfl _ rfl (by assumption) ?_; intro w' hst)
      | (with_reducible refine wpList_box rfl _ _ rfl (by assumption) _ rfl ?_; intro bb w' hst)
      | (with_reducible refine wpList_new rfl _ rfl (by assumption) _ zero_ent ?_; intro bn w' hst)
      | (with_reducible refine wpList_new rfl _ rfl (by assumption) _ zero_run ?_; intro br w' hst))
    refine (CK.out _).mono ?_
    rintro r w1 ⟨rfl, hb⟩
    have h2 := h1.below hb
    clear hb h1
    go_wp2_with (first
      | (with_reducible refine wpList_neqE rfl _ _ _ rfl _ _ rfl rfl ?_)
      | (with_reducible refine wpList_eqlE rfl _ _ _ rfl _ _ rfl rfl ?_)
      | (with_reducible refine wpList_ld rfl _ _ rfl _ _ rfl (by assumption) ?_)
      | (with_reducible refine wpList_lda rfl _ _ rfl _ _ rfl (by assumption) ?_)
      | (with_reducible refine wpList_stI rfl _ _ _ rfl _ _ rfl _ _ rfl (by assumption) ?_; intro w' hst)
      | (with_reducible refine wpList_stS rfl _ _ _ rfl _ _ rfl _ rfl (by assumption) ?_; intro w' hst)
      | (with_reducible refine wpList_stB rfl _ _ _ rfl _ _ rfl _ rfl (by assumption) ?_; intro w' hst)
      | (with_reducible refine wpList_stA rfl _ _ _ rfl _ _ rfl _ rfl (by assumption) ?_; intro w' hst)
      | (with_reducible refine wpList_box rfl _ _ rfl (by assumption) _ rfl ?_; intro bb w' hst)
      | (with_reducible refine wpList_new rfl _ rfl (by assumption) _ zero_ent ?_; intro bn w' hst)
      | (with_reducible refine wpList_new rfl _ rfl (by assumption) _ zero_run ?_; intro br w' hst))
    refine (CS.out _).mono ?_
    rintro r w1 ⟨rfl, hb⟩
    have h3 := h2.below hb
    clear hb h2
    go_wp2_with (first
      | (with_reducible refine wpList_neqE rfl _ _ _ rfl _ _ rfl rfl ?_)
      | (with_reducible refine wpList_eqlE rfl _ _ _ rfl _ _ rfl rfl ?_)
      | (with_reducible refine wpList_ld rfl _ _ rfl _ _ rfl (by assumption) ?_)
      | (with_reducible refine wpList_lda rfl _ _ rfl _ _ rfl (by assumption) ?_)
      | (with_reducible refine wpList_stI rfl _ _ _ rfl _ _ rfl _ _ rfl (by assumption) ?_; intro w' hst)
      | (with_reducible refine wpList_stS rfl _ _ _ rfl _ _ rfl _ rfl (by assumption) ?_; intro w' hst)
      | (with_reducible refine wpList_stB rfl _ _ _ rfl _ _ rfl _ rfl (by assumption) ?_; intro w' hst)
      | (with_reducible refine wpList_stA rfl _ _ _ rfl _ _ rfl _ rfl (by assumption) ?_; intro w' hst)
      | (with_reducible refine wpList_box rfl _ _ rfl (by assumption) _ rfl ?_; intro bb w' hst)
      | (with_reducible refine wpList_new rfl _ rfl (by assumption) _ zero_ent ?_; intro bn w' hst)
      | (with_reducible refine wpList_new rfl _ rfl (by assumption) _ zero_run ?_; intro br w' hst))
    go_ret
    exact ⟨by rw [← HR.out]; rfl, h3.end⟩
  · have HR : Hid (putF e.kind 1 ++ putF e.stream 1 ++ mkS (textL e.name) = mkS (entBytes e)) := Lib.hid (one_5 e hk)
    have g1 : (e.kind == 1) = false := by rw [hk]; rfl
    have g4 : (e.kind == 4) = false := by rw [hk]; rfl
    have g5 : (e.kind == 5) = true := by rw [hk]; rfl
    clear hk hc HB
    generalize mkS (textL e.name) = T at *
    generalize putF e.kind 1 = S1 at *
    generalize putF e.stream 1 = S2 at *
    generalize putF e.n 4 = S3 at *
    generalize putF e.len 2 = S4 at *
    generalize mkS e.hash = SH at *
    generalize putF e.start 2 = S5 at *
    generalize putF e.count 2 = S6 at *
    have k1 : ¬ 9223372036854775807 < S1.size + T.size := by omega
    have k2 : ¬ 9223372036854775807 < S1.size + S2.size := by omega
    have k3 : ¬ 9223372036854775807 < (S1 ++ S2).size + T.size := by rw [ByteArray.size_append]; omega
    have k4 : ¬ 9223372036854775807 < (S1 ++ S2).size + S3.size := by rw [ByteArray.size_append]; omega
    have k5 : ¬ 9223372036854775807 < (S1 ++ S2 ++ S3).size + S4.size := by simp only [ByteArray.size_append]; omega
    have k6 : ¬ 9223372036854775807 < (S1 ++ S2 ++ S3 ++ S4).size + SH.size := by simp only [ByteArray.size_append]; omega
    have k7 : ¬ 9223372036854775807 < (S1 ++ S2 ++ S3 ++ S4 ++ SH).size + S5.size := by simp only [ByteArray.size_append]; omega
    have k8 : ¬ 9223372036854775807 < (S1 ++ S2 ++ S3 ++ S4 ++ SH ++ S5).size + S6.size := by simp only [ByteArray.size_append]; omega
    go_enter Try.func26, Try.ntmps26
    go_wp2_with (first
      | (with_reducible refine wpList_neqE rfl _ _ _ rfl _ _ rfl rfl ?_)
      | (with_reducible refine wpList_eqlE rfl _ _ _ rfl _ _ rfl rfl ?_)
      | (with_reducible refine wpList_ld rfl _ _ rfl _ _ rfl (by assumption) ?_)
      | (with_reducible refine wpList_lda rfl _ _ rfl _ _ rfl (by assumption) ?_)
      | (with_reducible refine wpList_stI rfl _ _ _ rfl _ _ rfl _ _ rfl (by assumption) ?_; intro w' hst)
      | (with_reducible refine wpList_stS rfl _ _ _ rfl _ _ rfl _ rfl (by assumption) ?_; intro w' hst)
      | (with_reducible refine wpList_stB rfl _ _ _ rfl _ _ rfl _ rfl (by assumption) ?_; intro w' hst)
      | (with_reducible refine wpList_stA rfl _ _ _ rfl _ _ rfl _ rfl (by assumption) ?_; intro w' hst)
      | (with_reducible refine wpList_box rfl _ _ rfl (by assumption) _ rfl ?_; intro bb w' hst)
      | (with_reducible refine wpList_new rfl _ rfl (by assumption) _ zero_ent ?_; intro bn w' hst)
      | (with_reducible refine wpList_new rfl _ rfl (by assumption) _ zero_run ?_; intro br w' hst))
    refine (CT.out _).mono ?_
    rintro r w1 ⟨rfl, hb⟩
    have h1 := hst.below hb
    clear hb hst
    rw [HX.out]
    go_wp2_with (first
      | (with_reducible refine wpList_neqE rfl _ _ _ rfl _ _ rfl rfl ?_)
      | (with_reducible refine wpList_eqlE rfl _ _ _ rfl _ _ rfl rfl ?_)
      | (with_reducible refine wpList_ld rfl _ _ rfl _ _ rfl (by assumption) ?_)
      | (with_reducible refine wpList_lda rfl _ _ rfl _ _ rfl (by assumption) ?_)
      | (with_reducible refine wpList_stI rfl _ _ _ rfl _ _ rfl _ _ rfl (by assumption) ?_; intro w' hst)
      | (with_reducible refine wpList_stS rfl _ _ _ rfl _ _ rfl _ rfl (by assumption) ?_; intro w' hst)
      | (with_reducible refine wpList_stB rfl _ _ _ rfl _ _ rfl _ rfl (by assumption) ?_; intro w' hst)
      | (with_reducible refine wpList_stA rfl _ _ _ rfl _ _ rfl _ rfl (by assumption) ?_; intro w' hst)
      | (with_reducible refine wpList_box rfl _ _ rfl (by assumption) _ rfl ?_; intro bb w' hst)
      | (with_reducible refine wpList_new rfl _ rfl (by assumption) _ zero_ent ?_; intro bn w' hst)
      | (with_reducible refine wpList_new rfl _ rfl (by assumption) _ zero_run ?_; intro br w' hst))
    refine (CK.out _).mono ?_
    rintro r w1 ⟨rfl, hb⟩
    have h2 := h1.below hb
    clear hb h1
    go_wp2_with (first
      | (with_reducible refine wpList_neqE rfl _ _ _ rfl _ _ rfl rfl ?_)
      | (with_reducible refine wpList_eqlE rfl _ _ _ rfl _ _ rfl rfl ?_)
      | (with_reducible refine wpList_ld rfl _ _ rfl _ _ rfl (by assumption) ?_)
      | (with_reducible refine wpList_lda rfl _ _ rfl _ _ rfl (by assumption) ?_)
      | (with_reducible refine wpList_stI rfl _ _ _ rfl _ _ rfl _ _ rfl (by assumption) ?_; intro w' hst)
      | (with_reducible refine wpList_stS rfl _ _ _ rfl _ _ rfl _ rfl (by assumption) ?_; intro w' hst)
      | (with_reducible refine wpList_stB rfl _ _ _ rfl _ _ rfl _ rfl (by assumption) ?_; intro w' hst)
      | (with_reducible refine wpList_stA rfl _ _ _ rfl _ _ rfl _ rfl (by assumption) ?_; intro w' hst)
      | (with_reducible refine wpList_box rfl _ _ rfl (by assumption) _ rfl ?_; intro bb w' hst)
      | (with_reducible refine wpList_new rfl _ rfl (by assumption) _ zero_ent ?_; intro bn w' hst)
      | (with_reducible refine wpList_new rfl _ rfl (by assumption) _ zero_run ?_; intro br w' hst))
    refine (CS.out _).mono ?_
    rintro r w1 ⟨rfl, hb⟩
    have h3 := h2.below hb
    clear hb h2
    go_wp2_with (first
      | (with_reducible refine wpList_neqE rfl _ _ _ rfl _ _ rfl rfl ?_)
      | (with_reducible refine wpList_eqlE rfl _ _ _ rfl _ _ rfl rfl ?_)
      | (with_reducible refine wpList_ld rfl _ _ rfl _ _ rfl (by assumption) ?_)
      | (with_reducible refine wpList_lda rfl _ _ rfl _ _ rfl (by assumption) ?_)
      | (with_reducible refine wpList_stI rfl _ _ _ rfl _ _ rfl _ _ rfl (by assumption) ?_; intro w' hst)
      | (with_reducible refine wpList_stS rfl _ _ _ rfl _ _ rfl _ rfl (by assumption) ?_; intro w' hst)
      | (with_reducible refine wpList_stB rfl _ _ _ rfl _ _ rfl _ rfl (by assumption) ?_; intro w' hst)
      | (with_reducible refine wpList_stA rfl _ _ _ rfl _ _ rfl _ rfl (by assumption) ?_; intro w' hst)
      | (with_reducible refine wpList_box rfl _ _ rfl (by assumption) _ rfl ?_; intro bb w' hst)
      | (with_reducible refine wpList_new rfl _ rfl (by assumption) _ zero_ent ?_; intro bn w' hst)
      | (with_reducible refine wpList_new rfl _ rfl (by assumption) _ zero_run ?_; intro br w' hst))
    go_ret
    exact ⟨by rw [← HR.out]; rfl, h3.end⟩
  · have HR : Hid (putF e.kind 1 ++ putF e.stream 1 ++ putF e.n 4 = mkS (entBytes e)) := Lib.hid (one_6 e hk)
    have g1 : (e.kind == 1) = false := by rw [hk]; rfl
    have g4 : (e.kind == 4) = false := by rw [hk]; rfl
    have g5 : (e.kind == 5) = false := by rw [hk]; rfl
    have g2 : (e.kind != 2) = true := by rw [hk]; rfl
    clear hk hc HB
    generalize mkS (textL e.name) = T at *
    generalize putF e.kind 1 = S1 at *
    generalize putF e.stream 1 = S2 at *
    generalize putF e.n 4 = S3 at *
    generalize putF e.len 2 = S4 at *
    generalize mkS e.hash = SH at *
    generalize putF e.start 2 = S5 at *
    generalize putF e.count 2 = S6 at *
    have k1 : ¬ 9223372036854775807 < S1.size + T.size := by omega
    have k2 : ¬ 9223372036854775807 < S1.size + S2.size := by omega
    have k3 : ¬ 9223372036854775807 < (S1 ++ S2).size + T.size := by rw [ByteArray.size_append]; omega
    have k4 : ¬ 9223372036854775807 < (S1 ++ S2).size + S3.size := by rw [ByteArray.size_append]; omega
    have k5 : ¬ 9223372036854775807 < (S1 ++ S2 ++ S3).size + S4.size := by simp only [ByteArray.size_append]; omega
    have k6 : ¬ 9223372036854775807 < (S1 ++ S2 ++ S3 ++ S4).size + SH.size := by simp only [ByteArray.size_append]; omega
    have k7 : ¬ 9223372036854775807 < (S1 ++ S2 ++ S3 ++ S4 ++ SH).size + S5.size := by simp only [ByteArray.size_append]; omega
    have k8 : ¬ 9223372036854775807 < (S1 ++ S2 ++ S3 ++ S4 ++ SH ++ S5).size + S6.size := by simp only [ByteArray.size_append]; omega
    go_enter Try.func26, Try.ntmps26
    go_wp2_with (first
      | (with_reducible refine wpList_neqE rfl _ _ _ rfl _ _ rfl rfl ?_)
      | (with_reducible refine wpList_eqlE rfl _ _ _ rfl _ _ rfl rfl ?_)
      | (with_reducible refine wpList_ld rfl _ _ rfl _ _ rfl (by assumption) ?_)
      | (with_reducible refine wpList_lda rfl _ _ rfl _ _ rfl (by assumption) ?_)
      | (with_reducible refine wpList_stI rfl _ _ _ rfl _ _ rfl _ _ rfl (by assumption) ?_; intro w' hst)
      | (with_reducible refine wpList_stS rfl _ _ _ rfl _ _ rfl _ rfl (by assumption) ?_; intro w' hst)
      | (with_reducible refine wpList_stB rfl _ _ _ rfl _ _ rfl _ rfl (by assumption) ?_; intro w' hst)
      | (with_reducible refine wpList_stA rfl _ _ _ rfl _ _ rfl _ rfl (by assumption) ?_; intro w' hst)
      | (with_reducible refine wpList_box rfl _ _ rfl (by assumption) _ rfl ?_; intro bb w' hst)
      | (with_reducible refine wpList_new rfl _ rfl (by assumption) _ zero_ent ?_; intro bn w' hst)
      | (with_reducible refine wpList_new rfl _ rfl (by assumption) _ zero_run ?_; intro br w' hst))
    refine (CT.out _).mono ?_
    rintro r w1 ⟨rfl, hb⟩
    have h1 := hst.below hb
    clear hb hst
    rw [HX.out]
    go_wp2_with (first
      | (with_reducible refine wpList_neqE rfl _ _ _ rfl _ _ rfl rfl ?_)
      | (with_reducible refine wpList_eqlE rfl _ _ _ rfl _ _ rfl rfl ?_)
      | (with_reducible refine wpList_ld rfl _ _ rfl _ _ rfl (by assumption) ?_)
      | (with_reducible refine wpList_lda rfl _ _ rfl _ _ rfl (by assumption) ?_)
      | (with_reducible refine wpList_stI rfl _ _ _ rfl _ _ rfl _ _ rfl (by assumption) ?_; intro w' hst)
      | (with_reducible refine wpList_stS rfl _ _ _ rfl _ _ rfl _ rfl (by assumption) ?_; intro w' hst)
      | (with_reducible refine wpList_stB rfl _ _ _ rfl _ _ rfl _ rfl (by assumption) ?_; intro w' hst)
      | (with_reducible refine wpList_stA rfl _ _ _ rfl _ _ rfl _ rfl (by assumption) ?_; intro w' hst)
      | (with_reducible refine wpList_box rfl _ _ rfl (by assumption) _ rfl ?_; intro bb w' hst)
      | (with_reducible refine wpList_new rfl _ rfl (by assumption) _ zero_ent ?_; intro bn w' hst)
      | (with_reducible refine wpList_new rfl _ rfl (by assumption) _ zero_run ?_; intro br w' hst))
    refine (CK.out _).mono ?_
    rintro r w1 ⟨rfl, hb⟩
    have h2 := h1.below hb
    clear hb h1
    go_wp2_with (first
      | (with_reducible refine wpList_neqE rfl _ _ _ rfl _ _ rfl rfl ?_)
      | (with_reducible refine wpList_eqlE rfl _ _ _ rfl _ _ rfl rfl ?_)
      | (with_reducible refine wpList_ld rfl _ _ rfl _ _ rfl (by assumption) ?_)
      | (with_reducible refine wpList_lda rfl _ _ rfl _ _ rfl (by assumption) ?_)
      | (with_reducible refine wpList_stI rfl _ _ _ rfl _ _ rfl _ _ rfl (by assumption) ?_; intro w' hst)
      | (with_reducible refine wpList_stS rfl _ _ _ rfl _ _ rfl _ rfl (by assumption) ?_; intro w' hst)
      | (with_reducible refine wpList_stB rfl _ _ _ rfl _ _ rfl _ rfl (by assumption) ?_; intro w' hst)
      | (with_reducible refine wpList_stA rfl _ _ _ rfl _ _ rfl _ rfl (by assumption) ?_; intro w' hst)
      | (with_reducible refine wpList_box rfl _ _ rfl (by assumption) _ rfl ?_; intro bb w' hst)
      | (with_reducible refine wpList_new rfl _ rfl (by assumption) _ zero_ent ?_; intro bn w' hst)
      | (with_reducible refine wpList_new rfl _ rfl (by assumption) _ zero_run ?_; intro br w' hst))
    refine (CS.out _).mono ?_
    rintro r w1 ⟨rfl, hb⟩
    have h3 := h2.below hb
    clear hb h2
    go_wp2_with (first
      | (with_reducible refine wpList_neqE rfl _ _ _ rfl _ _ rfl rfl ?_)
      | (with_reducible refine wpList_eqlE rfl _ _ _ rfl _ _ rfl rfl ?_)
      | (with_reducible refine wpList_ld rfl _ _ rfl _ _ rfl (by assumption) ?_)
      | (with_reducible refine wpList_lda rfl _ _ rfl _ _ rfl (by assumption) ?_)
      | (with_reducible refine wpList_stI rfl _ _ _ rfl _ _ rfl _ _ rfl (by assumption) ?_; intro w' hst)
      | (with_reducible refine wpList_stS rfl _ _ _ rfl _ _ rfl _ rfl (by assumption) ?_; intro w' hst)
      | (with_reducible refine wpList_stB rfl _ _ _ rfl _ _ rfl _ rfl (by assumption) ?_; intro w' hst)
      | (with_reducible refine wpList_stA rfl _ _ _ rfl _ _ rfl _ rfl (by assumption) ?_; intro w' hst)
      | (with_reducible refine wpList_box rfl _ _ rfl (by assumption) _ rfl ?_; intro bb w' hst)
      | (with_reducible refine wpList_new rfl _ rfl (by assumption) _ zero_ent ?_; intro bn w' hst)
      | (with_reducible refine wpList_new rfl _ rfl (by assumption) _ zero_run ?_; intro br w' hst))
    refine (CN.out _).mono ?_
    rintro r w1 ⟨rfl, hb⟩
    have h4 := h3.below hb
    clear hb h3
    go_wp2_with (first
      | (with_reducible refine wpList_neqE rfl _ _ _ rfl _ _ rfl rfl ?_)
      | (with_reducible refine wpList_eqlE rfl _ _ _ rfl _ _ rfl rfl ?_)
      | (with_reducible refine wpList_ld rfl _ _ rfl _ _ rfl (by assumption) ?_)
      | (with_reducible refine wpList_lda rfl _ _ rfl _ _ rfl (by assumption) ?_)
      | (with_reducible refine wpList_stI rfl _ _ _ rfl _ _ rfl _ _ rfl (by assumption) ?_; intro w' hst)
      | (with_reducible refine wpList_stS rfl _ _ _ rfl _ _ rfl _ rfl (by assumption) ?_; intro w' hst)
      | (with_reducible refine wpList_stB rfl _ _ _ rfl _ _ rfl _ rfl (by assumption) ?_; intro w' hst)
      | (with_reducible refine wpList_stA rfl _ _ _ rfl _ _ rfl _ rfl (by assumption) ?_; intro w' hst)
      | (with_reducible refine wpList_box rfl _ _ rfl (by assumption) _ rfl ?_; intro bb w' hst)
      | (with_reducible refine wpList_new rfl _ rfl (by assumption) _ zero_ent ?_; intro bn w' hst)
      | (with_reducible refine wpList_new rfl _ rfl (by assumption) _ zero_run ?_; intro br w' hst))
    go_ret
    exact ⟨by rw [← HR.out]; rfl, h4.end⟩
end Go.Proofs.Ytgjgjhikimnknaa
