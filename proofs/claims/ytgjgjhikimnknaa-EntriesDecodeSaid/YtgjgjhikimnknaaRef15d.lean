/- The contract of the reference's May: it tells what entries.Check tells: the walk. -/
import Derived.Test.YtgjgjhikimnknaaRef15c
set_option linter.unusedVariables false
set_option linter.unusedSimpArgs false
namespace Go.Proofs.Ytgjgjhikimnknaa
open Go.RowKit

set_option maxHeartbeats 16000000 in
set_option maxRecDepth 100000 in
theorem may_calls (e : Ent) (he : e.Wf) (w : World) :
    Calls Try.prog 15 #[.agg (entC e)] w fun r w' => r = .returned (.bool (checkB e)) ∧ Below w.heap.size w w' := by
  have HM : Hid (checkB e = (decide (1 ≤ e.kind) && (decide (e.kind ≤ 6) && (entEq (bareE e) e && (withinB e.stream 7 && mayK e))))) := Lib.hid (may_eq e he.hash)
  have HK : Hid (mayK e = if e.kind = 2 then withinB e.n 1073741824 && (withinB e.len 300 && runB e.start e.count) else if e.kind = 3 then withinB e.n 1073741824 else if e.kind = 6 then withinB e.n 63 else nameOk e.name) := Lib.hid rfl
  have HW := Lib.hid he
  clear he
  have hst := St.start w
  obtain ⟨bq, hbq⟩ : ∃ b, entEq (bareE e) e = b := ⟨_, rfl⟩
  have HBQ := Lib.hid hbq
  rw [hbq] at HM
  clear hbq
  by_cases ha : 1 ≤ e.kind
  case neg =>
    have HF : Hid (checkB e = false) := Lib.hid (by rw [HM.out, decide_eq_false ha]; rfl)
    have f1 : decide (e.kind < 1) = true := by simp; omega
    clear ha HM HK
    generalize checkB e = res at *
    go_enter Try.func15, Try.ntmps15
    go_wp2_with (first
      | (with_reducible refine wpList_neqE rfl _ _ _ rfl _ _ rfl rfl ?_)
      | (with_reducible refine wpList_eqlE rfl _ _ _ rfl _ _ rfl rfl ?_)
      | (with_reducible refine wpList_ld rfl _ _ rfl _ _ rfl (by assumption) ?_)
      | (with_reducible refine wpList_lda rfl _ _ rfl _ _ rfl (by assumption) ?_)
      | (with_reducible refine wpList_stI rfl _ _ _ rfl _ _ rfl _ _ rfl (by assumption) ?_; intro w' hst)
      | (with_reducible refine wpList_stS rfl _ _ _ rfl _ _ rfl _ rfl (by assumption) ?_; intro w' hst)
      | (with_reducible refine wpList_stB rfl _ _ _ rfl _ _ rfl _ rfl (by assumption) ?_; intro w' hst)
      | (with_reducible refine wpList_stA rfl _ _ _ rfl _ _ rfl _ rfl (by assumption) ?_; intro w' hst)
      | (with_reducible refine wpList_box rfl _ _ rfl (by assumption) _ rfl ?_; intro bb w' hst)
      | (with_reducible refine wpList_new rfl _ rfl (by assumption) _ zero_ent ?_; intro bn w' hst)
      | (with_reducible refine wpList_new rfl _ rfl (by assumption) _ zero_run ?_; intro br w' hst))
    have hq := hst.quiet
    refine wp_region_below_lit (by kernel_rfl) (by kernel_rfl) ?_
    repeat (first
      | (with_reducible refine wpQuiet_ld rfl _ _ rfl _ _ rfl hq ?_; simp only [Act.put, List.setIfInBounds_toArray, List.set_cons_succ, List.set_cons_zero])
      | (with_reducible refine wpQuiet_lda rfl _ _ rfl _ _ rfl hq ?_; simp only [Act.put, List.setIfInBounds_toArray, List.set_cons_succ, List.set_cons_zero])
      | (refine wpQuiet_neqE rfl _ _ _ rfl _ _ rfl rfl ?_; simp only [Act.put, List.setIfInBounds_toArray, List.set_cons_succ, List.set_cons_zero, HBQ.out, Bool.not_true, Bool.not_false])
      | go_big_quiet_step ((go_at_call 30; exact Calls.below_of (bare_calls _ _))))
    refine wpQuiet_nil ?_
    intro wq hwq
    have h1 := hq wq hwq
    clear hq hwq hst
    go_wp2_with (first
      | (with_reducible refine wpList_neqE rfl _ _ _ rfl _ _ rfl rfl ?_)
      | (with_reducible refine wpList_eqlE rfl _ _ _ rfl _ _ rfl rfl ?_)
      | (with_reducible refine wpList_ld rfl _ _ rfl _ _ rfl (by assumption) ?_)
      | (with_reducible refine wpList_lda rfl _ _ rfl _ _ rfl (by assumption) ?_)
      | (with_reducible refine wpList_stI rfl _ _ _ rfl _ _ rfl _ _ rfl (by assumption) ?_; intro w' hst)
      | (with_reducible refine wpList_stS rfl _ _ _ rfl _ _ rfl _ rfl (by assumption) ?_; intro w' hst)
      | (with_reducible refine wpList_stB rfl _ _ _ rfl _ _ rfl _ rfl (by assumption) ?_; intro w' hst)
      | (with_reducible refine wpList_stA rfl _ _ _ rfl _ _ rfl _ rfl (by assumption) ?_; intro w' hst)
      | (with_reducible refine wpList_box rfl _ _ rfl (by assumption) _ rfl ?_; intro bb w' hst)
      | (with_reducible refine wpList_new rfl _ rfl (by assumption) _ zero_ent ?_; intro bn w' hst)
      | (with_reducible refine wpList_new rfl _ rfl (by assumption) _ zero_run ?_; intro br w' hst))
    go_ret
    exact ⟨by rw [HF.out]; rfl, h1.end⟩
  have f1 : decide (e.kind < 1) = false := by simp; omega
  by_cases hb : e.kind ≤ 6
  case neg =>
    have HF : Hid (checkB e = false) := Lib.hid (by rw [HM.out, decide_eq_false hb]; simp)
    have f2 : decide (6 < e.kind) = true := by simp; omega
    clear ha hb HM HK
    generalize checkB e = res at *
    go_enter Try.func15, Try.ntmps15
    go_wp2_with (first
      | (with_reducible refine wpList_neqE rfl _ _ _ rfl _ _ rfl rfl ?_)
      | (with_reducible refine wpList_eqlE rfl _ _ _ rfl _ _ rfl rfl ?_)
      | (with_reducible refine wpList_ld rfl _ _ rfl _ _ rfl (by assumption) ?_)
      | (with_reducible refine wpList_lda rfl _ _ rfl _ _ rfl (by assumption) ?_)
      | (with_reducible refine wpList_stI rfl _ _ _ rfl _ _ rfl _ _ rfl (by assumption) ?_; intro w' hst)
      | (with_reducible refine wpList_stS rfl _ _ _ rfl _ _ rfl _ rfl (by assumption) ?_; intro w' hst)
      | (with_reducible refine wpList_stB rfl _ _ _ rfl _ _ rfl _ rfl (by assumption) ?_; intro w' hst)
      | (with_reducible refine wpList_stA rfl _ _ _ rfl _ _ rfl _ rfl (by assumption) ?_; intro w' hst)
      | (with_reducible refine wpList_box rfl _ _ rfl (by assumption) _ rfl ?_; intro bb w' hst)
      | (with_reducible refine wpList_new rfl _ rfl (by assumption) _ zero_ent ?_; intro bn w' hst)
      | (with_reducible refine wpList_new rfl _ rfl (by assumption) _ zero_run ?_; intro br w' hst))
    have hq := hst.quiet
    refine wp_region_below_lit (by kernel_rfl) (by kernel_rfl) ?_
    repeat (first
      | (with_reducible refine wpQuiet_ld rfl _ _ rfl _ _ rfl hq ?_; simp only [Act.put, List.setIfInBounds_toArray, List.set_cons_succ, List.set_cons_zero])
      | (with_reducible refine wpQuiet_lda rfl _ _ rfl _ _ rfl hq ?_; simp only [Act.put, List.setIfInBounds_toArray, List.set_cons_succ, List.set_cons_zero])
      | (refine wpQuiet_neqE rfl _ _ _ rfl _ _ rfl rfl ?_; simp only [Act.put, List.setIfInBounds_toArray, List.set_cons_succ, List.set_cons_zero, HBQ.out, Bool.not_true, Bool.not_false])
      | go_big_quiet_step ((go_at_call 30; exact Calls.below_of (bare_calls _ _))))
    refine wpQuiet_nil ?_
    intro wq hwq
    have h1 := hq wq hwq
    clear hq hwq hst
    go_wp2_with (first
      | (with_reducible refine wpList_neqE rfl _ _ _ rfl _ _ rfl rfl ?_)
      | (with_reducible refine wpList_eqlE rfl _ _ _ rfl _ _ rfl rfl ?_)
      | (with_reducible refine wpList_ld rfl _ _ rfl _ _ rfl (by assumption) ?_)
      | (with_reducible refine wpList_lda rfl _ _ rfl _ _ rfl (by assumption) ?_)
      | (with_reducible refine wpList_stI rfl _ _ _ rfl _ _ rfl _ _ rfl (by assumption) ?_; intro w' hst)
      | (with_reducible refine wpList_stS rfl _ _ _ rfl _ _ rfl _ rfl (by assumption) ?_; intro w' hst)
      | (with_reducible refine wpList_stB rfl _ _ _ rfl _ _ rfl _ rfl (by assumption) ?_; intro w' hst)
      | (with_reducible refine wpList_stA rfl _ _ _ rfl _ _ rfl _ rfl (by assumption) ?_; intro w' hst)
      | (with_reducible refine wpList_box rfl _ _ rfl (by assumption) _ rfl ?_; intro bb w' hst)
      | (with_reducible refine wpList_new rfl _ rfl (by assumption) _ zero_ent ?_; intro bn w' hst)
      | (with_reducible refine wpList_new rfl _ rfl (by assumption) _ zero_run ?_; intro br w' hst))
    go_ret
    exact ⟨by rw [HF.out]; rfl, h1.end⟩
  have f2 : decide (6 < e.kind) = false := by simp; omega
  cases bq
  case false =>
    have HF : Hid (checkB e = false) := Lib.hid (by rw [HM.out]; simp)
    clear ha hb HM HK
    generalize checkB e = res at *
    go_enter Try.func15, Try.ntmps15
    go_wp2_with (first
      | (with_reducible refine wpList_neqE rfl _ _ _ rfl _ _ rfl rfl ?_)
      | (with_reducible refine wpList_eqlE rfl _ _ _ rfl _ _ rfl rfl ?_)
      | (with_reducible refine wpList_ld rfl _ _ rfl _ _ rfl (by assumption) ?_)
      | (with_reducible refine wpList_lda rfl _ _ rfl _ _ rfl (by assumption) ?_)
      | (with_reducible refine wpList_stI rfl _ _ _ rfl _ _ rfl _ _ rfl (by assumption) ?_; intro w' hst)
      | (with_reducible refine wpList_stS rfl _ _ _ rfl _ _ rfl _ rfl (by assumption) ?_; intro w' hst)
      | (with_reducible refine wpList_stB rfl _ _ _ rfl _ _ rfl _ rfl (by assumption) ?_; intro w' hst)
      | (with_reducible refine wpList_stA rfl _ _ _ rfl _ _ rfl _ rfl (by assumption) ?_; intro w' hst)
      | (with_reducible refine wpList_box rfl _ _ rfl (by assumption) _ rfl ?_; intro bb w' hst)
      | (with_reducible refine wpList_new rfl _ rfl (by assumption) _ zero_ent ?_; intro bn w' hst)
      | (with_reducible refine wpList_new rfl _ rfl (by assumption) _ zero_run ?_; intro br w' hst))
    have hq := hst.quiet
    refine wp_region_below_lit (by kernel_rfl) (by kernel_rfl) ?_
    repeat (first
      | (with_reducible refine wpQuiet_ld rfl _ _ rfl _ _ rfl hq ?_; simp only [Act.put, List.setIfInBounds_toArray, List.set_cons_succ, List.set_cons_zero])
      | (with_reducible refine wpQuiet_lda rfl _ _ rfl _ _ rfl hq ?_; simp only [Act.put, List.setIfInBounds_toArray, List.set_cons_succ, List.set_cons_zero])
      | (refine wpQuiet_neqE rfl _ _ _ rfl _ _ rfl rfl ?_; simp only [Act.put, List.setIfInBounds_toArray, List.set_cons_succ, List.set_cons_zero, HBQ.out, Bool.not_true, Bool.not_false])
      | go_big_quiet_step ((go_at_call 30; exact Calls.below_of (bare_calls _ _))))
    refine wpQuiet_nil ?_
    intro wq hwq
    have h1 := hq wq hwq
    clear hq hwq hst
    go_wp2_with (first
      | (with_reducible refine wpList_neqE rfl _ _ _ rfl _ _ rfl rfl ?_)
      | (with_reducible refine wpList_eqlE rfl _ _ _ rfl _ _ rfl rfl ?_)
      | (with_reducible refine wpList_ld rfl _ _ rfl _ _ rfl (by assumption) ?_)
      | (with_reducible refine wpList_lda rfl _ _ rfl _ _ rfl (by assumption) ?_)
      | (with_reducible refine wpList_stI rfl _ _ _ rfl _ _ rfl _ _ rfl (by assumption) ?_; intro w' hst)
      | (with_reducible refine wpList_stS rfl _ _ _ rfl _ _ rfl _ rfl (by assumption) ?_; intro w' hst)
      | (with_reducible refine wpList_stB rfl _ _ _ rfl _ _ rfl _ rfl (by assumption) ?_; intro w' hst)
      | (with_reducible refine wpList_stA rfl _ _ _ rfl _ _ rfl _ rfl (by assumption) ?_; intro w' hst)
      | (with_reducible refine wpList_box rfl _ _ rfl (by assumption) _ rfl ?_; intro bb w' hst)
      | (with_reducible refine wpList_new rfl _ rfl (by assumption) _ zero_ent ?_; intro bn w' hst)
      | (with_reducible refine wpList_new rfl _ rfl (by assumption) _ zero_run ?_; intro br w' hst))
    go_ret
    exact ⟨by rw [HF.out]; rfl, h1.end⟩
  by_cases hd : 0 ≤ e.stream
  case neg =>
    have HF : Hid (checkB e = false) := Lib.hid (by rw [HM.out]; simp [withinB, hd])
    have f3 : decide (e.stream < 0) = true := by simp; omega
    clear ha hb hd HM HK
    generalize checkB e = res at *
    go_enter Try.func15, Try.ntmps15
    go_wp2_with (first
      | (with_reducible refine wpList_neqE rfl _ _ _ rfl _ _ rfl rfl ?_)
      | (with_reducible refine wpList_eqlE rfl _ _ _ rfl _ _ rfl rfl ?_)
      | (with_reducible refine wpList_ld rfl _ _ rfl _ _ rfl (by assumption) ?_)
      | (with_reducible refine wpList_lda rfl _ _ rfl _ _ rfl (by assumption) ?_)
      | (with_reducible refine wpList_stI rfl _ _ _ rfl _ _ rfl _ _ rfl (by assumption) ?_; intro w' hst)
      | (with_reducible refine wpList_stS rfl _ _ _ rfl _ _ rfl _ rfl (by assumption) ?_; intro w' hst)
      | (with_reducible refine wpList_stB rfl _ _ _ rfl _ _ rfl _ rfl (by assumption) ?_; intro w' hst)
      | (with_reducible refine wpList_stA rfl _ _ _ rfl _ _ rfl _ rfl (by assumption) ?_; intro w' hst)
      | (with_reducible refine wpList_box rfl _ _ rfl (by assumption) _ rfl ?_; intro bb w' hst)
      | (with_reducible refine wpList_new rfl _ rfl (by assumption) _ zero_ent ?_; intro bn w' hst)
      | (with_reducible refine wpList_new rfl _ rfl (by assumption) _ zero_run ?_; intro br w' hst))
    have hq := hst.quiet
    refine wp_region_below_lit (by kernel_rfl) (by kernel_rfl) ?_
    repeat (first
      | (with_reducible refine wpQuiet_ld rfl _ _ rfl _ _ rfl hq ?_; simp only [Act.put, List.setIfInBounds_toArray, List.set_cons_succ, List.set_cons_zero])
      | (with_reducible refine wpQuiet_lda rfl _ _ rfl _ _ rfl hq ?_; simp only [Act.put, List.setIfInBounds_toArray, List.set_cons_succ, List.set_cons_zero])
      | (refine wpQuiet_neqE rfl _ _ _ rfl _ _ rfl rfl ?_; simp only [Act.put, List.setIfInBounds_toArray, List.set_cons_succ, List.set_cons_zero, HBQ.out, Bool.not_true, Bool.not_false])
      | go_big_quiet_step ((go_at_call 30; exact Calls.below_of (bare_calls _ _))))
    refine wpQuiet_nil ?_
    intro wq hwq
    have h1 := hq wq hwq
    clear hq hwq hst
    go_wp2_with (first
      | (with_reducible refine wpList_neqE rfl _ _ _ rfl _ _ rfl rfl ?_)
      | (with_reducible refine wpList_eqlE rfl _ _ _ rfl _ _ rfl rfl ?_)
      | (with_reducible refine wpList_ld rfl _ _ rfl _ _ rfl (by assumption) ?_)
      | (with_reducible refine wpList_lda rfl _ _ rfl _ _ rfl (by assumption) ?_)
      | (with_reducible refine wpList_stI rfl _ _ _ rfl _ _ rfl _ _ rfl (by assumption) ?_; intro w' hst)
      | (with_reducible refine wpList_stS rfl _ _ _ rfl _ _ rfl _ rfl (by assumption) ?_; intro w' hst)
      | (with_reducible refine wpList_stB rfl _ _ _ rfl _ _ rfl _ rfl (by assumption) ?_; intro w' hst)
      | (with_reducible refine wpList_stA rfl _ _ _ rfl _ _ rfl _ rfl (by assumption) ?_; intro w' hst)
      | (with_reducible refine wpList_box rfl _ _ rfl (by assumption) _ rfl ?_; intro bb w' hst)
      | (with_reducible refine wpList_new rfl _ rfl (by assumption) _ zero_ent ?_; intro bn w' hst)
      | (with_reducible refine wpList_new rfl _ rfl (by assumption) _ zero_run ?_; intro br w' hst))
    go_ret
    exact ⟨by rw [HF.out]; rfl, h1.end⟩
  have f3 : decide (e.stream < 0) = false := by simp; omega
  by_cases hs : e.stream ≤ 7
  case neg =>
    have HF : Hid (checkB e = false) := Lib.hid (by rw [HM.out]; simp [withinB, hs])
    have f4 : decide (8 ≤ e.stream) = true := by simp; omega
    clear ha hb hd hs HM HK
    generalize checkB e = res at *
    go_enter Try.func15, Try.ntmps15
    go_wp2_with (first
      | (with_reducible refine wpList_neqE rfl _ _ _ rfl _ _ rfl rfl ?_)
      | (with_reducible refine wpList_eqlE rfl _ _ _ rfl _ _ rfl rfl ?_)
      | (with_reducible refine wpList_ld rfl _ _ rfl _ _ rfl (by assumption) ?_)
      | (with_reducible refine wpList_lda rfl _ _ rfl _ _ rfl (by assumption) ?_)
      | (with_reducible refine wpList_stI rfl _ _ _ rfl _ _ rfl _ _ rfl (by assumption) ?_; intro w' hst)
      | (with_reducible refine wpList_stS rfl _ _ _ rfl _ _ rfl _ rfl (by assumption) ?_; intro w' hst)
      | (with_reducible refine wpList_stB rfl _ _ _ rfl _ _ rfl _ rfl (by assumption) ?_; intro w' hst)
      | (with_reducible refine wpList_stA rfl _ _ _ rfl _ _ rfl _ rfl (by assumption) ?_; intro w' hst)
      | (with_reducible refine wpList_box rfl _ _ rfl (by assumption) _ rfl ?_; intro bb w' hst)
      | (with_reducible refine wpList_new rfl _ rfl (by assumption) _ zero_ent ?_; intro bn w' hst)
      | (with_reducible refine wpList_new rfl _ rfl (by assumption) _ zero_run ?_; intro br w' hst))
    have hq := hst.quiet
    refine wp_region_below_lit (by kernel_rfl) (by kernel_rfl) ?_
    repeat (first
      | (with_reducible refine wpQuiet_ld rfl _ _ rfl _ _ rfl hq ?_; simp only [Act.put, List.setIfInBounds_toArray, List.set_cons_succ, List.set_cons_zero])
      | (with_reducible refine wpQuiet_lda rfl _ _ rfl _ _ rfl hq ?_; simp only [Act.put, List.setIfInBounds_toArray, List.set_cons_succ, List.set_cons_zero])
      | (refine wpQuiet_neqE rfl _ _ _ rfl _ _ rfl rfl ?_; simp only [Act.put, List.setIfInBounds_toArray, List.set_cons_succ, List.set_cons_zero, HBQ.out, Bool.not_true, Bool.not_false])
      | go_big_quiet_step ((go_at_call 30; exact Calls.below_of (bare_calls _ _))))
    refine wpQuiet_nil ?_
    intro wq hwq
    have h1 := hq wq hwq
    clear hq hwq hst
    go_wp2_with (first
      | (with_reducible refine wpList_neqE rfl _ _ _ rfl _ _ rfl rfl ?_)
      | (with_reducible refine wpList_eqlE rfl _ _ _ rfl _ _ rfl rfl ?_)
      | (with_reducible refine wpList_ld rfl _ _ rfl _ _ rfl (by assumption) ?_)
      | (with_reducible refine wpList_lda rfl _ _ rfl _ _ rfl (by assumption) ?_)
      | (with_reducible refine wpList_stI rfl _ _ _ rfl _ _ rfl _ _ rfl (by assumption) ?_; intro w' hst)
      | (with_reducible refine wpList_stS rfl _ _ _ rfl _ _ rfl _ rfl (by assumption) ?_; intro w' hst)
      | (with_reducible refine wpList_stB rfl _ _ _ rfl _ _ rfl _ rfl (by assumption) ?_; intro w' hst)
      | (with_reducible refine wpList_stA rfl _ _ _ rfl _ _ rfl _ rfl (by assumption) ?_; intro w' hst)
      | (with_reducible refine wpList_box rfl _ _ rfl (by assumption) _ rfl ?_; intro bb w' hst)
      | (with_reducible refine wpList_new rfl _ rfl (by assumption) _ zero_ent ?_; intro bn w' hst)
      | (with_reducible refine wpList_new rfl _ rfl (by assumption) _ zero_run ?_; intro br w' hst))
    go_ret
    exact ⟨by rw [HF.out]; rfl, h1.end⟩
  have f4 : decide (8 ≤ e.stream) = false := by simp; omega
  have HT : Hid (checkB e = mayK e) := Lib.hid (by rw [HM.out, decide_eq_true ha, decide_eq_true hb]; simp [withinB, hd, hs])
  rw [HK.out] at HT
  clear ha hb hd hs HM HK
  by_cases hk2 : e.kind = 2
  case pos =>
    have HT : Hid (checkB e = (withinB e.n 1073741824 && (withinB e.len 300 && runB e.start e.count))) := by rw [if_pos hk2] at HT; exact HT
    have g2 : (e.kind == 2) = true := by simpa using hk2
    clear hk2
    generalize checkB e = res at *
    cases n1 : withinB e.n 1073741824
    · have HR : Hid (res = false) := Lib.hid (by rw [HT.out, n1]; rfl)
      clear HT
      go_enter Try.func15, Try.ntmps15
      go_wp2_with (first
      | (with_reducible refine wpList_neqE rfl _ _ _ rfl _ _ rfl rfl ?_)
      | (with_reducible refine wpList_eqlE rfl _ _ _ rfl _ _ rfl rfl ?_)
      | (with_reducible refine wpList_ld rfl _ _ rfl _ _ rfl (by assumption) ?_)
      | (with_reducible refine wpList_lda rfl _ _ rfl _ _ rfl (by assumption) ?_)
      | (with_reducible refine wpList_stI rfl _ _ _ rfl _ _ rfl _ _ rfl (by assumption) ?_; intro w' hst)
      | (with_reducible refine wpList_stS rfl _ _ _ rfl _ _ rfl _ rfl (by assumption) ?_; intro w' hst)
      | (with_reducible refine wpList_stB rfl _ _ _ rfl _ _ rfl _ rfl (by assumption) ?_; intro w' hst)
      | (with_reducible refine wpList_stA rfl _ _ _ rfl _ _ rfl _ rfl (by assumption) ?_; intro w' hst)
      | (with_reducible refine wpList_box rfl _ _ rfl (by assumption) _ rfl ?_; intro bb w' hst)
      | (with_reducible refine wpList_new rfl _ rfl (by assumption) _ zero_ent ?_; intro bn w' hst)
      | (with_reducible refine wpList_new rfl _ rfl (by assumption) _ zero_run ?_; intro br w' hst))
      have hq := hst.quiet
      refine wp_region_below_lit (by kernel_rfl) (by kernel_rfl) ?_
      repeat (first
        | (with_reducible refine wpQuiet_ld rfl _ _ rfl _ _ rfl hq ?_; simp only [Act.put, List.setIfInBounds_toArray, List.set_cons_succ, List.set_cons_zero])
        | (with_reducible refine wpQuiet_lda rfl _ _ rfl _ _ rfl hq ?_; simp only [Act.put, List.setIfInBounds_toArray, List.set_cons_succ, List.set_cons_zero])
        | (refine wpQuiet_neqE rfl _ _ _ rfl _ _ rfl rfl ?_; simp only [Act.put, List.setIfInBounds_toArray, List.set_cons_succ, List.set_cons_zero, HBQ.out, Bool.not_true, Bool.not_false])
        | go_big_quiet_step ((go_at_call 30; exact Calls.below_of (bare_calls _ _))))
      refine wpQuiet_nil ?_
      intro wq hwq
      have h1 := hq wq hwq
      clear hq hwq hst
      go_wp2_with (first
      | (with_reducible refine wpList_neqE rfl _ _ _ rfl _ _ rfl rfl ?_)
      | (with_reducible refine wpList_eqlE rfl _ _ _ rfl _ _ rfl rfl ?_)
      | (with_reducible refine wpList_ld rfl _ _ rfl _ _ rfl (by assumption) ?_)
      | (with_reducible refine wpList_lda rfl _ _ rfl _ _ rfl (by assumption) ?_)
      | (with_reducible refine wpList_stI rfl _ _ _ rfl _ _ rfl _ _ rfl (by assumption) ?_; intro w' hst)
      | (with_reducible refine wpList_stS rfl _ _ _ rfl _ _ rfl _ rfl (by assumption) ?_; intro w' hst)
      | (with_reducible refine wpList_stB rfl _ _ _ rfl _ _ rfl _ rfl (by assumption) ?_; intro w' hst)
      | (with_reducible refine wpList_stA rfl _ _ _ rfl _ _ rfl _ rfl (by assumption) ?_; intro w' hst)
      | (with_reducible refine wpList_box rfl _ _ rfl (by assumption) _ rfl ?_; intro bb w' hst)
      | (with_reducible refine wpList_new rfl _ rfl (by assumption) _ zero_ent ?_; intro bn w' hst)
      | (with_reducible refine wpList_new rfl _ rfl (by assumption) _ zero_run ?_; intro br w' hst))
      refine (time_calls _ _).mono ?_
      rintro r w2 ⟨rfl, rfl⟩
      rw [n1]
      go_wp2_with (first
      | (with_reducible refine wpList_neqE rfl _ _ _ rfl _ _ rfl rfl ?_)
      | (with_reducible refine wpList_eqlE rfl _ _ _ rfl _ _ rfl rfl ?_)
      | (with_reducible refine wpList_ld rfl _ _ rfl _ _ rfl (by assumption) ?_)
      | (with_reducible refine wpList_lda rfl _ _ rfl _ _ rfl (by assumption) ?_)
      | (with_reducible refine wpList_stI rfl _ _ _ rfl _ _ rfl _ _ rfl (by assumption) ?_; intro w' hst)
      | (with_reducible refine wpList_stS rfl _ _ _ rfl _ _ rfl _ rfl (by assumption) ?_; intro w' hst)
      | (with_reducible refine wpList_stB rfl _ _ _ rfl _ _ rfl _ rfl (by assumption) ?_; intro w' hst)
      | (with_reducible refine wpList_stA rfl _ _ _ rfl _ _ rfl _ rfl (by assumption) ?_; intro w' hst)
      | (with_reducible refine wpList_box rfl _ _ rfl (by assumption) _ rfl ?_; intro bb w' hst)
      | (with_reducible refine wpList_new rfl _ rfl (by assumption) _ zero_ent ?_; intro bn w' hst)
      | (with_reducible refine wpList_new rfl _ rfl (by assumption) _ zero_run ?_; intro br w' hst))
      go_ret
      exact ⟨by rw [HR.out]; rfl, h1.end⟩
    by_cases l0 : 0 ≤ e.len
    case neg =>
      have HR : Hid (res = false) := Lib.hid (by rw [HT.out]; simp [withinB, l0])
      have l1 : decide (0 ≤ e.len) = false := by simpa using l0
      clear HT l0
      go_enter Try.func15, Try.ntmps15
      go_wp2_with (first
      | (with_reducible refine wpList_neqE rfl _ _ _ rfl _ _ rfl rfl ?_)
      | (with_reducible refine wpList_eqlE rfl _ _ _ rfl _ _ rfl rfl ?_)
      | (with_reducible refine wpList_ld rfl _ _ rfl _ _ rfl (by assumption) ?_)
      | (with_reducible refine wpList_lda rfl _ _ rfl _ _ rfl (by assumption) ?_)
      | (with_reducible refine wpList_stI rfl _ _ _ rfl _ _ rfl _ _ rfl (by assumption) ?_; intro w' hst)
      | (with_reducible refine wpList_stS rfl _ _ _ rfl _ _ rfl _ rfl (by assumption) ?_; intro w' hst)
      | (with_reducible refine wpList_stB rfl _ _ _ rfl _ _ rfl _ rfl (by assumption) ?_; intro w' hst)
      | (with_reducible refine wpList_stA rfl _ _ _ rfl _ _ rfl _ rfl (by assumption) ?_; intro w' hst)
      | (with_reducible refine wpList_box rfl _ _ rfl (by assumption) _ rfl ?_; intro bb w' hst)
      | (with_reducible refine wpList_new rfl _ rfl (by assumption) _ zero_ent ?_; intro bn w' hst)
      | (with_reducible refine wpList_new rfl _ rfl (by assumption) _ zero_run ?_; intro br w' hst))
      have hq := hst.quiet
      refine wp_region_below_lit (by kernel_rfl) (by kernel_rfl) ?_
      repeat (first
        | (with_reducible refine wpQuiet_ld rfl _ _ rfl _ _ rfl hq ?_; simp only [Act.put, List.setIfInBounds_toArray, List.set_cons_succ, List.set_cons_zero])
        | (with_reducible refine wpQuiet_lda rfl _ _ rfl _ _ rfl hq ?_; simp only [Act.put, List.setIfInBounds_toArray, List.set_cons_succ, List.set_cons_zero])
        | (refine wpQuiet_neqE rfl _ _ _ rfl _ _ rfl rfl ?_; simp only [Act.put, List.setIfInBounds_toArray, List.set_cons_succ, List.set_cons_zero, HBQ.out, Bool.not_true, Bool.not_false])
        | go_big_quiet_step ((go_at_call 30; exact Calls.below_of (bare_calls _ _))))
      refine wpQuiet_nil ?_
      intro wq hwq
      have h1 := hq wq hwq
      clear hq hwq hst
      go_wp2_with (first
      | (with_reducible refine wpList_neqE rfl _ _ _ rfl _ _ rfl rfl ?_)
      | (with_reducible refine wpList_eqlE rfl _ _ _ rfl _ _ rfl rfl ?_)
      | (with_reducible refine wpList_ld rfl _ _ rfl _ _ rfl (by assumption) ?_)
      | (with_reducible refine wpList_lda rfl _ _ rfl _ _ rfl (by assumption) ?_)
      | (with_reducible refine wpList_stI rfl _ _ _ rfl _ _ rfl _ _ rfl (by assumption) ?_; intro w' hst)
      | (with_reducible refine wpList_stS rfl _ _ _ rfl _ _ rfl _ rfl (by assumption) ?_; intro w' hst)
      | (with_reducible refine wpList_stB rfl _ _ _ rfl _ _ rfl _ rfl (by assumption) ?_; intro w' hst)
      | (with_reducible refine wpList_stA rfl _ _ _ rfl _ _ rfl _ rfl (by assumption) ?_; intro w' hst)
      | (with_reducible refine wpList_box rfl _ _ rfl (by assumption) _ rfl ?_; intro bb w' hst)
      | (with_reducible refine wpList_new rfl _ rfl (by assumption) _ zero_ent ?_; intro bn w' hst)
      | (with_reducible refine wpList_new rfl _ rfl (by assumption) _ zero_run ?_; intro br w' hst))
      refine (time_calls _ _).mono ?_
      rintro r w2 ⟨rfl, rfl⟩
      rw [n1]
      go_wp2_with (first
      | (with_reducible refine wpList_neqE rfl _ _ _ rfl _ _ rfl rfl ?_)
      | (with_reducible refine wpList_eqlE rfl _ _ _ rfl _ _ rfl rfl ?_)
      | (with_reducible refine wpList_ld rfl _ _ rfl _ _ rfl (by assumption) ?_)
      | (with_reducible refine wpList_lda rfl _ _ rfl _ _ rfl (by assumption) ?_)
      | (with_reducible refine wpList_stI rfl _ _ _ rfl _ _ rfl _ _ rfl (by assumption) ?_; intro w' hst)
      | (with_reducible refine wpList_stS rfl _ _ _ rfl _ _ rfl _ rfl (by assumption) ?_; intro w' hst)
      | (with_reducible refine wpList_stB rfl _ _ _ rfl _ _ rfl _ rfl (by assumption) ?_; intro w' hst)
      | (with_reducible refine wpList_stA rfl _ _ _ rfl _ _ rfl _ rfl (by assumption) ?_; intro w' hst)
      | (with_reducible refine wpList_box rfl _ _ rfl (by assumption) _ rfl ?_; intro bb w' hst)
      | (with_reducible refine wpList_new rfl _ rfl (by assumption) _ zero_ent ?_; intro bn w' hst)
      | (with_reducible refine wpList_new rfl _ rfl (by assumption) _ zero_run ?_; intro br w' hst))
      go_ret
      exact ⟨by rw [HR.out]; rfl, h1.end⟩
    have l1 : decide (0 ≤ e.len) = true := by simpa using l0
    by_cases l2 : e.len ≤ 300
    case neg =>
      have HR : Hid (res = false) := Lib.hid (by rw [HT.out]; simp [withinB, l2])
      have l3 : decide (e.len ≤ 300) = false := by simpa using l2
      clear HT l0 l2
      go_enter Try.func15, Try.ntmps15
      go_wp2_with (first
      | (with_reducible refine wpList_neqE rfl _ _ _ rfl _ _ rfl rfl ?_)
      | (with_reducible refine wpList_eqlE rfl _ _ _ rfl _ _ rfl rfl ?_)
      | (with_reducible refine wpList_ld rfl _ _ rfl _ _ rfl (by assumption) ?_)
      | (with_reducible refine wpList_lda rfl _ _ rfl _ _ rfl (by assumption) ?_)
      | (with_reducible refine wpList_stI rfl _ _ _ rfl _ _ rfl _ _ rfl (by assumption) ?_; intro w' hst)
      | (with_reducible refine wpList_stS rfl _ _ _ rfl _ _ rfl _ rfl (by assumption) ?_; intro w' hst)
      | (with_reducible refine wpList_stB rfl _ _ _ rfl _ _ rfl _ rfl (by assumption) ?_; intro w' hst)
      | (with_reducible refine wpList_stA rfl _ _ _ rfl _ _ rfl _ rfl (by assumption) ?_; intro w' hst)
      | (with_reducible refine wpList_box rfl _ _ rfl (by assumption) _ rfl ?_; intro bb w' hst)
      | (with_reducible refine wpList_new rfl _ rfl (by assumption) _ zero_ent ?_; intro bn w' hst)
      | (with_reducible refine wpList_new rfl _ rfl (by assumption) _ zero_run ?_; intro br w' hst))
      have hq := hst.quiet
      refine wp_region_below_lit (by kernel_rfl) (by kernel_rfl) ?_
      repeat (first
        | (with_reducible refine wpQuiet_ld rfl _ _ rfl _ _ rfl hq ?_; simp only [Act.put, List.setIfInBounds_toArray, List.set_cons_succ, List.set_cons_zero])
        | (with_reducible refine wpQuiet_lda rfl _ _ rfl _ _ rfl hq ?_; simp only [Act.put, List.setIfInBounds_toArray, List.set_cons_succ, List.set_cons_zero])
        | (refine wpQuiet_neqE rfl _ _ _ rfl _ _ rfl rfl ?_; simp only [Act.put, List.setIfInBounds_toArray, List.set_cons_succ, List.set_cons_zero, HBQ.out, Bool.not_true, Bool.not_false])
        | go_big_quiet_step ((go_at_call 30; exact Calls.below_of (bare_calls _ _))))
      refine wpQuiet_nil ?_
      intro wq hwq
      have h1 := hq wq hwq
      clear hq hwq hst
      go_wp2_with (first
      | (with_reducible refine wpList_neqE rfl _ _ _ rfl _ _ rfl rfl ?_)
      | (with_reducible refine wpList_eqlE rfl _ _ _ rfl _ _ rfl rfl ?_)
      | (with_reducible refine wpList_ld rfl _ _ rfl _ _ rfl (by assumption) ?_)
      | (with_reducible refine wpList_lda rfl _ _ rfl _ _ rfl (by assumption) ?_)
      | (with_reducible refine wpList_stI rfl _ _ _ rfl _ _ rfl _ _ rfl (by assumption) ?_; intro w' hst)
      | (with_reducible refine wpList_stS rfl _ _ _ rfl _ _ rfl _ rfl (by assumption) ?_; intro w' hst)
      | (with_reducible refine wpList_stB rfl _ _ _ rfl _ _ rfl _ rfl (by assumption) ?_; intro w' hst)
      | (with_reducible refine wpList_stA rfl _ _ _ rfl _ _ rfl _ rfl (by assumption) ?_; intro w' hst)
      | (with_reducible refine wpList_box rfl _ _ rfl (by assumption) _ rfl ?_; intro bb w' hst)
      | (with_reducible refine wpList_new rfl _ rfl (by assumption) _ zero_ent ?_; intro bn w' hst)
      | (with_reducible refine wpList_new rfl _ rfl (by assumption) _ zero_run ?_; intro br w' hst))
      refine (time_calls _ _).mono ?_
      rintro r w2 ⟨rfl, rfl⟩
      rw [n1]
      go_wp2_with (first
      | (with_reducible refine wpList_neqE rfl _ _ _ rfl _ _ rfl rfl ?_)
      | (with_reducible refine wpList_eqlE rfl _ _ _ rfl _ _ rfl rfl ?_)
      | (with_reducible refine wpList_ld rfl _ _ rfl _ _ rfl (by assumption) ?_)
      | (with_reducible refine wpList_lda rfl _ _ rfl _ _ rfl (by assumption) ?_)
      | (with_reducible refine wpList_stI rfl _ _ _ rfl _ _ rfl _ _ rfl (by assumption) ?_; intro w' hst)
      | (with_reducible refine wpList_stS rfl _ _ _ rfl _ _ rfl _ rfl (by assumption) ?_; intro w' hst)
      | (with_reducible refine wpList_stB rfl _ _ _ rfl _ _ rfl _ rfl (by assumption) ?_; intro w' hst)
      | (with_reducible refine wpList_stA rfl _ _ _ rfl _ _ rfl _ rfl (by assumption) ?_; intro w' hst)
      | (with_reducible refine wpList_box rfl _ _ rfl (by assumption) _ rfl ?_; intro bb w' hst)
      | (with_reducible refine wpList_new rfl _ rfl (by assumption) _ zero_ent ?_; intro bn w' hst)
      | (with_reducible refine wpList_new rfl _ rfl (by assumption) _ zero_run ?_; intro br w' hst))
      go_ret
      exact ⟨by rw [HR.out]; rfl, h1.end⟩
    have l3 : decide (e.len ≤ 300) = true := by simpa using l2
    have HR : Hid (res = runB e.start e.count) := Lib.hid (by rw [HT.out, n1]; simp [withinB, l0, l2])
    clear HT l0 l2
    go_enter Try.func15, Try.ntmps15
    go_wp2_with (first
      | (with_reducible refine wpList_neqE rfl _ _ _ rfl _ _ rfl rfl ?_)
      | (with_reducible refine wpList_eqlE rfl _ _ _ rfl _ _ rfl rfl ?_)
      | (with_reducible refine wpList_ld rfl _ _ rfl _ _ rfl (by assumption) ?_)
      | (with_reducible refine wpList_lda rfl _ _ rfl _ _ rfl (by assumption) ?_)
      | (with_reducible refine wpList_stI rfl _ _ _ rfl _ _ rfl _ _ rfl (by assumption) ?_; intro w' hst)
      | (with_reducible refine wpList_stS rfl _ _ _ rfl _ _ rfl _ rfl (by assumption) ?_; intro w' hst)
      | (with_reducible refine wpList_stB rfl _ _ _ rfl _ _ rfl _ rfl (by assumption) ?_; intro w' hst)
      | (with_reducible refine wpList_stA rfl _ _ _ rfl _ _ rfl _ rfl (by assumption) ?_; intro w' hst)
      | (with_reducible refine wpList_box rfl _ _ rfl (by assumption) _ rfl ?_; intro bb w' hst)
      | (with_reducible refine wpList_new rfl _ rfl (by assumption) _ zero_ent ?_; intro bn w' hst)
      | (with_reducible refine wpList_new rfl _ rfl (by assumption) _ zero_run ?_; intro br w' hst))
    have hq := hst.quiet
    refine wp_region_below_lit (by kernel_rfl) (by kernel_rfl) ?_
    repeat (first
      | (with_reducible refine wpQuiet_ld rfl _ _ rfl _ _ rfl hq ?_; simp only [Act.put, List.setIfInBounds_toArray, List.set_cons_succ, List.set_cons_zero])
      | (with_reducible refine wpQuiet_lda rfl _ _ rfl _ _ rfl hq ?_; simp only [Act.put, List.setIfInBounds_toArray, List.set_cons_succ, List.set_cons_zero])
      | (refine wpQuiet_neqE rfl _ _ _ rfl _ _ rfl rfl ?_; simp only [Act.put, List.setIfInBounds_toArray, List.set_cons_succ, List.set_cons_zero, HBQ.out, Bool.not_true, Bool.not_false])
      | go_big_quiet_step ((go_at_call 30; exact Calls.below_of (bare_calls _ _))))
    refine wpQuiet_nil ?_
    intro wq hwq
    have h1 := hq wq hwq
    clear hq hwq hst
    go_wp2_with (first
      | (with_reducible refine wpList_neqE rfl _ _ _ rfl _ _ rfl rfl ?_)
      | (with_reducible refine wpList_eqlE rfl _ _ _ rfl _ _ rfl rfl ?_)
      | (with_reducible refine wpList_ld rfl _ _ rfl _ _ rfl (by assumption) ?_)
      | (with_reducible refine wpList_lda rfl _ _ rfl _ _ rfl (by assumption) ?_)
      | (with_reducible refine wpList_stI rfl _ _ _ rfl _ _ rfl _ _ rfl (by assumption) ?_; intro w' hst)
      | (with_reducible refine wpList_stS rfl _ _ _ rfl _ _ rfl _ rfl (by assumption) ?_; intro w' hst)
      | (with_reducible refine wpList_stB rfl _ _ _ rfl _ _ rfl _ rfl (by assumption) ?_; intro w' hst)
      | (with_reducible refine wpList_stA rfl _ _ _ rfl _ _ rfl _ rfl (by assumption) ?_; intro w' hst)
      | (with_reducible refine wpList_box rfl _ _ rfl (by assumption) _ rfl ?_; intro bb w' hst)
      | (with_reducible refine wpList_new rfl _ rfl (by assumption) _ zero_ent ?_; intro bn w' hst)
      | (with_reducible refine wpList_new rfl _ rfl (by assumption) _ zero_run ?_; intro br w' hst))
    refine (time_calls _ _).mono ?_
    rintro r w2 ⟨rfl, rfl⟩
    rw [n1]
    go_wp2_with (first
      | (with_reducible refine wpList_neqE rfl _ _ _ rfl _ _ rfl rfl ?_)
      | (with_reducible refine wpList_eqlE rfl _ _ _ rfl _ _ rfl rfl ?_)
      | (with_reducible refine wpList_ld rfl _ _ rfl _ _ rfl (by assumption) ?_)
      | (with_reducible refine wpList_lda rfl _ _ rfl _ _ rfl (by assumption) ?_)
      | (with_reducible refine wpList_stI rfl _ _ _ rfl _ _ rfl _ _ rfl (by assumption) ?_; intro w' hst)
      | (with_reducible refine wpList_stS rfl _ _ _ rfl _ _ rfl _ rfl (by assumption) ?_; intro w' hst)
      | (with_reducible refine wpList_stB rfl _ _ _ rfl _ _ rfl _ rfl (by assumption) ?_; intro w' hst)
      | (with_reducible refine wpList_stA rfl _ _ _ rfl _ _ rfl _ rfl (by assumption) ?_; intro w' hst)
      | (with_reducible refine wpList_box rfl _ _ rfl (by assumption) _ rfl ?_; intro bb w' hst)
      | (with_reducible refine wpList_new rfl _ rfl (by assumption) _ zero_ent ?_; intro bn w' hst)
      | (with_reducible refine wpList_new rfl _ rfl (by assumption) _ zero_run ?_; intro br w' hst))
    refine (run_calls _ _ _).mono ?_
    rintro r w3 ⟨rfl, hb3⟩
    have h3 := h1.below hb3
    clear hb3 h1
    go_wp2_with (first
      | (with_reducible refine wpList_neqE rfl _ _ _ rfl _ _ rfl rfl ?_)
      | (with_reducible refine wpList_eqlE rfl _ _ _ rfl _ _ rfl rfl ?_)
      | (with_reducible refine wpList_ld rfl _ _ rfl _ _ rfl (by assumption) ?_)
      | (with_reducible refine wpList_lda rfl _ _ rfl _ _ rfl (by assumption) ?_)
      | (with_reducible refine wpList_stI rfl _ _ _ rfl _ _ rfl _ _ rfl (by assumption) ?_; intro w' hst)
      | (with_reducible refine wpList_stS rfl _ _ _ rfl _ _ rfl _ rfl (by assumption) ?_; intro w' hst)
      | (with_reducible refine wpList_stB rfl _ _ _ rfl _ _ rfl _ rfl (by assumption) ?_; intro w' hst)
      | (with_reducible refine wpList_stA rfl _ _ _ rfl _ _ rfl _ rfl (by assumption) ?_; intro w' hst)
      | (with_reducible refine wpList_box rfl _ _ rfl (by assumption) _ rfl ?_; intro bb w' hst)
      | (with_reducible refine wpList_new rfl _ rfl (by assumption) _ zero_ent ?_; intro bn w' hst)
      | (with_reducible refine wpList_new rfl _ rfl (by assumption) _ zero_run ?_; intro br w' hst))
    go_ret
    exact ⟨by rw [HR.out]; rfl, h3.end⟩
  rw [if_neg hk2] at HT
  by_cases hk3 : e.kind = 3
  case pos =>
    rw [if_pos hk3] at HT
    have g2 : (e.kind == 2) = false := by simpa using hk2
    have g3 : (e.kind == 3) = true := by simpa using hk3
    clear hk2 hk3
    generalize checkB e = res at *
    go_enter Try.func15, Try.ntmps15
    go_wp2_with (first
      | (with_reducible refine wpList_neqE rfl _ _ _ rfl _ _ rfl rfl ?_)
      | (with_reducible refine wpList_eqlE rfl _ _ _ rfl _ _ rfl rfl ?_)
      | (with_reducible refine wpList_ld rfl _ _ rfl _ _ rfl (by assumption) ?_)
      | (with_reducible refine wpList_lda rfl _ _ rfl _ _ rfl (by assumption) ?_)
      | (with_reducible refine wpList_stI rfl _ _ _ rfl _ _ rfl _ _ rfl (by assumption) ?_; intro w' hst)
      | (with_reducible refine wpList_stS rfl _ _ _ rfl _ _ rfl _ rfl (by assumption) ?_; intro w' hst)
      | (with_reducible refine wpList_stB rfl _ _ _ rfl _ _ rfl _ rfl (by assumption) ?_; intro w' hst)
      | (with_reducible refine wpList_stA rfl _ _ _ rfl _ _ rfl _ rfl (by assumption) ?_; intro w' hst)
      | (with_reducible refine wpList_box rfl _ _ rfl (by assumption) _ rfl ?_; intro bb w' hst)
      | (with_reducible refine wpList_new rfl _ rfl (by assumption) _ zero_ent ?_; intro bn w' hst)
      | (with_reducible refine wpList_new rfl _ rfl (by assumption) _ zero_run ?_; intro br w' hst))
    have hq := hst.quiet
    refine wp_region_below_lit (by kernel_rfl) (by kernel_rfl) ?_
    repeat (first
      | (with_reducible refine wpQuiet_ld rfl _ _ rfl _ _ rfl hq ?_; simp only [Act.put, List.setIfInBounds_toArray, List.set_cons_succ, List.set_cons_zero])
      | (with_reducible refine wpQuiet_lda rfl _ _ rfl _ _ rfl hq ?_; simp only [Act.put, List.setIfInBounds_toArray, List.set_cons_succ, List.set_cons_zero])
      | (refine wpQuiet_neqE rfl _ _ _ rfl _ _ rfl rfl ?_; simp only [Act.put, List.setIfInBounds_toArray, List.set_cons_succ, List.set_cons_zero, HBQ.out, Bool.not_true, Bool.not_false])
      | go_big_quiet_step ((go_at_call 30; exact Calls.below_of (bare_calls _ _))))
    refine wpQuiet_nil ?_
    intro wq hwq
    have h1 := hq wq hwq
    clear hq hwq hst
    go_wp2_with (first
      | (with_reducible refine wpList_neqE rfl _ _ _ rfl _ _ rfl rfl ?_)
      | (with_reducible refine wpList_eqlE rfl _ _ _ rfl _ _ rfl rfl ?_)
      | (with_reducible refine wpList_ld rfl _ _ rfl _ _ rfl (by assumption) ?_)
      | (with_reducible refine wpList_lda rfl _ _ rfl _ _ rfl (by assumption) ?_)
      | (with_reducible refine wpList_stI rfl _ _ _ rfl _ _ rfl _ _ rfl (by assumption) ?_; intro w' hst)
      | (with_reducible refine wpList_stS rfl _ _ _ rfl _ _ rfl _ rfl (by assumption) ?_; intro w' hst)
      | (with_reducible refine wpList_stB rfl _ _ _ rfl _ _ rfl _ rfl (by assumption) ?_; intro w' hst)
      | (with_reducible refine wpList_stA rfl _ _ _ rfl _ _ rfl _ rfl (by assumption) ?_; intro w' hst)
      | (with_reducible refine wpList_box rfl _ _ rfl (by assumption) _ rfl ?_; intro bb w' hst)
      | (with_reducible refine wpList_new rfl _ rfl (by assumption) _ zero_ent ?_; intro bn w' hst)
      | (with_reducible refine wpList_new rfl _ rfl (by assumption) _ zero_run ?_; intro br w' hst))
    refine (time_calls _ _).mono ?_
    rintro r w2 ⟨rfl, rfl⟩
    go_wp2_with (first
      | (with_reducible refine wpList_neqE rfl _ _ _ rfl _ _ rfl rfl ?_)
      | (with_reducible refine wpList_eqlE rfl _ _ _ rfl _ _ rfl rfl ?_)
      | (with_reducible refine wpList_ld rfl _ _ rfl _ _ rfl (by assumption) ?_)
      | (with_reducible refine wpList_lda rfl _ _ rfl _ _ rfl (by assumption) ?_)
      | (with_reducible refine wpList_stI rfl _ _ _ rfl _ _ rfl _ _ rfl (by assumption) ?_; intro w' hst)
      | (with_reducible refine wpList_stS rfl _ _ _ rfl _ _ rfl _ rfl (by assumption) ?_; intro w' hst)
      | (with_reducible refine wpList_stB rfl _ _ _ rfl _ _ rfl _ rfl (by assumption) ?_; intro w' hst)
      | (with_reducible refine wpList_stA rfl _ _ _ rfl _ _ rfl _ rfl (by assumption) ?_; intro w' hst)
      | (with_reducible refine wpList_box rfl _ _ rfl (by assumption) _ rfl ?_; intro bb w' hst)
      | (with_reducible refine wpList_new rfl _ rfl (by assumption) _ zero_ent ?_; intro bn w' hst)
      | (with_reducible refine wpList_new rfl _ rfl (by assumption) _ zero_run ?_; intro br w' hst))
    go_ret
    exact ⟨by rw [HT.out]; rfl, h1.end⟩
  rw [if_neg hk3] at HT
  by_cases hk6 : e.kind = 6
  case pos =>
    rw [if_pos hk6] at HT
    have g2 : (e.kind == 2) = false := by simpa using hk2
    have g3 : (e.kind == 3) = false := by simpa using hk3
    have g6 : (e.kind == 6) = true := by simpa using hk6
    clear hk2 hk3 hk6
    generalize checkB e = res at *
    by_cases l0 : 0 ≤ e.n
    case neg =>
      have HR : Hid (res = false) := Lib.hid (by rw [HT.out]; simp [withinB, l0])
      have l1 : decide (0 ≤ e.n) = false := by simpa using l0
      clear HT l0
      go_enter Try.func15, Try.ntmps15
      go_wp2_with (first
      | (with_reducible refine wpList_neqE rfl _ _ _ rfl _ _ rfl rfl ?_)
      | (with_reducible refine wpList_eqlE rfl _ _ _ rfl _ _ rfl rfl ?_)
      | (with_reducible refine wpList_ld rfl _ _ rfl _ _ rfl (by assumption) ?_)
      | (with_reducible refine wpList_lda rfl _ _ rfl _ _ rfl (by assumption) ?_)
      | (with_reducible refine wpList_stI rfl _ _ _ rfl _ _ rfl _ _ rfl (by assumption) ?_; intro w' hst)
      | (with_reducible refine wpList_stS rfl _ _ _ rfl _ _ rfl _ rfl (by assumption) ?_; intro w' hst)
      | (with_reducible refine wpList_stB rfl _ _ _ rfl _ _ rfl _ rfl (by assumption) ?_; intro w' hst)
      | (with_reducible refine wpList_stA rfl _ _ _ rfl _ _ rfl _ rfl (by assumption) ?_; intro w' hst)
      | (with_reducible refine wpList_box rfl _ _ rfl (by assumption) _ rfl ?_; intro bb w' hst)
      | (with_reducible refine wpList_new rfl _ rfl (by assumption) _ zero_ent ?_; intro bn w' hst)
      | (with_reducible refine wpList_new rfl _ rfl (by assumption) _ zero_run ?_; intro br w' hst))
      have hq := hst.quiet
      refine wp_region_below_lit (by kernel_rfl) (by kernel_rfl) ?_
      repeat (first
        | (with_reducible refine wpQuiet_ld rfl _ _ rfl _ _ rfl hq ?_; simp only [Act.put, List.setIfInBounds_toArray, List.set_cons_succ, List.set_cons_zero])
        | (with_reducible refine wpQuiet_lda rfl _ _ rfl _ _ rfl hq ?_; simp only [Act.put, List.setIfInBounds_toArray, List.set_cons_succ, List.set_cons_zero])
        | (refine wpQuiet_neqE rfl _ _ _ rfl _ _ rfl rfl ?_; simp only [Act.put, List.setIfInBounds_toArray, List.set_cons_succ, List.set_cons_zero, HBQ.out, Bool.not_true, Bool.not_false])
        | go_big_quiet_step ((go_at_call 30; exact Calls.below_of (bare_calls _ _))))
      refine wpQuiet_nil ?_
      intro wq hwq
      have h1 := hq wq hwq
      clear hq hwq hst
      go_wp2_with (first
      | (with_reducible refine wpList_neqE rfl _ _ _ rfl _ _ rfl rfl ?_)
      | (with_reducible refine wpList_eqlE rfl _ _ _ rfl _ _ rfl rfl ?_)
      | (with_reducible refine wpList_ld rfl _ _ rfl _ _ rfl (by assumption) ?_)
      | (with_reducible refine wpList_lda rfl _ _ rfl _ _ rfl (by assumption) ?_)
      | (with_reducible refine wpList_stI rfl _ _ _ rfl _ _ rfl _ _ rfl (by assumption) ?_; intro w' hst)
      | (with_reducible refine wpList_stS rfl _ _ _ rfl _ _ rfl _ rfl (by assumption) ?_; intro w' hst)
      | (with_reducible refine wpList_stB rfl _ _ _ rfl _ _ rfl _ rfl (by assumption) ?_; intro w' hst)
      | (with_reducible refine wpList_stA rfl _ _ _ rfl _ _ rfl _ rfl (by assumption) ?_; intro w' hst)
      | (with_reducible refine wpList_box rfl _ _ rfl (by assumption) _ rfl ?_; intro bb w' hst)
      | (with_reducible refine wpList_new rfl _ rfl (by assumption) _ zero_ent ?_; intro bn w' hst)
      | (with_reducible refine wpList_new rfl _ rfl (by assumption) _ zero_run ?_; intro br w' hst))
      go_ret
      exact ⟨by rw [HR.out]; rfl, h1.end⟩
    have l1 : decide (0 ≤ e.n) = true := by simpa using l0
    have HR : Hid (res = decide (e.n < 64)) := Lib.hid (by rw [HT.out]; simp [withinB, l0]; omega)
    clear HT l0
    go_enter Try.func15, Try.ntmps15
    go_wp2_with (first
      | (with_reducible refine wpList_neqE rfl _ _ _ rfl _ _ rfl rfl ?_)
      | (with_reducible refine wpList_eqlE rfl _ _ _ rfl _ _ rfl rfl ?_)
      | (with_reducible refine wpList_ld rfl _ _ rfl _ _ rfl (by assumption) ?_)
      | (with_reducible refine wpList_lda rfl _ _ rfl _ _ rfl (by assumption) ?_)
      | (with_reducible refine wpList_stI rfl _ _ _ rfl _ _ rfl _ _ rfl (by assumption) ?_; intro w' hst)
      | (with_reducible refine wpList_stS rfl _ _ _ rfl _ _ rfl _ rfl (by assumption) ?_; intro w' hst)
      | (with_reducible refine wpList_stB rfl _ _ _ rfl _ _ rfl _ rfl (by assumption) ?_; intro w' hst)
      | (with_reducible refine wpList_stA rfl _ _ _ rfl _ _ rfl _ rfl (by assumption) ?_; intro w' hst)
      | (with_reducible refine wpList_box rfl _ _ rfl (by assumption) _ rfl ?_; intro bb w' hst)
      | (with_reducible refine wpList_new rfl _ rfl (by assumption) _ zero_ent ?_; intro bn w' hst)
      | (with_reducible refine wpList_new rfl _ rfl (by assumption) _ zero_run ?_; intro br w' hst))
    have hq := hst.quiet
    refine wp_region_below_lit (by kernel_rfl) (by kernel_rfl) ?_
    repeat (first
      | (with_reducible refine wpQuiet_ld rfl _ _ rfl _ _ rfl hq ?_; simp only [Act.put, List.setIfInBounds_toArray, List.set_cons_succ, List.set_cons_zero])
      | (with_reducible refine wpQuiet_lda rfl _ _ rfl _ _ rfl hq ?_; simp only [Act.put, List.setIfInBounds_toArray, List.set_cons_succ, List.set_cons_zero])
      | (refine wpQuiet_neqE rfl _ _ _ rfl _ _ rfl rfl ?_; simp only [Act.put, List.setIfInBounds_toArray, List.set_cons_succ, List.set_cons_zero, HBQ.out, Bool.not_true, Bool.not_false])
      | go_big_quiet_step ((go_at_call 30; exact Calls.below_of (bare_calls _ _))))
    refine wpQuiet_nil ?_
    intro wq hwq
    have h1 := hq wq hwq
    clear hq hwq hst
    go_wp2_with (first
      | (with_reducible refine wpList_neqE rfl _ _ _ rfl _ _ rfl rfl ?_)
      | (with_reducible refine wpList_eqlE rfl _ _ _ rfl _ _ rfl rfl ?_)
      | (with_reducible refine wpList_ld rfl _ _ rfl _ _ rfl (by assumption) ?_)
      | (with_reducible refine wpList_lda rfl _ _ rfl _ _ rfl (by assumption) ?_)
      | (with_reducible refine wpList_stI rfl _ _ _ rfl _ _ rfl _ _ rfl (by assumption) ?_; intro w' hst)
      | (with_reducible refine wpList_stS rfl _ _ _ rfl _ _ rfl _ rfl (by assumption) ?_; intro w' hst)
      | (with_reducible refine wpList_stB rfl _ _ _ rfl _ _ rfl _ rfl (by assumption) ?_; intro w' hst)
      | (with_reducible refine wpList_stA rfl _ _ _ rfl _ _ rfl _ rfl (by assumption) ?_; intro w' hst)
      | (with_reducible refine wpList_box rfl _ _ rfl (by assumption) _ rfl ?_; intro bb w' hst)
      | (with_reducible refine wpList_new rfl _ rfl (by assumption) _ zero_ent ?_; intro bn w' hst)
      | (with_reducible refine wpList_new rfl _ rfl (by assumption) _ zero_run ?_; intro br w' hst))
    go_ret
    exact ⟨by rw [HR.out]; rfl, h1.end⟩
  rw [if_neg hk6] at HT
  have g2 : (e.kind == 2) = false := by simpa using hk2
  have g3 : (e.kind == 3) = false := by simpa using hk3
  have g6 : (e.kind == 6) = false := by simpa using hk6
  clear hk2 hk3 hk6
  generalize checkB e = res at *
  go_enter Try.func15, Try.ntmps15
  go_wp2_with (first
      | (with_reducible refine wpList_neqE rfl _ _ _ rfl _ _ rfl rfl ?_)
      | (with_reducible refine wpList_eqlE rfl _ _ _ rfl _ _ rfl rfl ?_)
      | (with_reducible refine wpList_ld rfl _ _ rfl _ _ rfl (by assumption) ?_)
      | (with_reducible refine wpList_lda rfl _ _ rfl _ _ rfl (by assumption) ?_)
      | (with_reducible refine wpList_stI rfl _ _ _ rfl _ _ rfl _ _ rfl (by assumption) ?_; intro w' hst)
      | (with_reducible refine wpList_stS rfl _ _ _ rfl _ _ rfl _ rfl (by assumption) ?_; intro w' hst)
      | (with_reducible refine wpList_stB rfl _ _ _ rfl _ _ rfl _ rfl (by assumption) ?_; intro w' hst)
      | (with_reducible refine wpList_stA rfl _ _ _ rfl _ _ rfl _ rfl (by assumption) ?_; intro w' hst)
      | (with_reducible refine wpList_box rfl _ _ rfl (by assumption) _ rfl ?_; intro bb w' hst)
      | (with_reducible refine wpList_new rfl _ rfl (by assumption) _ zero_ent ?_; intro bn w' hst)
      | (with_reducible refine wpList_new rfl _ rfl (by assumption) _ zero_run ?_; intro br w' hst))
  have hq := hst.quiet
  refine wp_region_below_lit (by kernel_rfl) (by kernel_rfl) ?_
  repeat (first
    | (with_reducible refine wpQuiet_ld rfl _ _ rfl _ _ rfl hq ?_; simp only [Act.put, List.setIfInBounds_toArray, List.set_cons_succ, List.set_cons_zero])
    | (with_reducible refine wpQuiet_lda rfl _ _ rfl _ _ rfl hq ?_; simp only [Act.put, List.setIfInBounds_toArray, List.set_cons_succ, List.set_cons_zero])
    | (refine wpQuiet_neqE rfl _ _ _ rfl _ _ rfl rfl ?_; simp only [Act.put, List.setIfInBounds_toArray, List.set_cons_succ, List.set_cons_zero, HBQ.out, Bool.not_true, Bool.not_false])
    | go_big_quiet_step ((go_at_call 30; exact Calls.below_of (bare_calls _ _))))
  refine wpQuiet_nil ?_
  intro wq hwq
  have h1 := hq wq hwq
  clear hq hwq hst
  go_wp2_with (first
      | (with_reducible refine wpList_neqE rfl _ _ _ rfl _ _ rfl rfl ?_)
      | (with_reducible refine wpList_eqlE rfl _ _ _ rfl _ _ rfl rfl ?_)
      | (with_reducible refine wpList_ld rfl _ _ rfl _ _ rfl (by assumption) ?_)
      | (with_reducible refine wpList_lda rfl _ _ rfl _ _ rfl (by assumption) ?_)
      | (with_reducible refine wpList_stI rfl _ _ _ rfl _ _ rfl _ _ rfl (by assumption) ?_; intro w' hst)
      | (with_reducible refine wpList_stS rfl _ _ _ rfl _ _ rfl _ rfl (by assumption) ?_; intro w' hst)
      | (with_reducible refine wpList_stB rfl _ _ _ rfl _ _ rfl _ rfl (by assumption) ?_; intro w' hst)
      | (with_reducible refine wpList_stA rfl _ _ _ rfl _ _ rfl _ rfl (by assumption) ?_; intro w' hst)
      | (with_reducible refine wpList_box rfl _ _ rfl (by assumption) _ rfl ?_; intro bb w' hst)
      | (with_reducible refine wpList_new rfl _ rfl (by assumption) _ zero_ent ?_; intro bn w' hst)
      | (with_reducible refine wpList_new rfl _ rfl (by assumption) _ zero_run ?_; intro br w' hst))
  refine (check13_calls _ (by have := HW.out.name; unfold maxLen; omega) _).mono ?_
  rintro r w2 ⟨rfl, rfl⟩
  have HE := Lib.hid (errOf_eq0 (nameOk e.name))
  go_wp2_with (first
      | (with_reducible refine wpList_neqE rfl _ _ _ rfl _ _ rfl rfl ?_)
      | (with_reducible refine wpList_eqlE rfl _ _ _ rfl _ _ rfl rfl ?_)
      | (with_reducible refine wpList_ld rfl _ _ rfl _ _ rfl (by assumption) ?_)
      | (with_reducible refine wpList_lda rfl _ _ rfl _ _ rfl (by assumption) ?_)
      | (with_reducible refine wpList_stI rfl _ _ _ rfl _ _ rfl _ _ rfl (by assumption) ?_; intro w' hst)
      | (with_reducible refine wpList_stS rfl _ _ _ rfl _ _ rfl _ rfl (by assumption) ?_; intro w' hst)
      | (with_reducible refine wpList_stB rfl _ _ _ rfl _ _ rfl _ rfl (by assumption) ?_; intro w' hst)
      | (with_reducible refine wpList_stA rfl _ _ _ rfl _ _ rfl _ rfl (by assumption) ?_; intro w' hst)
      | (with_reducible refine wpList_box rfl _ _ rfl (by assumption) _ rfl ?_; intro bb w' hst)
      | (with_reducible refine wpList_new rfl _ rfl (by assumption) _ zero_ent ?_; intro bn w' hst)
      | (with_reducible refine wpList_new rfl _ rfl (by assumption) _ zero_run ?_; intro br w' hst))
  go_ret
  exact ⟨by rw [HT.out]; show Ending.returned (Value.bool (errOf (nameOk e.name) 130 == 0)) = _; rw [HE.out], h1.end⟩
end Go.Proofs.Ytgjgjhikimnknaa
