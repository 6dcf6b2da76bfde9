/- The contracts of the reference's Time, Check (13), Run, bare, PutHash. -/
import Derived.Test.YtgjgjhikimnknaaRowAct
set_option linter.unusedVariables false
set_option linter.unusedSimpArgs false
namespace Go.Proofs.Ytgjgjhikimnknaa
open Go.RowKit

set_option maxHeartbeats 1000000 in
theorem time_calls (n : Int) (w : World) :
    Calls Try.prog 31 #[.int .i64 n] w fun e w' => e = .returned (.bool (withinB n 1073741824)) ∧ w = w' := by
  unfold withinB
  by_cases h1 : 0 ≤ n
  · have f1 : decide (0 ≤ n) = true := by simpa using h1
    rw [f1]
    cases h2 : decide (n ≤ 1073741824)
    · clear h1
      go_enter Try.func31, Try.ntmps31
      go_wp2
      go_ret
      exact ⟨rfl, rfl⟩
    · clear h1
      go_enter Try.func31, Try.ntmps31
      go_wp2
      go_ret
      exact ⟨rfl, rfl⟩
  · have f1 : decide (0 ≤ n) = false := by simpa using h1
    rw [f1, Bool.false_and]
    clear h1
    go_enter Try.func31, Try.ntmps31
    go_wp2
    go_ret
    exact ⟨rfl, rfl⟩

theorem all_okR (s : ByteArray) (k : Nat) (h : ∀ j (hj : j < s.size), j < k → okR (s[j].toNat : Int) = true) (hk : s.size ≤ k) : ((ls s).all fun c => okR (c.toNat : Int)) = true := by
  rw [List.all_eq_true]
  intro c hc
  obtain ⟨j, hj, rfl⟩ := List.mem_iff_getElem.1 hc
  have hj' : j < s.size := by rw [← ls_length]; exact hj
  have := h j hj' (by omega)
  have e : (ls s)[j] = s[j] := by simp [ls]; rfl
  exact (congrArg (fun c : UInt8 => okR (c.toNat : Int) = true) e).mpr this
theorem not_all_okR (s : ByteArray) (k : Nat) (hk : k < s.size) (h : okR (s[k].toNat : Int) = false) : ((ls s).all fun c => okR (c.toNat : Int)) = false := by
  rw [List.all_eq_false]
  have hk' : k < (ls s).length := by rw [ls_length]; exact hk
  have e : (ls s)[k] = s[k] := by simp [ls]; rfl
  exact ⟨(ls s)[k], List.getElem_mem _, by have h2 := (congrArg (fun c : UInt8 => okR (c.toNat : Int) = false) e).mpr h; exact fun h3 => absurd (h2.symm.trans h3) (by decide)⟩

set_option maxHeartbeats 4000000 in
set_option maxRecDepth 100000 in
theorem check13_calls (s : ByteArray) (hs : s.size ≤ maxLen) (w : World) :
    Calls Try.prog 33 #[.string s] w fun e w' => e = .returned (.int .i64 (errOf (nameOk s) 130)) ∧ w = w' := by
  unfold maxLen at hs
  have HC : Hid (nameOk s = (decide (1 ≤ s.size) && (decide (s.size ≤ 12) && (!((ls s).headD 0 == 46) && (ls s).all fun c => okR (c.toNat : Int))))) := Lib.hid rfl
  by_cases h1 : s.size < 1
  · have HR : Hid (nameOk s = false) := Lib.hid (by rw [HC.out, decide_eq_false (show ¬ 1 ≤ s.size by omega)]; rfl)
    have f1 : decide ((s.size : Int) < 1) = true := by simp; omega
    clear HC h1
    generalize nameOk s = res at *
    go_enter Try.func33, Try.ntmps33
    go_wp2_with fail
    go_ret
    exact ⟨by rw [HR.out]; rfl, rfl⟩
  have f1 : decide ((s.size : Int) < 1) = false := by simp; omega
  by_cases h2 : 12 < s.size
  · have HR : Hid (nameOk s = false) := Lib.hid (by rw [HC.out, decide_eq_false (show ¬ s.size ≤ 12 by omega)]; simp)
    have f2 : decide ((12 : Int) < (s.size : Int)) = true := by simp; omega
    clear HC h1 h2
    generalize nameOk s = res at *
    go_enter Try.func33, Try.ntmps33
    go_wp2_with fail
    go_ret
    exact ⟨by rw [HR.out]; rfl, rfl⟩
  have f2 : decide ((12 : Int) < (s.size : Int)) = false := by simp; omega
  have h0 : 0 < s.size := by omega
  have hd := head_at s h0
  by_cases h3 : (s[0].toNat : Int) = 46
  · have h46 : s[0] = 46 := by apply UInt8.toNat_inj.1; show s[0].toNat = 46; omega
    have HR : Hid (nameOk s = false) := Lib.hid (by rw [HC.out, hd, h46]; simp)
    clear HC hd h46
    generalize nameOk s = res at *
    have f3 : ((s[0].toNat : Int) == 46) = true := by simpa using h3
    go_enter Try.func33, Try.ntmps33
    go_wp2_with fail
    go_ret
    exact ⟨by rw [HR.out]; rfl, rfl⟩
  have HN : Hid (nameOk s = (ls s).all fun c => okR (c.toNat : Int)) := Lib.hid (by
    have h46 : (s[0] == 46) = false := by
      rw [beq_eq_false_iff_ne]
      intro h
      rw [h] at h3
      exact h3 rfl
    rw [HC.out, hd, h46, decide_eq_true (show 1 ≤ s.size by omega), decide_eq_true (show s.size ≤ 12 by omega)]
    rfl)
  have f3 : ((s[0].toNat : Int) == 46) = false := by simpa using h3
  clear HC hd h3
  have HNO := Lib.hid (not_all_okR s)
  have HYES := Lib.hid (all_okR s)
  go_enter Try.func33, Try.ntmps33
  go_wp2_with fail
  go_loop [3] (fun iv => ∃ k : Nat, k ≤ s.size ∧ iv = .int .i64 k ∧ Hid (∀ j (hj : j < s.size), j < k → okR (s[j].toNat : Int) = true)) (fun i => s.size - (intOf i).toNat)
  case atStart => exact ⟨0, by omega, rfl, fun j _ h => by omega⟩
  case round =>
    obtain ⟨k, hk, rfl, hok⟩ := hrel
    by_cases hlt : k < s.size
    · have HS : Hid (okR (s[k].toNat : Int) = true → ∀ j (hj : j < s.size), j < k + 1 → okR (s[j].toNat : Int) = true) := Lib.hid (fun h j hj hj2 => by
        by_cases h4 : j = k
        · subst h4; exact h
        · exact hok.out j hj (by omega))
      have HF : Hid (okR (s[k].toNat : Int) = false → nameOk s = false) := Lib.hid (fun h => by rw [HN.out]; exact HNO.out k hlt h)
      clear hok
      have hkI : (0 : Int) ≤ (s[k].toNat : Int) := by omega
      generalize hr : (s[k].toNat : Int) = r at *
      rcases okR_cases r with ⟨q1, q2, h⟩ | ⟨q1, q2, h⟩ | ⟨q1, q2, q3, h⟩ | ⟨q1, q2, h⟩ | ⟨rfl, h⟩ | ⟨rfl, h⟩ | ⟨q1, q2, q3, h⟩
      · have a1 : decide (97 ≤ r) = true := by simpa using q1
        have a2 : decide (r ≤ 122) = true := by simpa using q2
        have HS' := Lib.hid (HS.out h)
        clear h HS HF q1 q2
        go_wp2_with fail
        go_round
        case rel => exact ⟨k + 1, by omega, by go_num, HS'.out⟩
        case measure => simp [intOf]; omega
      · have a1 : decide (97 ≤ r) = true := by simpa using q1
        have a2 : decide (r ≤ 122) = false := by simpa using q2
        have a3 : decide (48 ≤ r) = true := by simp; omega
        have a4 : decide (r ≤ 57) = false := by simp; omega
        have a5 : (r == 45) = false := by simp; omega
        have a6 : (r == 46) = false := by simp; omega
        have HR := Lib.hid (HF.out h)
        clear h HS HF q1 q2
        go_wp2_with fail
        go_ret
        exact ⟨by rw [HR.out]; rfl, rfl⟩
      · have a1 : decide (97 ≤ r) = false := by simpa using q1
        have a3 : decide (48 ≤ r) = true := by simp; omega
        have a4 : decide (r ≤ 57) = true := by simp; omega
        have HS' := Lib.hid (HS.out h)
        clear h HS HF q1 q2
        go_wp2_with fail
        go_round
        case rel => exact ⟨k + 1, by omega, by go_num, HS'.out⟩
        case measure => simp [intOf]; omega
      · have a1 : decide (97 ≤ r) = false := by simpa using q1
        have a3 : decide (48 ≤ r) = true := by simp; omega
        have a4 : decide (r ≤ 57) = false := by simp; omega
        have a5 : (r == 45) = false := by simp; omega
        have a6 : (r == 46) = false := by simp; omega
        have HR := Lib.hid (HF.out h)
        clear h HS HF q1 q2
        go_wp2_with fail
        go_ret
        exact ⟨by rw [HR.out]; rfl, rfl⟩
      · have HS' := Lib.hid (HS.out h)
        clear h HS HF
        go_wp2_with fail
        go_round
        case rel => exact ⟨k + 1, by omega, by go_num, HS'.out⟩
        case measure => simp [intOf]; omega
      · have HS' := Lib.hid (HS.out h)
        clear h HS HF
        go_wp2_with fail
        go_round
        case rel => exact ⟨k + 1, by omega, by go_num, HS'.out⟩
        case measure => simp [intOf]; omega
      · have a1 : decide (97 ≤ r) = false := by simp; omega
        have a3 : decide (48 ≤ r) = false := by simp; omega
        have a5 : (r == 45) = false := by simpa using q2
        have a6 : (r == 46) = false := by simpa using q3
        have HR := Lib.hid (HF.out h)
        clear h HS HF q1 q2 q3
        go_wp2_with fail
        go_ret
        exact ⟨by rw [HR.out]; rfl, rfl⟩
    · have HR : Hid (nameOk s = true) := Lib.hid (by rw [HN.out]; exact HYES.out k hok.out (by omega))
      clear hok
      go_wp2_with fail
      go_ret
      exact ⟨by rw [HR.out]; rfl, rfl⟩

def runB (st c : Int) : Bool := withinB st 512 && (decide (0 < c) && withinB c (512 - st))
instance (st c : Int) : CellAt #[.int .i64 st, .int .i64 c] 0 (.int .i64 st) := ⟨rfl⟩
set_option maxHeartbeats 4000000 in
set_option maxRecDepth 100000 in
theorem run_calls (st c : Int) (w : World) :
    Calls Try.prog 32 #[.agg #[.int .i64 st, .int .i64 c]] w fun e w' => e = .returned (.bool (runB st c)) ∧ Below w.heap.size w w' := by
  have HC : Hid (runB st c = (withinB st 512 && (decide (0 < c) && withinB c (512 - st)))) := Lib.hid rfl
  have hst := St.start w
  by_cases h1 : 0 ≤ st
  case neg =>
    have HR : Hid (runB st c = false) := Lib.hid (by rw [HC.out]; simp [withinB, h1])
    have f1 : decide (0 ≤ st) = false := by simpa using h1
    clear h1 HC
    generalize runB st c = res at *
    go_enter Try.func32, Try.ntmps32
    go_wp2_with (first
      | (with_reducible refine wpList_neqE rfl _ _ _ rfl _ _ rfl rfl ?_)
      | (with_reducible refine wpList_eqlE rfl _ _ _ rfl _ _ rfl rfl ?_)
      | (with_reducible refine wpList_ld rfl _ _ rfl _ _ rfl (by assumption) ?_)
      | (with_reducible refine wpList_lda rfl _ _ rfl _ _ rfl (by assumption) ?_)
      | (with_reducible refine wpList_stI rfl _ _ _ rfl _ _ rfl _ _ rfl (by assumption) ?_; intro w' hst)
      | (with_reducible refine wpList_stS rfl _ _ _ rfl _ _ rfl _ rfl (by assumption) ?_; intro w' hst)
      | (with_reducible refine wpList_stB rfl _ _ _ rfl _ _ rfl _ rfl (by assumption) ?_; intro w' hst)
      | (with_reducible refine wpList_stA rfl _ _ _ rfl _ _ rfl _ rfl (by assumption) ?_; intro w' hst)
      | (with_reducible refine wpList_box rfl _ _ rfl (by assumption) _ rfl ?_; intro bb w' hst)
      | (with_reducible refine wpList_new rfl _ rfl (by assumption) _ zero_ent ?_; intro bn w' hst)
      | (with_reducible refine wpList_new rfl _ rfl (by assumption) _ zero_run ?_; intro br w' hst))
    go_ret
    exact ⟨by rw [HR.out]; rfl, hst.end⟩
  have f1 : decide (0 ≤ st) = true := by simpa using h1
  by_cases h2 : st ≤ 512
  case neg =>
    have HR : Hid (runB st c = false) := Lib.hid (by rw [HC.out]; simp [withinB, h2])
    have f2 : decide (st ≤ 512) = false := by simpa using h2
    clear h1 h2 HC
    generalize runB st c = res at *
    go_enter Try.func32, Try.ntmps32
    go_wp2_with (first
      | (with_reducible refine wpList_neqE rfl _ _ _ rfl _ _ rfl rfl ?_)
      | (with_reducible refine wpList_eqlE rfl _ _ _ rfl _ _ rfl rfl ?_)
      | (with_reducible refine wpList_ld rfl _ _ rfl _ _ rfl (by assumption) ?_)
      | (with_reducible refine wpList_lda rfl _ _ rfl _ _ rfl (by assumption) ?_)
      | (with_reducible refine wpList_stI rfl _ _ _ rfl _ _ rfl _ _ rfl (by assumption) ?_; intro w' hst)
      | (with_reducible refine wpList_stS rfl _ _ _ rfl _ _ rfl _ rfl (by assumption) ?_; intro w' hst)
      | (with_reducible refine wpList_stB rfl _ _ _ rfl _ _ rfl _ rfl (by assumption) ?_; intro w' hst)
      | (with_reducible refine wpList_stA rfl _ _ _ rfl _ _ rfl _ rfl (by assumption) ?_; intro w' hst)
      | (with_reducible refine wpList_box rfl _ _ rfl (by assumption) _ rfl ?_; intro bb w' hst)
      | (with_reducible refine wpList_new rfl _ rfl (by assumption) _ zero_ent ?_; intro bn w' hst)
      | (with_reducible refine wpList_new rfl _ rfl (by assumption) _ zero_run ?_; intro br w' hst))
    go_ret
    exact ⟨by rw [HR.out]; rfl, hst.end⟩
  have f2 : decide (st ≤ 512) = true := by simpa using h2
  by_cases h3 : 1 ≤ c
  case neg =>
    have HR : Hid (runB st c = false) := Lib.hid (by rw [HC.out, decide_eq_false (show ¬ 0 < c by omega)]; simp)
    have f3 : decide (1 ≤ c) = false := by simpa using h3
    clear h3 HC
    generalize runB st c = res at *
    go_enter Try.func32, Try.ntmps32
    go_wp2_with (first
      | (with_reducible refine wpList_neqE rfl _ _ _ rfl _ _ rfl rfl ?_)
      | (with_reducible refine wpList_eqlE rfl _ _ _ rfl _ _ rfl rfl ?_)
      | (with_reducible refine wpList_ld rfl _ _ rfl _ _ rfl (by assumption) ?_)
      | (with_reducible refine wpList_lda rfl _ _ rfl _ _ rfl (by assumption) ?_)
      | (with_reducible refine wpList_stI rfl _ _ _ rfl _ _ rfl _ _ rfl (by assumption) ?_; intro w' hst)
      | (with_reducible refine wpList_stS rfl _ _ _ rfl _ _ rfl _ rfl (by assumption) ?_; intro w' hst)
      | (with_reducible refine wpList_stB rfl _ _ _ rfl _ _ rfl _ rfl (by assumption) ?_; intro w' hst)
      | (with_reducible refine wpList_stA rfl _ _ _ rfl _ _ rfl _ rfl (by assumption) ?_; intro w' hst)
      | (with_reducible refine wpList_box rfl _ _ rfl (by assumption) _ rfl ?_; intro bb w' hst)
      | (with_reducible refine wpList_new rfl _ rfl (by assumption) _ zero_ent ?_; intro bn w' hst)
      | (with_reducible refine wpList_new rfl _ rfl (by assumption) _ zero_run ?_; intro br w' hst))
    go_ret
    exact ⟨by rw [HR.out]; rfl, hst.end⟩
  have f3 : decide (1 ≤ c) = true := by simpa using h3
  have hwrap : IntKind.i64.wrap (512 - st) = 512 - st := IntWalk.i64_in _ (by omega)
  have HR : Hid (runB st c = decide (c ≤ 512 - st)) := Lib.hid (by
    rw [HC.out, decide_eq_true (show 0 < c by omega)]
    simp [withinB, h1, h2, show 0 ≤ c by omega])
  clear h1 h2 h3 HC
  generalize runB st c = res at *
  cases h4 : decide (c ≤ 512 - st)
  · go_enter Try.func32, Try.ntmps32
    go_wp2_with (first
      | (with_reducible refine wpList_neqE rfl _ _ _ rfl _ _ rfl rfl ?_)
      | (with_reducible refine wpList_eqlE rfl _ _ _ rfl _ _ rfl rfl ?_)
      | (with_reducible refine wpList_ld rfl _ _ rfl _ _ rfl (by assumption) ?_)
      | (with_reducible refine wpList_lda rfl _ _ rfl _ _ rfl (by assumption) ?_)
      | (with_reducible refine wpList_stI rfl _ _ _ rfl _ _ rfl _ _ rfl (by assumption) ?_; intro w' hst)
      | (with_reducible refine wpList_stS rfl _ _ _ rfl _ _ rfl _ rfl (by assumption) ?_; intro w' hst)
      | (with_reducible refine wpList_stB rfl _ _ _ rfl _ _ rfl _ rfl (by assumption) ?_; intro w' hst)
      | (with_reducible refine wpList_stA rfl _ _ _ rfl _ _ rfl _ rfl (by assumption) ?_; intro w' hst)
      | (with_reducible refine wpList_box rfl _ _ rfl (by assumption) _ rfl ?_; intro bb w' hst)
      | (with_reducible refine wpList_new rfl _ rfl (by assumption) _ zero_ent ?_; intro bn w' hst)
      | (with_reducible refine wpList_new rfl _ rfl (by assumption) _ zero_run ?_; intro br w' hst))
    go_ret
    exact ⟨by rw [HR.out, h4]; rfl, hst.end⟩
  · go_enter Try.func32, Try.ntmps32
    go_wp2_with (first
      | (with_reducible refine wpList_neqE rfl _ _ _ rfl _ _ rfl rfl ?_)
      | (with_reducible refine wpList_eqlE rfl _ _ _ rfl _ _ rfl rfl ?_)
      | (with_reducible refine wpList_ld rfl _ _ rfl _ _ rfl (by assumption) ?_)
      | (with_reducible refine wpList_lda rfl _ _ rfl _ _ rfl (by assumption) ?_)
      | (with_reducible refine wpList_stI rfl _ _ _ rfl _ _ rfl _ _ rfl (by assumption) ?_; intro w' hst)
      | (with_reducible refine wpList_stS rfl _ _ _ rfl _ _ rfl _ rfl (by assumption) ?_; intro w' hst)
      | (with_reducible refine wpList_stB rfl _ _ _ rfl _ _ rfl _ rfl (by assumption) ?_; intro w' hst)
      | (with_reducible refine wpList_stA rfl _ _ _ rfl _ _ rfl _ rfl (by assumption) ?_; intro w' hst)
      | (with_reducible refine wpList_box rfl _ _ rfl (by assumption) _ rfl ?_; intro bb w' hst)
      | (with_reducible refine wpList_new rfl _ rfl (by assumption) _ zero_ent ?_; intro bn w' hst)
      | (with_reducible refine wpList_new rfl _ rfl (by assumption) _ zero_run ?_; intro br w' hst))
    go_ret
    exact ⟨by rw [HR.out, h4]; rfl, hst.end⟩
end Go.Proofs.Ytgjgjhikimnknaa
