/- The walk of EntriesBare: the law returns true. -/
import Derived.Test.YtgjgjhikimnknaaRowAct
import Derived.Test.YtgjgjhikimnknaaDoes15
import Derived.OpenShut
set_option linter.unusedVariables false
set_option linter.unusedSimpArgs false
namespace Go.Proofs.Ytgjgjhikimnknaa
open Go.RowKit

theorem check_name {e : Ent} (h : checkB e = true) (h1 : e.kind ≠ 1) (h4 : e.kind ≠ 4) (h5 : e.kind ≠ 5) : e.name = noS := by
  have h2 := entEq_ent0 (check_parts h).2.2
  have hk := check_kind h
  obtain ⟨k, s, n, l, nm, hs, st, c⟩ := e
  rcases kind_cases k with rfl | rfl | rfl | rfl | rfl | rfl | ⟨a, b, c, d, e', f⟩
  all_goals first | exact h2.2.2.2.2.1 | exact absurd rfl h1 | exact absurd rfl h4 | exact absurd rfl h5 | (exfalso; simp only at hk; omega)
theorem check_rec {e : Ent} (h : checkB e = true) (h1 : e.kind ≠ 2) : h32 e.hash = zeros 32 ∧ e.count = 0 := by
  have h2 := entEq_ent0 (check_parts h).2.2
  have hk := check_kind h
  obtain ⟨k, s, n, l, nm, hs, st, c⟩ := e
  rcases kind_cases k with rfl | rfl | rfl | rfl | rfl | rfl | ⟨a, b, c, d, e', f⟩
  all_goals first | exact ⟨h2.2.2.2.2.2.1, h2.2.2.2.2.2.2.2⟩ | exact absurd rfl h1 | (exfalso; simp only at hk; omega)
theorem check_n {e : Ent} (h : checkB e = true) (h1 : e.kind = 1 ∨ e.kind = 4 ∨ e.kind = 5) : e.n = 0 := by
  have h2 := entEq_ent0 (check_parts h).2.2
  obtain ⟨k, s, n, l, nm, hs, st, c⟩ := e
  rcases h1 with rfl | rfl | rfl
  all_goals exact h2.2.2.1
/-- An entry turned: it is another one, and may not be. -/
structure Odd (e f : Ent) : Prop where
  same : entEq f e = false
  check : checkB f = false
theorem odd_name {e : Ent} (he : e.hash.length = 32) (h : checkB e = true) (h1 : e.kind ≠ 1) (h4 : e.kind ≠ 4) (h5 : e.kind ≠ 5) : Odd e { e with name := nmA } := by
  have hn := check_name h h1 h4 h5
  constructor
  · rw [← Bool.not_eq_true, entEq_iff (e := { e with name := nmA }) (f := e) he he]
    intro hq
    have := congrArg Ent.name hq
    rw [hn] at this
    exact absurd (show nmA.size = noS.size from congrArg ByteArray.size this) (by decide)
  · rw [← Bool.not_eq_true]
    intro hq
    have := check_name hq h1 h4 h5
    exact absurd (show nmA.size = noS.size from congrArg ByteArray.size this) (by decide)
theorem odd_count {e : Ent} (he : e.hash.length = 32) (h : checkB e = true) (h1 : e.kind ≠ 2) : Odd e { e with count := 1 } := by
  have hn := (check_rec h h1).2
  constructor
  · rw [← Bool.not_eq_true, entEq_iff (e := { e with count := 1 }) (f := e) he he]
    intro hq
    have := congrArg Ent.count hq
    rw [hn] at this
    exact absurd (show (1 : Int) = 0 from this) (by decide)
  · rw [← Bool.not_eq_true]
    intro hq
    exact absurd (show (1 : Int) = 0 from (check_rec hq h1).2) (by decide)
theorem odd_n {e : Ent} (he : e.hash.length = 32) (h : checkB e = true) (h1 : e.kind = 1 ∨ e.kind = 4 ∨ e.kind = 5) : Odd e { e with n := 1 } := by
  have hn := check_n h h1
  constructor
  · rw [← Bool.not_eq_true, entEq_iff (e := { e with n := 1 }) (f := e) he he]
    intro hq
    have := congrArg Ent.n hq
    rw [hn] at this
    exact absurd (show (1 : Int) = 0 from this) (by decide)
  · rw [← Bool.not_eq_true]
    intro hq
    exact absurd (show (1 : Int) = 0 from check_n hq h1) (by decide)
theorem odd_hash {e : Ent} (he : e.hash.length = 32) (h : checkB e = true) (h1 : e.kind ≠ 2) (j : Nat) (hj : j < 32) : Odd e { e with hash := e.hash.set j 1 } := by
  have hn := (check_rec h h1).1
  have hl : (e.hash.set j 1).length = 32 := by simp [he]
  have hne : e.hash.set j 1 ≠ zeros 32 := by
    intro hq
    have h3 := congrArg (fun l => l[j]?) hq
    simp only [List.getElem?_set_self (show j < e.hash.length by omega), zeros, List.getElem?_replicate, if_pos hj] at h3
    exact absurd (Option.some.inj h3) (by decide)
  rw [h32_of _ he] at hn
  constructor
  · rw [← Bool.not_eq_true, entEq_iff (e := { e with hash := e.hash.set j 1 }) (f := e) hl he]
    intro hq
    have := congrArg Ent.hash hq
    rw [hn] at this
    exact hne (by rw [hn]; exact this)
  · rw [← Bool.not_eq_true]
    intro hq
    have := (check_rec hq h1).1
    rw [h32_of _ hl] at this
    exact hne this
theorem hashL_set (h : List UInt8) (j : Nat) (hj : j < 32) (hl : h.length = 32) : hashL (h.set j 1) = (hashL h).set j (.int .u8 1) := by
  rw [hashL_eq _ (by simp [hl]), hashL_eq _ hl]
  unfold u8s
  rw [List.map_set]
  rfl
theorem wrHash (e : Ent) (he : e.hash.length = 32) (j : Nat) (hj : j < 32) : WrAt (entC e) (5 + j) 1 (.int .u8 1) (entC { e with hash := e.hash.set j 1 }) := by
  refine wr_one _ _ _ _ rfl rfl (by show 5 + j + 1 ≤ 39; omega) ?_
  apply Array.ext'
  simp only [entC, entL, hashL_set _ j hj he, List.setIfInBounds_toArray, List.toList_toArray]
  rw [show 5 + j = j + 1 + 1 + 1 + 1 + 1 from by omega]
  simp only [List.set_cons_succ]
  rw [List.set_append, if_pos (by rw [show (hashL e.hash).length = 32 from rfl]; exact hj)]
instance (e : Ent) (x : Int) : WrAt (entC e) 38 1 (.int .i64 x) (entC { e with count := x }) := wr_one _ _ _ _ rfl rfl (Nat.le_of_ble_eq_true rfl) rfl
instance : OneT 5 := ⟨fun w => by kernel_rfl, by kernel_rfl⟩
theorem bare_enc {l : List Ent} {e f : Ent} {k : Nat} (hk : k < l.length) (h : Odd e f) : encF (l.set k f) = ([], 2) := by
  unfold encF
  have : (l.set k f).all checkB = false := by
    rw [List.all_eq_false]
    exact ⟨f, List.mem_iff_getElem.2 ⟨k, by simpa using hk, by simp⟩, by simp [h.check]⟩
  rw [this]
  rfl
section
variable {ops : Array Oper} {rest : List Oper} {o : Oper} {a : Act} {C : World → Prop} {Q : Act → Prop}
theorem wpQuiet_eqlE (hw : Region.wanted o (yielded ops a.tmps) = true) (x y : Operand) (r : TypeId) (ho : o.op = .binOp .eql 27 x y r) (xs ys : Array Value) (hx : a.eval x = .agg xs) (hy : a.eval y = .agg ys) {e f : Ent} [h1 : IsEnt xs e] [h2 : IsEnt ys f]
    (hk : wpQuiet Try.prog ops C Q rest (a.put o.dst (.bool (entEq e f)))) : wpQuiet Try.prog ops C Q (o :: rest) a :=
  BigFrame.wpQuiet_want hw fun K hK => ⟨.bool (entEq e f), fun w hC => by
    unfold Oper.quietAt execOp
    simp only [ho, hx, hy, Sem.run_bind, guard_ent, Result.andThen_ok, h1.eq, h2.eq, eql_ent]
    exact ⟨rfl, rfl⟩, hK _ hk⟩
end

set_option maxHeartbeats 8000000 in
set_option maxRecDepth 100000 in
theorem entriesBare_walk (v : Value) (l : List Ent) (which field : Int) (hw1 : (Lit.int .u8 which).wf = true) (hw2 : (Lit.int .u8 field).wf = true) (w : World) (hr : EntRow w v l) :
    Calls Try.prog 11 #[v, .int .u8 which, .int .u8 field] w fun e w' => e = .returned (.bool true) ∧ Below w.heap.size w w' := by
  have HR := Lib.hid hr
  obtain ⟨a, cap, rfl, hwf, hml, _⟩ := hr
  have HW := Lib.hid hwf
  clear hwf
  unfold maxLen at hml
  obtain ⟨c0, c1⟩ := bounds_u8 hw1
  obtain ⟨d0, d1⟩ := bounds_u8 hw2
  obtain ⟨c, rfl⟩ := Int.eq_ofNat_of_zero_le c0
  obtain ⟨d, rfl⟩ := Int.eq_ofNat_of_zero_le d0
  clear hw1 hw2
  by_cases hbig : 20 < l.length ∨ l.length = 0
  · have f1 : (decide ((20 : Int) < (l.length : Int)) = true) ∨ (decide ((20 : Int) < (l.length : Int)) = false ∧ ((l.length : Int) == 0) = true) := by
      rcases hbig with h | h
      · left; simp; omega
      · right; simp [h]
    clear hbig
    rcases f1 with f1 | ⟨f1, f2⟩
    all_goals
      go_enter Try.func11, Try.ntmps11
      go_wp2_with fail
      refine (does_calls _).mono ?_
      rintro e w7 ⟨rfl, hb7⟩
      go_wp2_with fail
      go_ret
      exact ⟨rfl, hb7⟩
  have f1 : decide ((20 : Int) < (l.length : Int)) = false := by simp; omega
  have f2 : ((l.length : Int) == 0) = false := by rw [beq_eq_false_iff_ne]; omega
  have hl0 : 0 < l.length := by omega
  have hkl : c % l.length < l.length := Nat.mod_lt _ hl0
  have g3 : 0 ≤ (c : Int) % (l.length : Int) := Int.emod_nonneg _ (by omega)
  have g4 : (c : Int) % (l.length : Int) < (l.length : Int) := Int.emod_lt_of_pos _ (by omega)
  go_enter Try.func11, Try.ntmps11
  go_wp2_with (first
    | (refine wpList_bs0 rfl rfl w.heap.size (Nat.le_refl _) ?_
       intro v3 w3 hown3 hb3 hz3
       have hown3 : w3.ownsRow w.heap.size 27 39 v3 ([] : List Ent).length (([] : List Ent).flatMap entL) := hown3)
    | (refine wpList_appE rfl (.tmp 22) (.tmp 23) rfl w.heap.size _ _ [] l rfl rfl hown3 (HR.out.old hb3) (by rw [List.length_nil]; omega) hz3 ?_
       intro v4 w4 hown4 hg4
       have h4 := hb3.grown hg4 hb3.size (fun g hg => own_ge hown3 g hg)
       rw [List.nil_append] at hown4
       clear hown3 hg4 hb3 hz3
       obtain ⟨g, cap4, rfl⟩ := own_some hown4 hl0
       obtain ⟨rest, hst, hn4, _, hm4⟩ := St.ofOwn h4 hown4
       clear hown4
       have wI := partEnts l rest (c % l.length) hkl)
    | (first
      | (with_reducible refine wpList_neqE rfl _ _ _ rfl _ _ rfl rfl ?_)
      | (with_reducible refine wpList_eqlE rfl _ _ _ rfl _ _ rfl rfl ?_)
      | (with_reducible refine wpList_ld rfl _ _ rfl _ _ rfl (by assumption) ?_)
      | (with_reducible refine wpList_lda rfl _ _ rfl _ _ rfl (by assumption) ?_)
      | (with_reducible refine wpList_stI rfl _ _ _ rfl _ _ rfl _ _ rfl (by assumption) ?_; intro w' hst)
      | (with_reducible refine wpList_stS rfl _ _ _ rfl _ _ rfl _ rfl (by assumption) ?_; intro w' hst)
      | (with_reducible refine wpList_stB rfl _ _ _ rfl _ _ rfl _ rfl (by assumption) ?_; intro w' hst)
      | (with_reducible refine wpList_stA rfl _ _ _ rfl _ _ rfl _ rfl (by assumption) ?_; intro w' hst)
      | (with_reducible refine wpList_box rfl _ _ rfl (by assumption) _ rfl ?_; intro bb w' hst)
      | (with_reducible refine wpList_new rfl _ rfl (by assumption) _ zero_ent ?_; intro bn w' hst)
      | (with_reducible refine wpList_new rfl _ rfl (by assumption) _ zero_run ?_; intro br w' hst)))
  have HW0 := Lib.hid (HW.out l[c % l.length] (List.getElem_mem hkl))
  generalize l[c % l.length] = e0 at *
  refine (check_calls e0 HW0.out _).mono ?_
  rintro r w5 ⟨rfl, hb5⟩
  have h5 := hst.below hb5
  clear hb5 hst
  cases hc : checkB e0
  · have h6 := h5.end
    clear hc h5
    unfold errOf
    go_wp2_with fail
    refine (does_calls _).mono ?_
    rintro e w7 ⟨rfl, hb7⟩
    have h7 := belw h6 hb7
    clear h6 hb7
    go_wp2_with fail
    go_ret
    exact ⟨rfl, h7⟩
  have HC := Lib.hid hc
  clear hc
  unfold errOf
  rcases (by omega : d % 4 = 0 ∨ d % 4 = 1 ∨ d % 4 = 2 ∨ d % 4 = 3) with hd4 | hd4 | hd4 | hd4
  · have hf : (d : Int) % 4 = 0 := by omega
    clear hd4
    by_cases hk1 : e0.kind = 1
    · have q0 : (e0.kind != 1) = false := by simpa using hk1
      clear hk1
      go_wp2_with (first
      | (with_reducible refine wpList_neqE rfl _ _ _ rfl _ _ rfl rfl ?_)
      | (with_reducible refine wpList_eqlE rfl _ _ _ rfl _ _ rfl rfl ?_)
      | (with_reducible refine wpList_ld rfl _ _ rfl _ _ rfl (by assumption) ?_)
      | (with_reducible refine wpList_lda rfl _ _ rfl _ _ rfl (by assumption) ?_)
      | (with_reducible refine wpList_stI rfl _ _ _ rfl _ _ rfl _ _ rfl (by assumption) ?_; intro w' hst)
      | (with_reducible refine wpList_stS rfl _ _ _ rfl _ _ rfl _ rfl (by assumption) ?_; intro w' hst)
      | (with_reducible refine wpList_stB rfl _ _ _ rfl _ _ rfl _ rfl (by assumption) ?_; intro w' hst)
      | (with_reducible refine wpList_stA rfl _ _ _ rfl _ _ rfl _ rfl (by assumption) ?_; intro w' hst)
      | (with_reducible refine wpList_box rfl _ _ rfl (by assumption) _ rfl ?_; intro bb w' hst)
      | (with_reducible refine wpList_new rfl _ rfl (by assumption) _ zero_ent ?_; intro bn w' hst)
      | (with_reducible refine wpList_new rfl _ rfl (by assumption) _ zero_run ?_; intro br w' hst))
      obtain ⟨E1, hE1⟩ : ∃ E : Ent, E = e0 := ⟨_, rfl⟩
      have hst : St [] w w5 [(bn, entC E1, 27), (g, (l.flatMap entL ++ rest).toArray, 27)] := by rw [hE1]; exact h5
      have HS : Hid (entEq E1 e0 = true) := Lib.hid (by rw [hE1]; exact (entEq_iff HW0.out.hash HW0.out.hash).2 rfl)
      have HK : Hid (checkB E1 = true) := Lib.hid (by rw [hE1]; exact HC.out)
      have HWE : Hid E1.Wf := by rw [hE1]; exact HW0
      clear hE1
      have HWL : Hid (∀ e ∈ l.set (c % l.length) E1, e.Wf) := Lib.hid (fun e he => by
        rcases List.mem_or_eq_of_mem_set he with h | h
        · exact HW.out e h
        · rw [h]; exact HWE.out)
      go_wp2_with (first
      | (with_reducible refine wpList_neqE rfl _ _ _ rfl _ _ rfl rfl ?_)
      | (with_reducible refine wpList_eqlE rfl _ _ _ rfl _ _ rfl rfl ?_)
      | (with_reducible refine wpList_ld rfl _ _ rfl _ _ rfl (by assumption) ?_)
      | (with_reducible refine wpList_lda rfl _ _ rfl _ _ rfl (by assumption) ?_)
      | (with_reducible refine wpList_stI rfl _ _ _ rfl _ _ rfl _ _ rfl (by assumption) ?_; intro w' hst)
      | (with_reducible refine wpList_stS rfl _ _ _ rfl _ _ rfl _ rfl (by assumption) ?_; intro w' hst)
      | (with_reducible refine wpList_stB rfl _ _ _ rfl _ _ rfl _ rfl (by assumption) ?_; intro w' hst)
      | (with_reducible refine wpList_stA rfl _ _ _ rfl _ _ rfl _ rfl (by assumption) ?_; intro w' hst)
      | (with_reducible refine wpList_box rfl _ _ rfl (by assumption) _ rfl ?_; intro bb w' hst)
      | (with_reducible refine wpList_new rfl _ rfl (by assumption) _ zero_ent ?_; intro bn w' hst)
      | (with_reducible refine wpList_new rfl _ rfl (by assumption) _ zero_run ?_; intro br w' hst))
      have hq := hst.quiet
      refine wp_region_below_lit (by kernel_rfl) (by kernel_rfl) ?_
      repeat (first
        | (with_reducible refine wpQuiet_lda rfl _ _ rfl _ _ rfl hq ?_; simp only [Act.put, List.setIfInBounds_toArray, List.set_cons_succ, List.set_cons_zero])
        | (refine wpQuiet_eqlE rfl _ _ _ rfl _ _ rfl rfl ?_; simp only [Act.put, List.setIfInBounds_toArray, List.set_cons_succ, List.set_cons_zero])
        | go_big_quiet_step (fail))
      refine wpQuiet_nil ?_
      intro w21 hw21
      have h21 := hq w21 hw21
      clear hq hw21 hst
      rw [HS.out]
      have wI2 := wrEnts l rest (c % l.length) hkl E1
      go_wp2_with (first
      | (with_reducible refine wpList_neqE rfl _ _ _ rfl _ _ rfl rfl ?_)
      | (with_reducible refine wpList_eqlE rfl _ _ _ rfl _ _ rfl rfl ?_)
      | (with_reducible refine wpList_ld rfl _ _ rfl _ _ rfl (by assumption) ?_)
      | (with_reducible refine wpList_lda rfl _ _ rfl _ _ rfl (by assumption) ?_)
      | (with_reducible refine wpList_stI rfl _ _ _ rfl _ _ rfl _ _ rfl (by assumption) ?_; intro w' hst)
      | (with_reducible refine wpList_stS rfl _ _ _ rfl _ _ rfl _ rfl (by assumption) ?_; intro w' hst)
      | (with_reducible refine wpList_stB rfl _ _ _ rfl _ _ rfl _ rfl (by assumption) ?_; intro w' hst)
      | (with_reducible refine wpList_stA rfl _ _ _ rfl _ _ rfl _ rfl (by assumption) ?_; intro w' hst)
      | (with_reducible refine wpList_box rfl _ _ rfl (by assumption) _ rfl ?_; intro bb w' hst)
      | (with_reducible refine wpList_new rfl _ rfl (by assumption) _ zero_ent ?_; intro bn w' hst)
      | (with_reducible refine wpList_new rfl _ rfl (by assumption) _ zero_run ?_; intro br w' hst))
      have hrow := entRow_pre (n := l.length) (cap := cap4) (l := l.set (c % l.length) E1) (rest := rest) (hst.has (g := g)) (by simp) HWL.out (by simp; unfold maxLen; omega)
      refine (encode_calls _ _ _ hrow (by simp; omega)).mono ?_
      rintro e w23 ⟨rfl, hb23⟩
      have h23 := hst.below hb23
      clear hb23 hrow hst h21
      rcases encF (l.set (c % l.length) E1) with ⟨t, e⟩
      dsimp only
      go_wp2_with (first
      | (with_reducible refine wpList_neqE rfl _ _ _ rfl _ _ rfl rfl ?_)
      | (with_reducible refine wpList_eqlE rfl _ _ _ rfl _ _ rfl rfl ?_)
      | (with_reducible refine wpList_ld rfl _ _ rfl _ _ rfl (by assumption) ?_)
      | (with_reducible refine wpList_lda rfl _ _ rfl _ _ rfl (by assumption) ?_)
      | (with_reducible refine wpList_stI rfl _ _ _ rfl _ _ rfl _ _ rfl (by assumption) ?_; intro w' hst)
      | (with_reducible refine wpList_stS rfl _ _ _ rfl _ _ rfl _ rfl (by assumption) ?_; intro w' hst)
      | (with_reducible refine wpList_stB rfl _ _ _ rfl _ _ rfl _ rfl (by assumption) ?_; intro w' hst)
      | (with_reducible refine wpList_stA rfl _ _ _ rfl _ _ rfl _ rfl (by assumption) ?_; intro w' hst)
      | (with_reducible refine wpList_box rfl _ _ rfl (by assumption) _ rfl ?_; intro bb w' hst)
      | (with_reducible refine wpList_new rfl _ rfl (by assumption) _ zero_ent ?_; intro bn w' hst)
      | (with_reducible refine wpList_new rfl _ rfl (by assumption) _ zero_run ?_; intro br w' hst))
      refine (check_calls E1 HWE.out _).mono ?_
      rintro e w24 ⟨rfl, hb24⟩
      rw [HK.out]
      have h24 := (h23.below hb24).end
      clear hb24 h23
      unfold errOf
      go_wp2_with fail
      refine (does_calls _).mono ?_
      rintro e w25 ⟨rfl, hb25⟩
      have h25 := belw h24 hb25
      clear h24 hb25
      go_wp2_with fail
      go_ret
      exact ⟨rfl, h25⟩
    by_cases hk4 : e0.kind = 4
    · have q0 : (e0.kind != 1) = true := by simpa using hk1
      have q1 : (e0.kind != 4) = false := by simpa using hk4
      clear hk1
      clear hk4
      go_wp2_with (first
      | (with_reducible refine wpList_neqE rfl _ _ _ rfl _ _ rfl rfl ?_)
      | (with_reducible refine wpList_eqlE rfl _ _ _ rfl _ _ rfl rfl ?_)
      | (with_reducible refine wpList_ld rfl _ _ rfl _ _ rfl (by assumption) ?_)
      | (with_reducible refine wpList_lda rfl _ _ rfl _ _ rfl (by assumption) ?_)
      | (with_reducible refine wpList_stI rfl _ _ _ rfl _ _ rfl _ _ rfl (by assumption) ?_; intro w' hst)
      | (with_reducible refine wpList_stS rfl _ _ _ rfl _ _ rfl _ rfl (by assumption) ?_; intro w' hst)
      | (with_reducible refine wpList_stB rfl _ _ _ rfl _ _ rfl _ rfl (by assumption) ?_; intro w' hst)
      | (with_reducible refine wpList_stA rfl _ _ _ rfl _ _ rfl _ rfl (by assumption) ?_; intro w' hst)
      | (with_reducible refine wpList_box rfl _ _ rfl (by assumption) _ rfl ?_; intro bb w' hst)
      | (with_reducible refine wpList_new rfl _ rfl (by assumption) _ zero_ent ?_; intro bn w' hst)
      | (with_reducible refine wpList_new rfl _ rfl (by assumption) _ zero_run ?_; intro br w' hst))
      obtain ⟨E1, hE1⟩ : ∃ E : Ent, E = e0 := ⟨_, rfl⟩
      have hst : St [] w w5 [(bn, entC E1, 27), (g, (l.flatMap entL ++ rest).toArray, 27)] := by rw [hE1]; exact h5
      have HS : Hid (entEq E1 e0 = true) := Lib.hid (by rw [hE1]; exact (entEq_iff HW0.out.hash HW0.out.hash).2 rfl)
      have HK : Hid (checkB E1 = true) := Lib.hid (by rw [hE1]; exact HC.out)
      have HWE : Hid E1.Wf := by rw [hE1]; exact HW0
      clear hE1
      have HWL : Hid (∀ e ∈ l.set (c % l.length) E1, e.Wf) := Lib.hid (fun e he => by
        rcases List.mem_or_eq_of_mem_set he with h | h
        · exact HW.out e h
        · rw [h]; exact HWE.out)
      go_wp2_with (first
      | (with_reducible refine wpList_neqE rfl _ _ _ rfl _ _ rfl rfl ?_)
      | (with_reducible refine wpList_eqlE rfl _ _ _ rfl _ _ rfl rfl ?_)
      | (with_reducible refine wpList_ld rfl _ _ rfl _ _ rfl (by assumption) ?_)
      | (with_reducible refine wpList_lda rfl _ _ rfl _ _ rfl (by assumption) ?_)
      | (with_reducible refine wpList_stI rfl _ _ _ rfl _ _ rfl _ _ rfl (by assumption) ?_; intro w' hst)
      | (with_reducible refine wpList_stS rfl _ _ _ rfl _ _ rfl _ rfl (by assumption) ?_; intro w' hst)
      | (with_reducible refine wpList_stB rfl _ _ _ rfl _ _ rfl _ rfl (by assumption) ?_; intro w' hst)
      | (with_reducible refine wpList_stA rfl _ _ _ rfl _ _ rfl _ rfl (by assumption) ?_; intro w' hst)
      | (with_reducible refine wpList_box rfl _ _ rfl (by assumption) _ rfl ?_; intro bb w' hst)
      | (with_reducible refine wpList_new rfl _ rfl (by assumption) _ zero_ent ?_; intro bn w' hst)
      | (with_reducible refine wpList_new rfl _ rfl (by assumption) _ zero_run ?_; intro br w' hst))
      have hq := hst.quiet
      refine wp_region_below_lit (by kernel_rfl) (by kernel_rfl) ?_
      repeat (first
        | (with_reducible refine wpQuiet_lda rfl _ _ rfl _ _ rfl hq ?_; simp only [Act.put, List.setIfInBounds_toArray, List.set_cons_succ, List.set_cons_zero])
        | (refine wpQuiet_eqlE rfl _ _ _ rfl _ _ rfl rfl ?_; simp only [Act.put, List.setIfInBounds_toArray, List.set_cons_succ, List.set_cons_zero])
        | go_big_quiet_step (fail))
      refine wpQuiet_nil ?_
      intro w21 hw21
      have h21 := hq w21 hw21
      clear hq hw21 hst
      rw [HS.out]
      have wI2 := wrEnts l rest (c % l.length) hkl E1
      go_wp2_with (first
      | (with_reducible refine wpList_neqE rfl _ _ _ rfl _ _ rfl rfl ?_)
      | (with_reducible refine wpList_eqlE rfl _ _ _ rfl _ _ rfl rfl ?_)
      | (with_reducible refine wpList_ld rfl _ _ rfl _ _ rfl (by assumption) ?_)
      | (with_reducible refine wpList_lda rfl _ _ rfl _ _ rfl (by assumption) ?_)
      | (with_reducible refine wpList_stI rfl _ _ _ rfl _ _ rfl _ _ rfl (by assumption) ?_; intro w' hst)
      | (with_reducible refine wpList_stS rfl _ _ _ rfl _ _ rfl _ rfl (by assumption) ?_; intro w' hst)
      | (with_reducible refine wpList_stB rfl _ _ _ rfl _ _ rfl _ rfl (by assumption) ?_; intro w' hst)
      | (with_reducible refine wpList_stA rfl _ _ _ rfl _ _ rfl _ rfl (by assumption) ?_; intro w' hst)
      | (with_reducible refine wpList_box rfl _ _ rfl (by assumption) _ rfl ?_; intro bb w' hst)
      | (with_reducible refine wpList_new rfl _ rfl (by assumption) _ zero_ent ?_; intro bn w' hst)
      | (with_reducible refine wpList_new rfl _ rfl (by assumption) _ zero_run ?_; intro br w' hst))
      have hrow := entRow_pre (n := l.length) (cap := cap4) (l := l.set (c % l.length) E1) (rest := rest) (hst.has (g := g)) (by simp) HWL.out (by simp; unfold maxLen; omega)
      refine (encode_calls _ _ _ hrow (by simp; omega)).mono ?_
      rintro e w23 ⟨rfl, hb23⟩
      have h23 := hst.below hb23
      clear hb23 hrow hst h21
      rcases encF (l.set (c % l.length) E1) with ⟨t, e⟩
      dsimp only
      go_wp2_with (first
      | (with_reducible refine wpList_neqE rfl _ _ _ rfl _ _ rfl rfl ?_)
      | (with_reducible refine wpList_eqlE rfl _ _ _ rfl _ _ rfl rfl ?_)
      | (with_reducible refine wpList_ld rfl _ _ rfl _ _ rfl (by assumption) ?_)
      | (with_reducible refine wpList_lda rfl _ _ rfl _ _ rfl (by assumption) ?_)
      | (with_reducible refine wpList_stI rfl _ _ _ rfl _ _ rfl _ _ rfl (by assumption) ?_; intro w' hst)
      | (with_reducible refine wpList_stS rfl _ _ _ rfl _ _ rfl _ rfl (by assumption) ?_; intro w' hst)
      | (with_reducible refine wpList_stB rfl _ _ _ rfl _ _ rfl _ rfl (by assumption) ?_; intro w' hst)
      | (with_reducible refine wpList_stA rfl _ _ _ rfl _ _ rfl _ rfl (by assumption) ?_; intro w' hst)
      | (with_reducible refine wpList_box rfl _ _ rfl (by assumption) _ rfl ?_; intro bb w' hst)
      | (with_reducible refine wpList_new rfl _ rfl (by assumption) _ zero_ent ?_; intro bn w' hst)
      | (with_reducible refine wpList_new rfl _ rfl (by assumption) _ zero_run ?_; intro br w' hst))
      refine (check_calls E1 HWE.out _).mono ?_
      rintro e w24 ⟨rfl, hb24⟩
      rw [HK.out]
      have h24 := (h23.below hb24).end
      clear hb24 h23
      unfold errOf
      go_wp2_with fail
      refine (does_calls _).mono ?_
      rintro e w25 ⟨rfl, hb25⟩
      have h25 := belw h24 hb25
      clear h24 hb25
      go_wp2_with fail
      go_ret
      exact ⟨rfl, h25⟩
    by_cases hk5 : e0.kind = 5
    · have q0 : (e0.kind != 1) = true := by simpa using hk1
      have q1 : (e0.kind != 4) = true := by simpa using hk4
      have q2 : (e0.kind != 5) = false := by simpa using hk5
      clear hk1
      clear hk4
      clear hk5
      go_wp2_with (first
      | (with_reducible refine wpList_neqE rfl _ _ _ rfl _ _ rfl rfl ?_)
      | (with_reducible refine wpList_eqlE rfl _ _ _ rfl _ _ rfl rfl ?_)
      | (with_reducible refine wpList_ld rfl _ _ rfl _ _ rfl (by assumption) ?_)
      | (with_reducible refine wpList_lda rfl _ _ rfl _ _ rfl (by assumption) ?_)
      | (with_reducible refine wpList_stI rfl _ _ _ rfl _ _ rfl _ _ rfl (by assumption) ?_; intro w' hst)
      | (with_reducible refine wpList_stS rfl _ _ _ rfl _ _ rfl _ rfl (by assumption) ?_; intro w' hst)
      | (with_reducible refine wpList_stB rfl _ _ _ rfl _ _ rfl _ rfl (by assumption) ?_; intro w' hst)
      | (with_reducible refine wpList_stA rfl _ _ _ rfl _ _ rfl _ rfl (by assumption) ?_; intro w' hst)
      | (with_reducible refine wpList_box rfl _ _ rfl (by assumption) _ rfl ?_; intro bb w' hst)
      | (with_reducible refine wpList_new rfl _ rfl (by assumption) _ zero_ent ?_; intro bn w' hst)
      | (with_reducible refine wpList_new rfl _ rfl (by assumption) _ zero_run ?_; intro br w' hst))
      obtain ⟨E1, hE1⟩ : ∃ E : Ent, E = e0 := ⟨_, rfl⟩
      have hst : St [] w w5 [(bn, entC E1, 27), (g, (l.flatMap entL ++ rest).toArray, 27)] := by rw [hE1]; exact h5
      have HS : Hid (entEq E1 e0 = true) := Lib.hid (by rw [hE1]; exact (entEq_iff HW0.out.hash HW0.out.hash).2 rfl)
      have HK : Hid (checkB E1 = true) := Lib.hid (by rw [hE1]; exact HC.out)
      have HWE : Hid E1.Wf := by rw [hE1]; exact HW0
      clear hE1
      have HWL : Hid (∀ e ∈ l.set (c % l.length) E1, e.Wf) := Lib.hid (fun e he => by
        rcases List.mem_or_eq_of_mem_set he with h | h
        · exact HW.out e h
        · rw [h]; exact HWE.out)
      go_wp2_with (first
      | (with_reducible refine wpList_neqE rfl _ _ _ rfl _ _ rfl rfl ?_)
      | (with_reducible refine wpList_eqlE rfl _ _ _ rfl _ _ rfl rfl ?_)
      | (with_reducible refine wpList_ld rfl _ _ rfl _ _ rfl (by assumption) ?_)
      | (with_reducible refine wpList_lda rfl _ _ rfl _ _ rfl (by assumption) ?_)
      | (with_reducible refine wpList_stI rfl _ _ _ rfl _ _ rfl _ _ rfl (by assumption) ?_; intro w' hst)
      | (with_reducible refine wpList_stS rfl _ _ _ rfl _ _ rfl _ rfl (by assumption) ?_; intro w' hst)
      | (with_reducible refine wpList_stB rfl _ _ _ rfl _ _ rfl _ rfl (by assumption) ?_; intro w' hst)
      | (with_reducible refine wpList_stA rfl _ _ _ rfl _ _ rfl _ rfl (by assumption) ?_; intro w' hst)
      | (with_reducible refine wpList_box rfl _ _ rfl (by assumption) _ rfl ?_; intro bb w' hst)
      | (with_reducible refine wpList_new rfl _ rfl (by assumption) _ zero_ent ?_; intro bn w' hst)
      | (with_reducible refine wpList_new rfl _ rfl (by assumption) _ zero_run ?_; intro br w' hst))
      have hq := hst.quiet
      refine wp_region_below_lit (by kernel_rfl) (by kernel_rfl) ?_
      repeat (first
        | (with_reducible refine wpQuiet_lda rfl _ _ rfl _ _ rfl hq ?_; simp only [Act.put, List.setIfInBounds_toArray, List.set_cons_succ, List.set_cons_zero])
        | (refine wpQuiet_eqlE rfl _ _ _ rfl _ _ rfl rfl ?_; simp only [Act.put, List.setIfInBounds_toArray, List.set_cons_succ, List.set_cons_zero])
        | go_big_quiet_step (fail))
      refine wpQuiet_nil ?_
      intro w21 hw21
      have h21 := hq w21 hw21
      clear hq hw21 hst
      rw [HS.out]
      have wI2 := wrEnts l rest (c % l.length) hkl E1
      go_wp2_with (first
      | (with_reducible refine wpList_neqE rfl _ _ _ rfl _ _ rfl rfl ?_)
      | (with_reducible refine wpList_eqlE rfl _ _ _ rfl _ _ rfl rfl ?_)
      | (with_reducible refine wpList_ld rfl _ _ rfl _ _ rfl (by assumption) ?_)
      | (with_reducible refine wpList_lda rfl _ _ rfl _ _ rfl (by assumption) ?_)
      | (with_reducible refine wpList_stI rfl _ _ _ rfl _ _ rfl _ _ rfl (by assumption) ?_; intro w' hst)
      | (with_reducible refine wpList_stS rfl _ _ _ rfl _ _ rfl _ rfl (by assumption) ?_; intro w' hst)
      | (with_reducible refine wpList_stB rfl _ _ _ rfl _ _ rfl _ rfl (by assumption) ?_; intro w' hst)
      | (with_reducible refine wpList_stA rfl _ _ _ rfl _ _ rfl _ rfl (by assumption) ?_; intro w' hst)
      | (with_reducible refine wpList_box rfl _ _ rfl (by assumption) _ rfl ?_; intro bb w' hst)
      | (with_reducible refine wpList_new rfl _ rfl (by assumption) _ zero_ent ?_; intro bn w' hst)
      | (with_reducible refine wpList_new rfl _ rfl (by assumption) _ zero_run ?_; intro br w' hst))
      have hrow := entRow_pre (n := l.length) (cap := cap4) (l := l.set (c % l.length) E1) (rest := rest) (hst.has (g := g)) (by simp) HWL.out (by simp; unfold maxLen; omega)
      refine (encode_calls _ _ _ hrow (by simp; omega)).mono ?_
      rintro e w23 ⟨rfl, hb23⟩
      have h23 := hst.below hb23
      clear hb23 hrow hst h21
      rcases encF (l.set (c % l.length) E1) with ⟨t, e⟩
      dsimp only
      go_wp2_with (first
      | (with_reducible refine wpList_neqE rfl _ _ _ rfl _ _ rfl rfl ?_)
      | (with_reducible refine wpList_eqlE rfl _ _ _ rfl _ _ rfl rfl ?_)
      | (with_reducible refine wpList_ld rfl _ _ rfl _ _ rfl (by assumption) ?_)
      | (with_reducible refine wpList_lda rfl _ _ rfl _ _ rfl (by assumption) ?_)
      | (with_reducible refine wpList_stI rfl _ _ _ rfl _ _ rfl _ _ rfl (by assumption) ?_; intro w' hst)
      | (with_reducible refine wpList_stS rfl _ _ _ rfl _ _ rfl _ rfl (by assumption) ?_; intro w' hst)
      | (with_reducible refine wpList_stB rfl _ _ _ rfl _ _ rfl _ rfl (by assumption) ?_; intro w' hst)
      | (with_reducible refine wpList_stA rfl _ _ _ rfl _ _ rfl _ rfl (by assumption) ?_; intro w' hst)
      | (with_reducible refine wpList_box rfl _ _ rfl (by assumption) _ rfl ?_; intro bb w' hst)
      | (with_reducible refine wpList_new rfl _ rfl (by assumption) _ zero_ent ?_; intro bn w' hst)
      | (with_reducible refine wpList_new rfl _ rfl (by assumption) _ zero_run ?_; intro br w' hst))
      refine (check_calls E1 HWE.out _).mono ?_
      rintro e w24 ⟨rfl, hb24⟩
      rw [HK.out]
      have h24 := (h23.below hb24).end
      clear hb24 h23
      unfold errOf
      go_wp2_with fail
      refine (does_calls _).mono ?_
      rintro e w25 ⟨rfl, hb25⟩
      have h25 := belw h24 hb25
      clear h24 hb25
      go_wp2_with fail
      go_ret
      exact ⟨rfl, h25⟩
    have q0 : (e0.kind != 1) = true := by simpa using hk1
    have q1 : (e0.kind != 4) = true := by simpa using hk4
    have q2 : (e0.kind != 5) = true := by simpa using hk5
    have hn1 := Lib.hid hk1
    have hn4 := Lib.hid hk4
    have hn5 := Lib.hid hk5
    clear hk1 hk4 hk5
    go_wp2_with (first
      | (with_reducible refine wpList_neqE rfl _ _ _ rfl _ _ rfl rfl ?_)
      | (with_reducible refine wpList_eqlE rfl _ _ _ rfl _ _ rfl rfl ?_)
      | (with_reducible refine wpList_ld rfl _ _ rfl _ _ rfl (by assumption) ?_)
      | (with_reducible refine wpList_lda rfl _ _ rfl _ _ rfl (by assumption) ?_)
      | (with_reducible refine wpList_stI rfl _ _ _ rfl _ _ rfl _ _ rfl (by assumption) ?_; intro w' hst)
      | (with_reducible refine wpList_stS rfl _ _ _ rfl _ _ rfl _ rfl (by assumption) ?_; intro w' hst)
      | (with_reducible refine wpList_stB rfl _ _ _ rfl _ _ rfl _ rfl (by assumption) ?_; intro w' hst)
      | (with_reducible refine wpList_stA rfl _ _ _ rfl _ _ rfl _ rfl (by assumption) ?_; intro w' hst)
      | (with_reducible refine wpList_box rfl _ _ rfl (by assumption) _ rfl ?_; intro bb w' hst)
      | (with_reducible refine wpList_new rfl _ rfl (by assumption) _ zero_ent ?_; intro bn w' hst)
      | (with_reducible refine wpList_new rfl _ rfl (by assumption) _ zero_run ?_; intro br w' hst))
    obtain ⟨E1, hE1⟩ : ∃ E : Ent, E = { e0 with name := nmA } := ⟨_, rfl⟩
    have hst : St [] w w' [(bn, entC E1, 27), (g, (l.flatMap entL ++ rest).toArray, 27)] := by rw [hE1]; exact hst
    have hodd : Odd e0 E1 := by rw [hE1]; exact odd_name HW0.out.hash HC.out hn1.out hn4.out hn5.out
    have HS := Lib.hid hodd.same
    have HK := Lib.hid hodd.check
    have HENC := Lib.hid (bare_enc hkl hodd)
    have HWE : Hid E1.Wf := by rw [hE1]; exact Lib.hid ({ HW0.out with name := (show nmA.size ≤ 9223372036854775807 by decide) })
    clear hodd hE1
    have HWL : Hid (∀ e ∈ l.set (c % l.length) E1, e.Wf) := Lib.hid (fun e he => by
      rcases List.mem_or_eq_of_mem_set he with h | h
      · exact HW.out e h
      · rw [h]; exact HWE.out)
    go_wp2_with (first
      | (with_reducible refine wpList_neqE rfl _ _ _ rfl _ _ rfl rfl ?_)
      | (with_reducible refine wpList_eqlE rfl _ _ _ rfl _ _ rfl rfl ?_)
      | (with_reducible refine wpList_ld rfl _ _ rfl _ _ rfl (by assumption) ?_)
      | (with_reducible refine wpList_lda rfl _ _ rfl _ _ rfl (by assumption) ?_)
      | (with_reducible refine wpList_stI rfl _ _ _ rfl _ _ rfl _ _ rfl (by assumption) ?_; intro w' hst)
      | (with_reducible refine wpList_stS rfl _ _ _ rfl _ _ rfl _ rfl (by assumption) ?_; intro w' hst)
      | (with_reducible refine wpList_stB rfl _ _ _ rfl _ _ rfl _ rfl (by assumption) ?_; intro w' hst)
      | (with_reducible refine wpList_stA rfl _ _ _ rfl _ _ rfl _ rfl (by assumption) ?_; intro w' hst)
      | (with_reducible refine wpList_box rfl _ _ rfl (by assumption) _ rfl ?_; intro bb w' hst)
      | (with_reducible refine wpList_new rfl _ rfl (by assumption) _ zero_ent ?_; intro bn w' hst)
      | (with_reducible refine wpList_new rfl _ rfl (by assumption) _ zero_run ?_; intro br w' hst))
    have hq := hst.quiet
    refine wp_region_below_lit (by kernel_rfl) (by kernel_rfl) ?_
    repeat (first
      | (with_reducible refine wpQuiet_lda rfl _ _ rfl _ _ rfl hq ?_; simp only [Act.put, List.setIfInBounds_toArray, List.set_cons_succ, List.set_cons_zero])
      | (refine wpQuiet_eqlE rfl _ _ _ rfl _ _ rfl rfl ?_; simp only [Act.put, List.setIfInBounds_toArray, List.set_cons_succ, List.set_cons_zero])
      | go_big_quiet_step (fail))
    refine wpQuiet_nil ?_
    intro w21 hw21
    have h21 := hq w21 hw21
    clear hq hw21 hst
    rw [HS.out]
    have wI2 := wrEnts l rest (c % l.length) hkl E1
    go_wp2_with (first
      | (with_reducible refine wpList_neqE rfl _ _ _ rfl _ _ rfl rfl ?_)
      | (with_reducible refine wpList_eqlE rfl _ _ _ rfl _ _ rfl rfl ?_)
      | (with_reducible refine wpList_ld rfl _ _ rfl _ _ rfl (by assumption) ?_)
      | (with_reducible refine wpList_lda rfl _ _ rfl _ _ rfl (by assumption) ?_)
      | (with_reducible refine wpList_stI rfl _ _ _ rfl _ _ rfl _ _ rfl (by assumption) ?_; intro w' hst)
      | (with_reducible refine wpList_stS rfl _ _ _ rfl _ _ rfl _ rfl (by assumption) ?_; intro w' hst)
      | (with_reducible refine wpList_stB rfl _ _ _ rfl _ _ rfl _ rfl (by assumption) ?_; intro w' hst)
      | (with_reducible refine wpList_stA rfl _ _ _ rfl _ _ rfl _ rfl (by assumption) ?_; intro w' hst)
      | (with_reducible refine wpList_box rfl _ _ rfl (by assumption) _ rfl ?_; intro bb w' hst)
      | (with_reducible refine wpList_new rfl _ rfl (by assumption) _ zero_ent ?_; intro bn w' hst)
      | (with_reducible refine wpList_new rfl _ rfl (by assumption) _ zero_run ?_; intro br w' hst))
    have hrow := entRow_pre (n := l.length) (cap := cap4) (l := l.set (c % l.length) E1) (rest := rest) (hst.has (g := g)) (by simp) HWL.out (by simp; unfold maxLen; omega)
    refine (encode_calls _ _ _ hrow (by simp; omega)).mono ?_
    rintro e w23 ⟨rfl, hb23⟩
    have h23 := hst.below hb23
    clear hb23 hrow hst h21
    rw [HENC.out]
    dsimp only
    have q2 : (mkS []).toList = [] := toList_ls _
    go_wp2_with (first
      | (with_reducible refine wpList_neqE rfl _ _ _ rfl _ _ rfl rfl ?_)
      | (with_reducible refine wpList_eqlE rfl _ _ _ rfl _ _ rfl rfl ?_)
      | (with_reducible refine wpList_ld rfl _ _ rfl _ _ rfl (by assumption) ?_)
      | (with_reducible refine wpList_lda rfl _ _ rfl _ _ rfl (by assumption) ?_)
      | (with_reducible refine wpList_stI rfl _ _ _ rfl _ _ rfl _ _ rfl (by assumption) ?_; intro w' hst)
      | (with_reducible refine wpList_stS rfl _ _ _ rfl _ _ rfl _ rfl (by assumption) ?_; intro w' hst)
      | (with_reducible refine wpList_stB rfl _ _ _ rfl _ _ rfl _ rfl (by assumption) ?_; intro w' hst)
      | (with_reducible refine wpList_stA rfl _ _ _ rfl _ _ rfl _ rfl (by assumption) ?_; intro w' hst)
      | (with_reducible refine wpList_box rfl _ _ rfl (by assumption) _ rfl ?_; intro bb w' hst)
      | (with_reducible refine wpList_new rfl _ rfl (by assumption) _ zero_ent ?_; intro bn w' hst)
      | (with_reducible refine wpList_new rfl _ rfl (by assumption) _ zero_run ?_; intro br w' hst))
    refine (check_calls E1 HWE.out _).mono ?_
    rintro e w24 ⟨rfl, hb24⟩
    rw [HK.out]
    have h24 := (h23.below hb24).end
    clear hb24 h23
    unfold errOf
    go_wp2_with fail
    refine (does_calls _).mono ?_
    rintro e w25 ⟨rfl, hb25⟩
    have h25 := belw h24 hb25
    clear h24 hb25
    go_wp2_with fail
    go_ret
    exact ⟨rfl, h25⟩
  · have hf : (d : Int) % 4 = 1 := by omega
    clear hd4
    by_cases hk2 : e0.kind = 2
    · have q0 : (e0.kind != 2) = false := by simpa using hk2
      clear hk2
      go_wp2_with (first
      | (with_reducible refine wpList_neqE rfl _ _ _ rfl _ _ rfl rfl ?_)
      | (with_reducible refine wpList_eqlE rfl _ _ _ rfl _ _ rfl rfl ?_)
      | (with_reducible refine wpList_ld rfl _ _ rfl _ _ rfl (by assumption) ?_)
      | (with_reducible refine wpList_lda rfl _ _ rfl _ _ rfl (by assumption) ?_)
      | (with_reducible refine wpList_stI rfl _ _ _ rfl _ _ rfl _ _ rfl (by assumption) ?_; intro w' hst)
      | (with_reducible refine wpList_stS rfl _ _ _ rfl _ _ rfl _ rfl (by assumption) ?_; intro w' hst)
      | (with_reducible refine wpList_stB rfl _ _ _ rfl _ _ rfl _ rfl (by assumption) ?_; intro w' hst)
      | (with_reducible refine wpList_stA rfl _ _ _ rfl _ _ rfl _ rfl (by assumption) ?_; intro w' hst)
      | (with_reducible refine wpList_box rfl _ _ rfl (by assumption) _ rfl ?_; intro bb w' hst)
      | (with_reducible refine wpList_new rfl _ rfl (by assumption) _ zero_ent ?_; intro bn w' hst)
      | (with_reducible refine wpList_new rfl _ rfl (by assumption) _ zero_run ?_; intro br w' hst))
      obtain ⟨E1, hE1⟩ : ∃ E : Ent, E = e0 := ⟨_, rfl⟩
      have hst : St [] w w5 [(bn, entC E1, 27), (g, (l.flatMap entL ++ rest).toArray, 27)] := by rw [hE1]; exact h5
      have HS : Hid (entEq E1 e0 = true) := Lib.hid (by rw [hE1]; exact (entEq_iff HW0.out.hash HW0.out.hash).2 rfl)
      have HK : Hid (checkB E1 = true) := Lib.hid (by rw [hE1]; exact HC.out)
      have HWE : Hid E1.Wf := by rw [hE1]; exact HW0
      clear hE1
      have HWL : Hid (∀ e ∈ l.set (c % l.length) E1, e.Wf) := Lib.hid (fun e he => by
        rcases List.mem_or_eq_of_mem_set he with h | h
        · exact HW.out e h
        · rw [h]; exact HWE.out)
      go_wp2_with (first
      | (with_reducible refine wpList_neqE rfl _ _ _ rfl _ _ rfl rfl ?_)
      | (with_reducible refine wpList_eqlE rfl _ _ _ rfl _ _ rfl rfl ?_)
      | (with_reducible refine wpList_ld rfl _ _ rfl _ _ rfl (by assumption) ?_)
      | (with_reducible refine wpList_lda rfl _ _ rfl _ _ rfl (by assumption) ?_)
      | (with_reducible refine wpList_stI rfl _ _ _ rfl _ _ rfl _ _ rfl (by assumption) ?_; intro w' hst)
      | (with_reducible refine wpList_stS rfl _ _ _ rfl _ _ rfl _ rfl (by assumption) ?_; intro w' hst)
      | (with_reducible refine wpList_stB rfl _ _ _ rfl _ _ rfl _ rfl (by assumption) ?_; intro w' hst)
      | (with_reducible refine wpList_stA rfl _ _ _ rfl _ _ rfl _ rfl (by assumption) ?_; intro w' hst)
      | (with_reducible refine wpList_box rfl _ _ rfl (by assumption) _ rfl ?_; intro bb w' hst)
      | (with_reducible refine wpList_new rfl _ rfl (by assumption) _ zero_ent ?_; intro bn w' hst)
      | (with_reducible refine wpList_new rfl _ rfl (by assumption) _ zero_run ?_; intro br w' hst))
      have hq := hst.quiet
      refine wp_region_below_lit (by kernel_rfl) (by kernel_rfl) ?_
      repeat (first
        | (with_reducible refine wpQuiet_lda rfl _ _ rfl _ _ rfl hq ?_; simp only [Act.put, List.setIfInBounds_toArray, List.set_cons_succ, List.set_cons_zero])
        | (refine wpQuiet_eqlE rfl _ _ _ rfl _ _ rfl rfl ?_; simp only [Act.put, List.setIfInBounds_toArray, List.set_cons_succ, List.set_cons_zero])
        | go_big_quiet_step (fail))
      refine wpQuiet_nil ?_
      intro w21 hw21
      have h21 := hq w21 hw21
      clear hq hw21 hst
      rw [HS.out]
      have wI2 := wrEnts l rest (c % l.length) hkl E1
      go_wp2_with (first
      | (with_reducible refine wpList_neqE rfl _ _ _ rfl _ _ rfl rfl ?_)
      | (with_reducible refine wpList_eqlE rfl _ _ _ rfl _ _ rfl rfl ?_)
      | (with_reducible refine wpList_ld rfl _ _ rfl _ _ rfl (by assumption) ?_)
      | (with_reducible refine wpList_lda rfl _ _ rfl _ _ rfl (by assumption) ?_)
      | (with_reducible refine wpList_stI rfl _ _ _ rfl _ _ rfl _ _ rfl (by assumption) ?_; intro w' hst)
      | (with_reducible refine wpList_stS rfl _ _ _ rfl _ _ rfl _ rfl (by assumption) ?_; intro w' hst)
      | (with_reducible refine wpList_stB rfl _ _ _ rfl _ _ rfl _ rfl (by assumption) ?_; intro w' hst)
      | (with_reducible refine wpList_stA rfl _ _ _ rfl _ _ rfl _ rfl (by assumption) ?_; intro w' hst)
      | (with_reducible refine wpList_box rfl _ _ rfl (by assumption) _ rfl ?_; intro bb w' hst)
      | (with_reducible refine wpList_new rfl _ rfl (by assumption) _ zero_ent ?_; intro bn w' hst)
      | (with_reducible refine wpList_new rfl _ rfl (by assumption) _ zero_run ?_; intro br w' hst))
      have hrow := entRow_pre (n := l.length) (cap := cap4) (l := l.set (c % l.length) E1) (rest := rest) (hst.has (g := g)) (by simp) HWL.out (by simp; unfold maxLen; omega)
      refine (encode_calls _ _ _ hrow (by simp; omega)).mono ?_
      rintro e w23 ⟨rfl, hb23⟩
      have h23 := hst.below hb23
      clear hb23 hrow hst h21
      rcases encF (l.set (c % l.length) E1) with ⟨t, e⟩
      dsimp only
      go_wp2_with (first
      | (with_reducible refine wpList_neqE rfl _ _ _ rfl _ _ rfl rfl ?_)
      | (with_reducible refine wpList_eqlE rfl _ _ _ rfl _ _ rfl rfl ?_)
      | (with_reducible refine wpList_ld rfl _ _ rfl _ _ rfl (by assumption) ?_)
      | (with_reducible refine wpList_lda rfl _ _ rfl _ _ rfl (by assumption) ?_)
      | (with_reducible refine wpList_stI rfl _ _ _ rfl _ _ rfl _ _ rfl (by assumption) ?_; intro w' hst)
      | (with_reducible refine wpList_stS rfl _ _ _ rfl _ _ rfl _ rfl (by assumption) ?_; intro w' hst)
      | (with_reducible refine wpList_stB rfl _ _ _ rfl _ _ rfl _ rfl (by assumption) ?_; intro w' hst)
      | (with_reducible refine wpList_stA rfl _ _ _ rfl _ _ rfl _ rfl (by assumption) ?_; intro w' hst)
      | (with_reducible refine wpList_box rfl _ _ rfl (by assumption) _ rfl ?_; intro bb w' hst)
      | (with_reducible refine wpList_new rfl _ rfl (by assumption) _ zero_ent ?_; intro bn w' hst)
      | (with_reducible refine wpList_new rfl _ rfl (by assumption) _ zero_run ?_; intro br w' hst))
      refine (check_calls E1 HWE.out _).mono ?_
      rintro e w24 ⟨rfl, hb24⟩
      rw [HK.out]
      have h24 := (h23.below hb24).end
      clear hb24 h23
      unfold errOf
      go_wp2_with fail
      refine (does_calls _).mono ?_
      rintro e w25 ⟨rfl, hb25⟩
      have h25 := belw h24 hb25
      clear h24 hb25
      go_wp2_with fail
      go_ret
      exact ⟨rfl, h25⟩
    have q0 : (e0.kind != 2) = true := by simpa using hk2
    have hn2 := Lib.hid hk2
    clear hk2
    have hj : d % 32 < 32 := Nat.mod_lt _ (by omega)
    have hj0 : (0 : Int) ≤ (d : Int) % 32 := Int.emod_nonneg _ (by omega)
    have hj1 : (d : Int) % 32 < 32 := Int.emod_lt_of_pos _ (by omega)
    have wIH := wrHash e0 HW0.out.hash (d % 32) hj
    go_wp2_with (first
      | (with_reducible refine wpList_neqE rfl _ _ _ rfl _ _ rfl rfl ?_)
      | (with_reducible refine wpList_eqlE rfl _ _ _ rfl _ _ rfl rfl ?_)
      | (with_reducible refine wpList_ld rfl _ _ rfl _ _ rfl (by assumption) ?_)
      | (with_reducible refine wpList_lda rfl _ _ rfl _ _ rfl (by assumption) ?_)
      | (with_reducible refine wpList_stI rfl _ _ _ rfl _ _ rfl _ _ rfl (by assumption) ?_; intro w' hst)
      | (with_reducible refine wpList_stS rfl _ _ _ rfl _ _ rfl _ rfl (by assumption) ?_; intro w' hst)
      | (with_reducible refine wpList_stB rfl _ _ _ rfl _ _ rfl _ rfl (by assumption) ?_; intro w' hst)
      | (with_reducible refine wpList_stA rfl _ _ _ rfl _ _ rfl _ rfl (by assumption) ?_; intro w' hst)
      | (with_reducible refine wpList_box rfl _ _ rfl (by assumption) _ rfl ?_; intro bb w' hst)
      | (with_reducible refine wpList_new rfl _ rfl (by assumption) _ zero_ent ?_; intro bn w' hst)
      | (with_reducible refine wpList_new rfl _ rfl (by assumption) _ zero_run ?_; intro br w' hst))
    obtain ⟨E1, hE1⟩ : ∃ E : Ent, E = { e0 with hash := e0.hash.set (d % 32) 1 } := ⟨_, rfl⟩
    have hst : St [] w w' [(bn, entC E1, 27), (g, (l.flatMap entL ++ rest).toArray, 27)] := by rw [hE1]; exact hst
    have hodd : Odd e0 E1 := by rw [hE1]; exact odd_hash HW0.out.hash HC.out hn2.out _ hj
    have HS := Lib.hid hodd.same
    have HK := Lib.hid hodd.check
    have HENC := Lib.hid (bare_enc hkl hodd)
    have HWE : Hid E1.Wf := by rw [hE1]; exact Lib.hid ({ HW0.out with hash := (by simp [HW0.out.hash]) })
    clear hodd hE1
    have HWL : Hid (∀ e ∈ l.set (c % l.length) E1, e.Wf) := Lib.hid (fun e he => by
      rcases List.mem_or_eq_of_mem_set he with h | h
      · exact HW.out e h
      · rw [h]; exact HWE.out)
    go_wp2_with (first
      | (with_reducible refine wpList_neqE rfl _ _ _ rfl _ _ rfl rfl ?_)
      | (with_reducible refine wpList_eqlE rfl _ _ _ rfl _ _ rfl rfl ?_)
      | (with_reducible refine wpList_ld rfl _ _ rfl _ _ rfl (by assumption) ?_)
      | (with_reducible refine wpList_lda rfl _ _ rfl _ _ rfl (by assumption) ?_)
      | (with_reducible refine wpList_stI rfl _ _ _ rfl _ _ rfl _ _ rfl (by assumption) ?_; intro w' hst)
      | (with_reducible refine wpList_stS rfl _ _ _ rfl _ _ rfl _ rfl (by assumption) ?_; intro w' hst)
      | (with_reducible refine wpList_stB rfl _ _ _ rfl _ _ rfl _ rfl (by assumption) ?_; intro w' hst)
      | (with_reducible refine wpList_stA rfl _ _ _ rfl _ _ rfl _ rfl (by assumption) ?_; intro w' hst)
      | (with_reducible refine wpList_box rfl _ _ rfl (by assumption) _ rfl ?_; intro bb w' hst)
      | (with_reducible refine wpList_new rfl _ rfl (by assumption) _ zero_ent ?_; intro bn w' hst)
      | (with_reducible refine wpList_new rfl _ rfl (by assumption) _ zero_run ?_; intro br w' hst))
    have hq := hst.quiet
    refine wp_region_below_lit (by kernel_rfl) (by kernel_rfl) ?_
    repeat (first
      | (with_reducible refine wpQuiet_lda rfl _ _ rfl _ _ rfl hq ?_; simp only [Act.put, List.setIfInBounds_toArray, List.set_cons_succ, List.set_cons_zero])
      | (refine wpQuiet_eqlE rfl _ _ _ rfl _ _ rfl rfl ?_; simp only [Act.put, List.setIfInBounds_toArray, List.set_cons_succ, List.set_cons_zero])
      | go_big_quiet_step (fail))
    refine wpQuiet_nil ?_
    intro w21 hw21
    have h21 := hq w21 hw21
    clear hq hw21 hst
    rw [HS.out]
    have wI2 := wrEnts l rest (c % l.length) hkl E1
    go_wp2_with (first
      | (with_reducible refine wpList_neqE rfl _ _ _ rfl _ _ rfl rfl ?_)
      | (with_reducible refine wpList_eqlE rfl _ _ _ rfl _ _ rfl rfl ?_)
      | (with_reducible refine wpList_ld rfl _ _ rfl _ _ rfl (by assumption) ?_)
      | (with_reducible refine wpList_lda rfl _ _ rfl _ _ rfl (by assumption) ?_)
      | (with_reducible refine wpList_stI rfl _ _ _ rfl _ _ rfl _ _ rfl (by assumption) ?_; intro w' hst)
      | (with_reducible refine wpList_stS rfl _ _ _ rfl _ _ rfl _ rfl (by assumption) ?_; intro w' hst)
      | (with_reducible refine wpList_stB rfl _ _ _ rfl _ _ rfl _ rfl (by assumption) ?_; intro w' hst)
      | (with_reducible refine wpList_stA rfl _ _ _ rfl _ _ rfl _ rfl (by assumption) ?_; intro w' hst)
      | (with_reducible refine wpList_box rfl _ _ rfl (by assumption) _ rfl ?_; intro bb w' hst)
      | (with_reducible refine wpList_new rfl _ rfl (by assumption) _ zero_ent ?_; intro bn w' hst)
      | (with_reducible refine wpList_new rfl _ rfl (by assumption) _ zero_run ?_; intro br w' hst))
    have hrow := entRow_pre (n := l.length) (cap := cap4) (l := l.set (c % l.length) E1) (rest := rest) (hst.has (g := g)) (by simp) HWL.out (by simp; unfold maxLen; omega)
    refine (encode_calls _ _ _ hrow (by simp; omega)).mono ?_
    rintro e w23 ⟨rfl, hb23⟩
    have h23 := hst.below hb23
    clear hb23 hrow hst h21
    rw [HENC.out]
    dsimp only
    have q2 : (mkS []).toList = [] := toList_ls _
    go_wp2_with (first
      | (with_reducible refine wpList_neqE rfl _ _ _ rfl _ _ rfl rfl ?_)
      | (with_reducible refine wpList_eqlE rfl _ _ _ rfl _ _ rfl rfl ?_)
      | (with_reducible refine wpList_ld rfl _ _ rfl _ _ rfl (by assumption) ?_)
      | (with_reducible refine wpList_lda rfl _ _ rfl _ _ rfl (by assumption) ?_)
      | (with_reducible refine wpList_stI rfl _ _ _ rfl _ _ rfl _ _ rfl (by assumption) ?_; intro w' hst)
      | (with_reducible refine wpList_stS rfl _ _ _ rfl _ _ rfl _ rfl (by assumption) ?_; intro w' hst)
      | (with_reducible refine wpList_stB rfl _ _ _ rfl _ _ rfl _ rfl (by assumption) ?_; intro w' hst)
      | (with_reducible refine wpList_stA rfl _ _ _ rfl _ _ rfl _ rfl (by assumption) ?_; intro w' hst)
      | (with_reducible refine wpList_box rfl _ _ rfl (by assumption) _ rfl ?_; intro bb w' hst)
      | (with_reducible refine wpList_new rfl _ rfl (by assumption) _ zero_ent ?_; intro bn w' hst)
      | (with_reducible refine wpList_new rfl _ rfl (by assumption) _ zero_run ?_; intro br w' hst))
    refine (check_calls E1 HWE.out _).mono ?_
    rintro e w24 ⟨rfl, hb24⟩
    rw [HK.out]
    have h24 := (h23.below hb24).end
    clear hb24 h23
    unfold errOf
    go_wp2_with fail
    refine (does_calls _).mono ?_
    rintro e w25 ⟨rfl, hb25⟩
    have h25 := belw h24 hb25
    clear h24 hb25
    go_wp2_with fail
    go_ret
    exact ⟨rfl, h25⟩
  · have hf : (d : Int) % 4 = 2 := by omega
    clear hd4
    by_cases hk2 : e0.kind = 2
    · have q0 : (e0.kind != 2) = false := by simpa using hk2
      clear hk2
      go_wp2_with (first
      | (with_reducible refine wpList_neqE rfl _ _ _ rfl _ _ rfl rfl ?_)
      | (with_reducible refine wpList_eqlE rfl _ _ _ rfl _ _ rfl rfl ?_)
      | (with_reducible refine wpList_ld rfl _ _ rfl _ _ rfl (by assumption) ?_)
      | (with_reducible refine wpList_lda rfl _ _ rfl _ _ rfl (by assumption) ?_)
      | (with_reducible refine wpList_stI rfl _ _ _ rfl _ _ rfl _ _ rfl (by assumption) ?_; intro w' hst)
      | (with_reducible refine wpList_stS rfl _ _ _ rfl _ _ rfl _ rfl (by assumption) ?_; intro w' hst)
      | (with_reducible refine wpList_stB rfl _ _ _ rfl _ _ rfl _ rfl (by assumption) ?_; intro w' hst)
      | (with_reducible refine wpList_stA rfl _ _ _ rfl _ _ rfl _ rfl (by assumption) ?_; intro w' hst)
      | (with_reducible refine wpList_box rfl _ _ rfl (by assumption) _ rfl ?_; intro bb w' hst)
      | (with_reducible refine wpList_new rfl _ rfl (by assumption) _ zero_ent ?_; intro bn w' hst)
      | (with_reducible refine wpList_new rfl _ rfl (by assumption) _ zero_run ?_; intro br w' hst))
      obtain ⟨E1, hE1⟩ : ∃ E : Ent, E = e0 := ⟨_, rfl⟩
      have hst : St [] w w5 [(bn, entC E1, 27), (g, (l.flatMap entL ++ rest).toArray, 27)] := by rw [hE1]; exact h5
      have HS : Hid (entEq E1 e0 = true) := Lib.hid (by rw [hE1]; exact (entEq_iff HW0.out.hash HW0.out.hash).2 rfl)
      have HK : Hid (checkB E1 = true) := Lib.hid (by rw [hE1]; exact HC.out)
      have HWE : Hid E1.Wf := by rw [hE1]; exact HW0
      clear hE1
      have HWL : Hid (∀ e ∈ l.set (c % l.length) E1, e.Wf) := Lib.hid (fun e he => by
        rcases List.mem_or_eq_of_mem_set he with h | h
        · exact HW.out e h
        · rw [h]; exact HWE.out)
      go_wp2_with (first
      | (with_reducible refine wpList_neqE rfl _ _ _ rfl _ _ rfl rfl ?_)
      | (with_reducible refine wpList_eqlE rfl _ _ _ rfl _ _ rfl rfl ?_)
      | (with_reducible refine wpList_ld rfl _ _ rfl _ _ rfl (by assumption) ?_)
      | (with_reducible refine wpList_lda rfl _ _ rfl _ _ rfl (by assumption) ?_)
      | (with_reducible refine wpList_stI rfl _ _ _ rfl _ _ rfl _ _ rfl (by assumption) ?_; intro w' hst)
      | (with_reducible refine wpList_stS rfl _ _ _ rfl _ _ rfl _ rfl (by assumption) ?_; intro w' hst)
      | (with_reducible refine wpList_stB rfl _ _ _ rfl _ _ rfl _ rfl (by assumption) ?_; intro w' hst)
      | (with_reducible refine wpList_stA rfl _ _ _ rfl _ _ rfl _ rfl (by assumption) ?_; intro w' hst)
      | (with_reducible refine wpList_box rfl _ _ rfl (by assumption) _ rfl ?_; intro bb w' hst)
      | (with_reducible refine wpList_new rfl _ rfl (by assumption) _ zero_ent ?_; intro bn w' hst)
      | (with_reducible refine wpList_new rfl _ rfl (by assumption) _ zero_run ?_; intro br w' hst))
      have hq := hst.quiet
      refine wp_region_below_lit (by kernel_rfl) (by kernel_rfl) ?_
      repeat (first
        | (with_reducible refine wpQuiet_lda rfl _ _ rfl _ _ rfl hq ?_; simp only [Act.put, List.setIfInBounds_toArray, List.set_cons_succ, List.set_cons_zero])
        | (refine wpQuiet_eqlE rfl _ _ _ rfl _ _ rfl rfl ?_; simp only [Act.put, List.setIfInBounds_toArray, List.set_cons_succ, List.set_cons_zero])
        | go_big_quiet_step (fail))
      refine wpQuiet_nil ?_
      intro w21 hw21
      have h21 := hq w21 hw21
      clear hq hw21 hst
      rw [HS.out]
      have wI2 := wrEnts l rest (c % l.length) hkl E1
      go_wp2_with (first
      | (with_reducible refine wpList_neqE rfl _ _ _ rfl _ _ rfl rfl ?_)
      | (with_reducible refine wpList_eqlE rfl _ _ _ rfl _ _ rfl rfl ?_)
      | (with_reducible refine wpList_ld rfl _ _ rfl _ _ rfl (by assumption) ?_)
      | (with_reducible refine wpList_lda rfl _ _ rfl _ _ rfl (by assumption) ?_)
      | (with_reducible refine wpList_stI rfl _ _ _ rfl _ _ rfl _ _ rfl (by assumption) ?_; intro w' hst)
      | (with_reducible refine wpList_stS rfl _ _ _ rfl _ _ rfl _ rfl (by assumption) ?_; intro w' hst)
      | (with_reducible refine wpList_stB rfl _ _ _ rfl _ _ rfl _ rfl (by assumption) ?_; intro w' hst)
      | (with_reducible refine wpList_stA rfl _ _ _ rfl _ _ rfl _ rfl (by assumption) ?_; intro w' hst)
      | (with_reducible refine wpList_box rfl _ _ rfl (by assumption) _ rfl ?_; intro bb w' hst)
      | (with_reducible refine wpList_new rfl _ rfl (by assumption) _ zero_ent ?_; intro bn w' hst)
      | (with_reducible refine wpList_new rfl _ rfl (by assumption) _ zero_run ?_; intro br w' hst))
      have hrow := entRow_pre (n := l.length) (cap := cap4) (l := l.set (c % l.length) E1) (rest := rest) (hst.has (g := g)) (by simp) HWL.out (by simp; unfold maxLen; omega)
      refine (encode_calls _ _ _ hrow (by simp; omega)).mono ?_
      rintro e w23 ⟨rfl, hb23⟩
      have h23 := hst.below hb23
      clear hb23 hrow hst h21
      rcases encF (l.set (c % l.length) E1) with ⟨t, e⟩
      dsimp only
      go_wp2_with (first
      | (with_reducible refine wpList_neqE rfl _ _ _ rfl _ _ rfl rfl ?_)
      | (with_reducible refine wpList_eqlE rfl _ _ _ rfl _ _ rfl rfl ?_)
      | (with_reducible refine wpList_ld rfl _ _ rfl _ _ rfl (by assumption) ?_)
      | (with_reducible refine wpList_lda rfl _ _ rfl _ _ rfl (by assumption) ?_)
      | (with_reducible refine wpList_stI rfl _ _ _ rfl _ _ rfl _ _ rfl (by assumption) ?_; intro w' hst)
      | (with_reducible refine wpList_stS rfl _ _ _ rfl _ _ rfl _ rfl (by assumption) ?_; intro w' hst)
      | (with_reducible refine wpList_stB rfl _ _ _ rfl _ _ rfl _ rfl (by assumption) ?_; intro w' hst)
      | (with_reducible refine wpList_stA rfl _ _ _ rfl _ _ rfl _ rfl (by assumption) ?_; intro w' hst)
      | (with_reducible refine wpList_box rfl _ _ rfl (by assumption) _ rfl ?_; intro bb w' hst)
      | (with_reducible refine wpList_new rfl _ rfl (by assumption) _ zero_ent ?_; intro bn w' hst)
      | (with_reducible refine wpList_new rfl _ rfl (by assumption) _ zero_run ?_; intro br w' hst))
      refine (check_calls E1 HWE.out _).mono ?_
      rintro e w24 ⟨rfl, hb24⟩
      rw [HK.out]
      have h24 := (h23.below hb24).end
      clear hb24 h23
      unfold errOf
      go_wp2_with fail
      refine (does_calls _).mono ?_
      rintro e w25 ⟨rfl, hb25⟩
      have h25 := belw h24 hb25
      clear h24 hb25
      go_wp2_with fail
      go_ret
      exact ⟨rfl, h25⟩
    have q0 : (e0.kind != 2) = true := by simpa using hk2
    have hn2 := Lib.hid hk2
    clear hk2
    go_wp2_with (first
      | (with_reducible refine wpList_neqE rfl _ _ _ rfl _ _ rfl rfl ?_)
      | (with_reducible refine wpList_eqlE rfl _ _ _ rfl _ _ rfl rfl ?_)
      | (with_reducible refine wpList_ld rfl _ _ rfl _ _ rfl (by assumption) ?_)
      | (with_reducible refine wpList_lda rfl _ _ rfl _ _ rfl (by assumption) ?_)
      | (with_reducible refine wpList_stI rfl _ _ _ rfl _ _ rfl _ _ rfl (by assumption) ?_; intro w' hst)
      | (with_reducible refine wpList_stS rfl _ _ _ rfl _ _ rfl _ rfl (by assumption) ?_; intro w' hst)
      | (with_reducible refine wpList_stB rfl _ _ _ rfl _ _ rfl _ rfl (by assumption) ?_; intro w' hst)
      | (with_reducible refine wpList_stA rfl _ _ _ rfl _ _ rfl _ rfl (by assumption) ?_; intro w' hst)
      | (with_reducible refine wpList_box rfl _ _ rfl (by assumption) _ rfl ?_; intro bb w' hst)
      | (with_reducible refine wpList_new rfl _ rfl (by assumption) _ zero_ent ?_; intro bn w' hst)
      | (with_reducible refine wpList_new rfl _ rfl (by assumption) _ zero_run ?_; intro br w' hst))
    obtain ⟨E1, hE1⟩ : ∃ E : Ent, E = { e0 with count := 1 } := ⟨_, rfl⟩
    have hst : St [] w w' [(bn, entC E1, 27), (g, (l.flatMap entL ++ rest).toArray, 27)] := by rw [hE1]; exact hst
    have hodd : Odd e0 E1 := by rw [hE1]; exact odd_count HW0.out.hash HC.out hn2.out
    have HS := Lib.hid hodd.same
    have HK := Lib.hid hodd.check
    have HENC := Lib.hid (bare_enc hkl hodd)
    have HWE : Hid E1.Wf := by rw [hE1]; exact Lib.hid ({ HW0.out with count := (show I64 1 by unfold I64; decide) })
    clear hodd hE1
    have HWL : Hid (∀ e ∈ l.set (c % l.length) E1, e.Wf) := Lib.hid (fun e he => by
      rcases List.mem_or_eq_of_mem_set he with h | h
      · exact HW.out e h
      · rw [h]; exact HWE.out)
    go_wp2_with (first
      | (with_reducible refine wpList_neqE rfl _ _ _ rfl _ _ rfl rfl ?_)
      | (with_reducible refine wpList_eqlE rfl _ _ _ rfl _ _ rfl rfl ?_)
      | (with_reducible refine wpList_ld rfl _ _ rfl _ _ rfl (by assumption) ?_)
      | (with_reducible refine wpList_lda rfl _ _ rfl _ _ rfl (by assumption) ?_)
      | (with_reducible refine wpList_stI rfl _ _ _ rfl _ _ rfl _ _ rfl (by assumption) ?_; intro w' hst)
      | (with_reducible refine wpList_stS rfl _ _ _ rfl _ _ rfl _ rfl (by assumption) ?_; intro w' hst)
      | (with_reducible refine wpList_stB rfl _ _ _ rfl _ _ rfl _ rfl (by assumption) ?_; intro w' hst)
      | (with_reducible refine wpList_stA rfl _ _ _ rfl _ _ rfl _ rfl (by assumption) ?_; intro w' hst)
      | (with_reducible refine wpList_box rfl _ _ rfl (by assumption) _ rfl ?_; intro bb w' hst)
      | (with_reducible refine wpList_new rfl _ rfl (by assumption) _ zero_ent ?_; intro bn w' hst)
      | (with_reducible refine wpList_new rfl _ rfl (by assumption) _ zero_run ?_; intro br w' hst))
    have hq := hst.quiet
    refine wp_region_below_lit (by kernel_rfl) (by kernel_rfl) ?_
    repeat (first
      | (with_reducible refine wpQuiet_lda rfl _ _ rfl _ _ rfl hq ?_; simp only [Act.put, List.setIfInBounds_toArray, List.set_cons_succ, List.set_cons_zero])
      | (refine wpQuiet_eqlE rfl _ _ _ rfl _ _ rfl rfl ?_; simp only [Act.put, List.setIfInBounds_toArray, List.set_cons_succ, List.set_cons_zero])
      | go_big_quiet_step (fail))
    refine wpQuiet_nil ?_
    intro w21 hw21
    have h21 := hq w21 hw21
    clear hq hw21 hst
    rw [HS.out]
    have wI2 := wrEnts l rest (c % l.length) hkl E1
    go_wp2_with (first
      | (with_reducible refine wpList_neqE rfl _ _ _ rfl _ _ rfl rfl ?_)
      | (with_reducible refine wpList_eqlE rfl _ _ _ rfl _ _ rfl rfl ?_)
      | (with_reducible refine wpList_ld rfl _ _ rfl _ _ rfl (by assumption) ?_)
      | (with_reducible refine wpList_lda rfl _ _ rfl _ _ rfl (by assumption) ?_)
      | (with_reducible refine wpList_stI rfl _ _ _ rfl _ _ rfl _ _ rfl (by assumption) ?_; intro w' hst)
      | (with_reducible refine wpList_stS rfl _ _ _ rfl _ _ rfl _ rfl (by assumption) ?_; intro w' hst)
      | (with_reducible refine wpList_stB rfl _ _ _ rfl _ _ rfl _ rfl (by assumption) ?_; intro w' hst)
      | (with_reducible refine wpList_stA rfl _ _ _ rfl _ _ rfl _ rfl (by assumption) ?_; intro w' hst)
      | (with_reducible refine wpList_box rfl _ _ rfl (by assumption) _ rfl ?_; intro bb w' hst)
      | (with_reducible refine wpList_new rfl _ rfl (by assumption) _ zero_ent ?_; intro bn w' hst)
      | (with_reducible refine wpList_new rfl _ rfl (by assumption) _ zero_run ?_; intro br w' hst))
    have hrow := entRow_pre (n := l.length) (cap := cap4) (l := l.set (c % l.length) E1) (rest := rest) (hst.has (g := g)) (by simp) HWL.out (by simp; unfold maxLen; omega)
    refine (encode_calls _ _ _ hrow (by simp; omega)).mono ?_
    rintro e w23 ⟨rfl, hb23⟩
    have h23 := hst.below hb23
    clear hb23 hrow hst h21
    rw [HENC.out]
    dsimp only
    have q2 : (mkS []).toList = [] := toList_ls _
    go_wp2_with (first
      | (with_reducible refine wpList_neqE rfl _ _ _ rfl _ _ rfl rfl ?_)
      | (with_reducible refine wpList_eqlE rfl _ _ _ rfl _ _ rfl rfl ?_)
      | (with_reducible refine wpList_ld rfl _ _ rfl _ _ rfl (by assumption) ?_)
      | (with_reducible refine wpList_lda rfl _ _ rfl _ _ rfl (by assumption) ?_)
      | (with_reducible refine wpList_stI rfl _ _ _ rfl _ _ rfl _ _ rfl (by assumption) ?_; intro w' hst)
      | (with_reducible refine wpList_stS rfl _ _ _ rfl _ _ rfl _ rfl (by assumption) ?_; intro w' hst)
      | (with_reducible refine wpList_stB rfl _ _ _ rfl _ _ rfl _ rfl (by assumption) ?_; intro w' hst)
      | (with_reducible refine wpList_stA rfl _ _ _ rfl _ _ rfl _ rfl (by assumption) ?_; intro w' hst)
      | (with_reducible refine wpList_box rfl _ _ rfl (by assumption) _ rfl ?_; intro bb w' hst)
      | (with_reducible refine wpList_new rfl _ rfl (by assumption) _ zero_ent ?_; intro bn w' hst)
      | (with_reducible refine wpList_new rfl _ rfl (by assumption) _ zero_run ?_; intro br w' hst))
    refine (check_calls E1 HWE.out _).mono ?_
    rintro e w24 ⟨rfl, hb24⟩
    rw [HK.out]
    have h24 := (h23.below hb24).end
    clear hb24 h23
    unfold errOf
    go_wp2_with fail
    refine (does_calls _).mono ?_
    rintro e w25 ⟨rfl, hb25⟩
    have h25 := belw h24 hb25
    clear h24 hb25
    go_wp2_with fail
    go_ret
    exact ⟨rfl, h25⟩
  · have hf : (d : Int) % 4 = 3 := by omega
    clear hd4
    by_cases hk1 : e0.kind = 1
    · have q0 : (e0.kind == 1) = true := by simpa using hk1
      have hor : Hid (e0.kind = 1 ∨ e0.kind = 4 ∨ e0.kind = 5) := Lib.hid (by omega)
      clear hk1
      go_wp2_with (first
      | (with_reducible refine wpList_neqE rfl _ _ _ rfl _ _ rfl rfl ?_)
      | (with_reducible refine wpList_eqlE rfl _ _ _ rfl _ _ rfl rfl ?_)
      | (with_reducible refine wpList_ld rfl _ _ rfl _ _ rfl (by assumption) ?_)
      | (with_reducible refine wpList_lda rfl _ _ rfl _ _ rfl (by assumption) ?_)
      | (with_reducible refine wpList_stI rfl _ _ _ rfl _ _ rfl _ _ rfl (by assumption) ?_; intro w' hst)
      | (with_reducible refine wpList_stS rfl _ _ _ rfl _ _ rfl _ rfl (by assumption) ?_; intro w' hst)
      | (with_reducible refine wpList_stB rfl _ _ _ rfl _ _ rfl _ rfl (by assumption) ?_; intro w' hst)
      | (with_reducible refine wpList_stA rfl _ _ _ rfl _ _ rfl _ rfl (by assumption) ?_; intro w' hst)
      | (with_reducible refine wpList_box rfl _ _ rfl (by assumption) _ rfl ?_; intro bb w' hst)
      | (with_reducible refine wpList_new rfl _ rfl (by assumption) _ zero_ent ?_; intro bn w' hst)
      | (with_reducible refine wpList_new rfl _ rfl (by assumption) _ zero_run ?_; intro br w' hst))
      obtain ⟨E1, hE1⟩ : ∃ E : Ent, E = { e0 with n := 1 } := ⟨_, rfl⟩
      have hst : St [] w w' [(bn, entC E1, 27), (g, (l.flatMap entL ++ rest).toArray, 27)] := by rw [hE1]; exact hst
      have hodd : Odd e0 E1 := by rw [hE1]; exact odd_n HW0.out.hash HC.out hor.out
      have HS := Lib.hid hodd.same
      have HK := Lib.hid hodd.check
      have HENC := Lib.hid (bare_enc hkl hodd)
      have HWE : Hid E1.Wf := by rw [hE1]; exact Lib.hid ({ HW0.out with n := (show I64 1 by unfold I64; decide) })
      clear hodd hE1
      have HWL : Hid (∀ e ∈ l.set (c % l.length) E1, e.Wf) := Lib.hid (fun e he => by
        rcases List.mem_or_eq_of_mem_set he with h | h
        · exact HW.out e h
        · rw [h]; exact HWE.out)
      go_wp2_with (first
      | (with_reducible refine wpList_neqE rfl _ _ _ rfl _ _ rfl rfl ?_)
      | (with_reducible refine wpList_eqlE rfl _ _ _ rfl _ _ rfl rfl ?_)
      | (with_reducible refine wpList_ld rfl _ _ rfl _ _ rfl (by assumption) ?_)
      | (with_reducible refine wpList_lda rfl _ _ rfl _ _ rfl (by assumption) ?_)
      | (with_reducible refine wpList_stI rfl _ _ _ rfl _ _ rfl _ _ rfl (by assumption) ?_; intro w' hst)
      | (with_reducible refine wpList_stS rfl _ _ _ rfl _ _ rfl _ rfl (by assumption) ?_; intro w' hst)
      | (with_reducible refine wpList_stB rfl _ _ _ rfl _ _ rfl _ rfl (by assumption) ?_; intro w' hst)
      | (with_reducible refine wpList_stA rfl _ _ _ rfl _ _ rfl _ rfl (by assumption) ?_; intro w' hst)
      | (with_reducible refine wpList_box rfl _ _ rfl (by assumption) _ rfl ?_; intro bb w' hst)
      | (with_reducible refine wpList_new rfl _ rfl (by assumption) _ zero_ent ?_; intro bn w' hst)
      | (with_reducible refine wpList_new rfl _ rfl (by assumption) _ zero_run ?_; intro br w' hst))
      have hq := hst.quiet
      refine wp_region_below_lit (by kernel_rfl) (by kernel_rfl) ?_
      repeat (first
        | (with_reducible refine wpQuiet_lda rfl _ _ rfl _ _ rfl hq ?_; simp only [Act.put, List.setIfInBounds_toArray, List.set_cons_succ, List.set_cons_zero])
        | (refine wpQuiet_eqlE rfl _ _ _ rfl _ _ rfl rfl ?_; simp only [Act.put, List.setIfInBounds_toArray, List.set_cons_succ, List.set_cons_zero])
        | go_big_quiet_step (fail))
      refine wpQuiet_nil ?_
      intro w21 hw21
      have h21 := hq w21 hw21
      clear hq hw21 hst
      rw [HS.out]
      have wI2 := wrEnts l rest (c % l.length) hkl E1
      go_wp2_with (first
      | (with_reducible refine wpList_neqE rfl _ _ _ rfl _ _ rfl rfl ?_)
      | (with_reducible refine wpList_eqlE rfl _ _ _ rfl _ _ rfl rfl ?_)
      | (with_reducible refine wpList_ld rfl _ _ rfl _ _ rfl (by assumption) ?_)
      | (with_reducible refine wpList_lda rfl _ _ rfl _ _ rfl (by assumption) ?_)
      | (with_reducible refine wpList_stI rfl _ _ _ rfl _ _ rfl _ _ rfl (by assumption) ?_; intro w' hst)
      | (with_reducible refine wpList_stS rfl _ _ _ rfl _ _ rfl _ rfl (by assumption) ?_; intro w' hst)
      | (with_reducible refine wpList_stB rfl _ _ _ rfl _ _ rfl _ rfl (by assumption) ?_; intro w' hst)
      | (with_reducible refine wpList_stA rfl _ _ _ rfl _ _ rfl _ rfl (by assumption) ?_; intro w' hst)
      | (with_reducible refine wpList_box rfl _ _ rfl (by assumption) _ rfl ?_; intro bb w' hst)
      | (with_reducible refine wpList_new rfl _ rfl (by assumption) _ zero_ent ?_; intro bn w' hst)
      | (with_reducible refine wpList_new rfl _ rfl (by assumption) _ zero_run ?_; intro br w' hst))
      have hrow := entRow_pre (n := l.length) (cap := cap4) (l := l.set (c % l.length) E1) (rest := rest) (hst.has (g := g)) (by simp) HWL.out (by simp; unfold maxLen; omega)
      refine (encode_calls _ _ _ hrow (by simp; omega)).mono ?_
      rintro e w23 ⟨rfl, hb23⟩
      have h23 := hst.below hb23
      clear hb23 hrow hst h21
      rw [HENC.out]
      dsimp only
      have q2 : (mkS []).toList = [] := toList_ls _
      go_wp2_with (first
      | (with_reducible refine wpList_neqE rfl _ _ _ rfl _ _ rfl rfl ?_)
      | (with_reducible refine wpList_eqlE rfl _ _ _ rfl _ _ rfl rfl ?_)
      | (with_reducible refine wpList_ld rfl _ _ rfl _ _ rfl (by assumption) ?_)
      | (with_reducible refine wpList_lda rfl _ _ rfl _ _ rfl (by assumption) ?_)
      | (with_reducible refine wpList_stI rfl _ _ _ rfl _ _ rfl _ _ rfl (by assumption) ?_; intro w' hst)
      | (with_reducible refine wpList_stS rfl _ _ _ rfl _ _ rfl _ rfl (by assumption) ?_; intro w' hst)
      | (with_reducible refine wpList_stB rfl _ _ _ rfl _ _ rfl _ rfl (by assumption) ?_; intro w' hst)
      | (with_reducible refine wpList_stA rfl _ _ _ rfl _ _ rfl _ rfl (by assumption) ?_; intro w' hst)
      | (with_reducible refine wpList_box rfl _ _ rfl (by assumption) _ rfl ?_; intro bb w' hst)
      | (with_reducible refine wpList_new rfl _ rfl (by assumption) _ zero_ent ?_; intro bn w' hst)
      | (with_reducible refine wpList_new rfl _ rfl (by assumption) _ zero_run ?_; intro br w' hst))
      refine (check_calls E1 HWE.out _).mono ?_
      rintro e w24 ⟨rfl, hb24⟩
      rw [HK.out]
      have h24 := (h23.below hb24).end
      clear hb24 h23
      unfold errOf
      go_wp2_with fail
      refine (does_calls _).mono ?_
      rintro e w25 ⟨rfl, hb25⟩
      have h25 := belw h24 hb25
      clear h24 hb25
      go_wp2_with fail
      go_ret
      exact ⟨rfl, h25⟩
    by_cases hk4 : e0.kind = 4
    · have q0 : (e0.kind == 1) = false := by simpa using hk1
      have q1 : (e0.kind == 4) = true := by simpa using hk4
      have hor : Hid (e0.kind = 1 ∨ e0.kind = 4 ∨ e0.kind = 5) := Lib.hid (by omega)
      clear hk1
      clear hk4
      go_wp2_with (first
      | (with_reducible refine wpList_neqE rfl _ _ _ rfl _ _ rfl rfl ?_)
      | (with_reducible refine wpList_eqlE rfl _ _ _ rfl _ _ rfl rfl ?_)
      | (with_reducible refine wpList_ld rfl _ _ rfl _ _ rfl (by assumption) ?_)
      | (with_reducible refine wpList_lda rfl _ _ rfl _ _ rfl (by assumption) ?_)
      | (with_reducible refine wpList_stI rfl _ _ _ rfl _ _ rfl _ _ rfl (by assumption) ?_; intro w' hst)
      | (with_reducible refine wpList_stS rfl _ _ _ rfl _ _ rfl _ rfl (by assumption) ?_; intro w' hst)
      | (with_reducible refine wpList_stB rfl _ _ _ rfl _ _ rfl _ rfl (by assumption) ?_; intro w' hst)
      | (with_reducible refine wpList_stA rfl _ _ _ rfl _ _ rfl _ rfl (by assumption) ?_; intro w' hst)
      | (with_reducible refine wpList_box rfl _ _ rfl (by assumption) _ rfl ?_; intro bb w' hst)
      | (with_reducible refine wpList_new rfl _ rfl (by assumption) _ zero_ent ?_; intro bn w' hst)
      | (with_reducible refine wpList_new rfl _ rfl (by assumption) _ zero_run ?_; intro br w' hst))
      obtain ⟨E1, hE1⟩ : ∃ E : Ent, E = { e0 with n := 1 } := ⟨_, rfl⟩
      have hst : St [] w w' [(bn, entC E1, 27), (g, (l.flatMap entL ++ rest).toArray, 27)] := by rw [hE1]; exact hst
      have hodd : Odd e0 E1 := by rw [hE1]; exact odd_n HW0.out.hash HC.out hor.out
      have HS := Lib.hid hodd.same
      have HK := Lib.hid hodd.check
      have HENC := Lib.hid (bare_enc hkl hodd)
      have HWE : Hid E1.Wf := by rw [hE1]; exact Lib.hid ({ HW0.out with n := (show I64 1 by unfold I64; decide) })
      clear hodd hE1
      have HWL : Hid (∀ e ∈ l.set (c % l.length) E1, e.Wf) := Lib.hid (fun e he => by
        rcases List.mem_or_eq_of_mem_set he with h | h
        · exact HW.out e h
        · rw [h]; exact HWE.out)
      go_wp2_with (first
      | (with_reducible refine wpList_neqE rfl _ _ _ rfl _ _ rfl rfl ?_)
      | (with_reducible refine wpList_eqlE rfl _ _ _ rfl _ _ rfl rfl ?_)
      | (with_reducible refine wpList_ld rfl _ _ rfl _ _ rfl (by assumption) ?_)
      | (with_reducible refine wpList_lda rfl _ _ rfl _ _ rfl (by assumption) ?_)
      | (with_reducible refine wpList_stI rfl _ _ _ rfl _ _ rfl _ _ rfl (by assumption) ?_; intro w' hst)
      | (with_reducible refine wpList_stS rfl _ _ _ rfl _ _ rfl _ rfl (by assumption) ?_; intro w' hst)
      | (with_reducible refine wpList_stB rfl _ _ _ rfl _ _ rfl _ rfl (by assumption) ?_; intro w' hst)
      | (with_reducible refine wpList_stA rfl _ _ _ rfl _ _ rfl _ rfl (by assumption) ?_; intro w' hst)
      | (with_reducible refine wpList_box rfl _ _ rfl (by assumption) _ rfl ?_; intro bb w' hst)
      | (with_reducible refine wpList_new rfl _ rfl (by assumption) _ zero_ent ?_; intro bn w' hst)
      | (with_reducible refine wpList_new rfl _ rfl (by assumption) _ zero_run ?_; intro br w' hst))
      have hq := hst.quiet
      refine wp_region_below_lit (by kernel_rfl) (by kernel_rfl) ?_
      repeat (first
        | (with_reducible refine wpQuiet_lda rfl _ _ rfl _ _ rfl hq ?_; simp only [Act.put, List.setIfInBounds_toArray, List.set_cons_succ, List.set_cons_zero])
        | (refine wpQuiet_eqlE rfl _ _ _ rfl _ _ rfl rfl ?_; simp only [Act.put, List.setIfInBounds_toArray, List.set_cons_succ, List.set_cons_zero])
        | go_big_quiet_step (fail))
      refine wpQuiet_nil ?_
      intro w21 hw21
      have h21 := hq w21 hw21
      clear hq hw21 hst
      rw [HS.out]
      have wI2 := wrEnts l rest (c % l.length) hkl E1
      go_wp2_with (first
      | (with_reducible refine wpList_neqE rfl _ _ _ rfl _ _ rfl rfl ?_)
      | (with_reducible refine wpList_eqlE rfl _ _ _ rfl _ _ rfl rfl ?_)
      | (with_reducible refine wpList_ld rfl _ _ rfl _ _ rfl (by assumption) ?_)
      | (with_reducible refine wpList_lda rfl _ _ rfl _ _ rfl (by assumption) ?_)
      | (with_reducible refine wpList_stI rfl _ _ _ rfl _ _ rfl _ _ rfl (by assumption) ?_; intro w' hst)
      | (with_reducible refine wpList_stS rfl _ _ _ rfl _ _ rfl _ rfl (by assumption) ?_; intro w' hst)
      | (with_reducible refine wpList_stB rfl _ _ _ rfl _ _ rfl _ rfl (by assumption) ?_; intro w' hst)
      | (with_reducible refine wpList_stA rfl _ _ _ rfl _ _ rfl _ rfl (by assumption) ?_; intro w' hst)
      | (with_reducible refine wpList_box rfl _ _ rfl (by assumption) _ rfl ?_; intro bb w' hst)
      | (with_reducible refine wpList_new rfl _ rfl (by assumption) _ zero_ent ?_; intro bn w' hst)
      | (with_reducible refine wpList_new rfl _ rfl (by assumption) _ zero_run ?_; intro br w' hst))
      have hrow := entRow_pre (n := l.length) (cap := cap4) (l := l.set (c % l.length) E1) (rest := rest) (hst.has (g := g)) (by simp) HWL.out (by simp; unfold maxLen; omega)
      refine (encode_calls _ _ _ hrow (by simp; omega)).mono ?_
      rintro e w23 ⟨rfl, hb23⟩
      have h23 := hst.below hb23
      clear hb23 hrow hst h21
      rw [HENC.out]
      dsimp only
      have q2 : (mkS []).toList = [] := toList_ls _
      go_wp2_with (first
      | (with_reducible refine wpList_neqE rfl _ _ _ rfl _ _ rfl rfl ?_)
      | (with_reducible refine wpList_eqlE rfl _ _ _ rfl _ _ rfl rfl ?_)
      | (with_reducible refine wpList_ld rfl _ _ rfl _ _ rfl (by assumption) ?_)
      | (with_reducible refine wpList_lda rfl _ _ rfl _ _ rfl (by assumption) ?_)
      | (with_reducible refine wpList_stI rfl _ _ _ rfl _ _ rfl _ _ rfl (by assumption) ?_; intro w' hst)
      | (with_reducible refine wpList_stS rfl _ _ _ rfl _ _ rfl _ rfl (by assumption) ?_; intro w' hst)
      | (with_reducible refine wpList_stB rfl _ _ _ rfl _ _ rfl _ rfl (by assumption) ?_; intro w' hst)
      | (with_reducible refine wpList_stA rfl _ _ _ rfl _ _ rfl _ rfl (by assumption) ?_; intro w' hst)
      | (with_reducible refine wpList_box rfl _ _ rfl (by assumption) _ rfl ?_; intro bb w' hst)
      | (with_reducible refine wpList_new rfl _ rfl (by assumption) _ zero_ent ?_; intro bn w' hst)
      | (with_reducible refine wpList_new rfl _ rfl (by assumption) _ zero_run ?_; intro br w' hst))
      refine (check_calls E1 HWE.out _).mono ?_
      rintro e w24 ⟨rfl, hb24⟩
      rw [HK.out]
      have h24 := (h23.below hb24).end
      clear hb24 h23
      unfold errOf
      go_wp2_with fail
      refine (does_calls _).mono ?_
      rintro e w25 ⟨rfl, hb25⟩
      have h25 := belw h24 hb25
      clear h24 hb25
      go_wp2_with fail
      go_ret
      exact ⟨rfl, h25⟩
    by_cases hk5 : e0.kind = 5
    · have q0 : (e0.kind == 1) = false := by simpa using hk1
      have q1 : (e0.kind == 4) = false := by simpa using hk4
      have q2 : (e0.kind == 5) = true := by simpa using hk5
      have hor : Hid (e0.kind = 1 ∨ e0.kind = 4 ∨ e0.kind = 5) := Lib.hid (by omega)
      clear hk1
      clear hk4
      clear hk5
      go_wp2_with (first
      | (with_reducible refine wpList_neqE rfl _ _ _ rfl _ _ rfl rfl ?_)
      | (with_reducible refine wpList_eqlE rfl _ _ _ rfl _ _ rfl rfl ?_)
      | (with_reducible refine wpList_ld rfl _ _ rfl _ _ rfl (by assumption) ?_)
      | (with_reducible refine wpList_lda rfl _ _ rfl _ _ rfl (by assumption) ?_)
      | (with_reducible refine wpList_stI rfl _ _ _ rfl _ _ rfl _ _ rfl (by assumption) ?_; intro w' hst)
      | (with_reducible refine wpList_stS rfl _ _ _ rfl _ _ rfl _ rfl (by assumption) ?_; intro w' hst)
      | (with_reducible refine wpList_stB rfl _ _ _ rfl _ _ rfl _ rfl (by assumption) ?_; intro w' hst)
      | (with_reducible refine wpList_stA rfl _ _ _ rfl _ _ rfl _ rfl (by assumption) ?_; intro w' hst)
      | (with_reducible refine wpList_box rfl _ _ rfl (by assumption) _ rfl ?_; intro bb w' hst)
      | (with_reducible refine wpList_new rfl _ rfl (by assumption) _ zero_ent ?_; intro bn w' hst)
      | (with_reducible refine wpList_new rfl _ rfl (by assumption) _ zero_run ?_; intro br w' hst))
      obtain ⟨E1, hE1⟩ : ∃ E : Ent, E = { e0 with n := 1 } := ⟨_, rfl⟩
      have hst : St [] w w' [(bn, entC E1, 27), (g, (l.flatMap entL ++ rest).toArray, 27)] := by rw [hE1]; exact hst
      have hodd : Odd e0 E1 := by rw [hE1]; exact odd_n HW0.out.hash HC.out hor.out
      have HS := Lib.hid hodd.same
      have HK := Lib.hid hodd.check
      have HENC := Lib.hid (bare_enc hkl hodd)
      have HWE : Hid E1.Wf := by rw [hE1]; exact Lib.hid ({ HW0.out with n := (show I64 1 by unfold I64; decide) })
      clear hodd hE1
      have HWL : Hid (∀ e ∈ l.set (c % l.length) E1, e.Wf) := Lib.hid (fun e he => by
        rcases List.mem_or_eq_of_mem_set he with h | h
        · exact HW.out e h
        · rw [h]; exact HWE.out)
      go_wp2_with (first
      | (with_reducible refine wpList_neqE rfl _ _ _ rfl _ _ rfl rfl ?_)
      | (with_reducible refine wpList_eqlE rfl _ _ _ rfl _ _ rfl rfl ?_)
      | (with_reducible refine wpList_ld rfl _ _ rfl _ _ rfl (by assumption) ?_)
      | (with_reducible refine wpList_lda rfl _ _ rfl _ _ rfl (by assumption) ?_)
      | (with_reducible refine wpList_stI rfl _ _ _ rfl _ _ rfl _ _ rfl (by assumption) ?_; intro w' hst)
      | (with_reducible refine wpList_stS rfl _ _ _ rfl _ _ rfl _ rfl (by assumption) ?_; intro w' hst)
      | (with_reducible refine wpList_stB rfl _ _ _ rfl _ _ rfl _ rfl (by assumption) ?_; intro w' hst)
      | (with_reducible refine wpList_stA rfl _ _ _ rfl _ _ rfl _ rfl (by assumption) ?_; intro w' hst)
      | (with_reducible refine wpList_box rfl _ _ rfl (by assumption) _ rfl ?_; intro bb w' hst)
      | (with_reducible refine wpList_new rfl _ rfl (by assumption) _ zero_ent ?_; intro bn w' hst)
      | (with_reducible refine wpList_new rfl _ rfl (by assumption) _ zero_run ?_; intro br w' hst))
      have hq := hst.quiet
      refine wp_region_below_lit (by kernel_rfl) (by kernel_rfl) ?_
      repeat (first
        | (with_reducible refine wpQuiet_lda rfl _ _ rfl _ _ rfl hq ?_; simp only [Act.put, List.setIfInBounds_toArray, List.set_cons_succ, List.set_cons_zero])
        | (refine wpQuiet_eqlE rfl _ _ _ rfl _ _ rfl rfl ?_; simp only [Act.put, List.setIfInBounds_toArray, List.set_cons_succ, List.set_cons_zero])
        | go_big_quiet_step (fail))
      refine wpQuiet_nil ?_
      intro w21 hw21
      have h21 := hq w21 hw21
      clear hq hw21 hst
      rw [HS.out]
      have wI2 := wrEnts l rest (c % l.length) hkl E1
      go_wp2_with (first
      | (with_reducible refine wpList_neqE rfl _ _ _ rfl _ _ rfl rfl ?_)
      | (with_reducible refine wpList_eqlE rfl _ _ _ rfl _ _ rfl rfl ?_)
      | (with_reducible refine wpList_ld rfl _ _ rfl _ _ rfl (by assumption) ?_)
      | (with_reducible refine wpList_lda rfl _ _ rfl _ _ rfl (by assumption) ?_)
      | (with_reducible refine wpList_stI rfl _ _ _ rfl _ _ rfl _ _ rfl (by assumption) ?_; intro w' hst)
      | (with_reducible refine wpList_stS rfl _ _ _ rfl _ _ rfl _ rfl (by assumption) ?_; intro w' hst)
      | (with_reducible refine wpList_stB rfl _ _ _ rfl _ _ rfl _ rfl (by assumption) ?_; intro w' hst)
      | (with_reducible refine wpList_stA rfl _ _ _ rfl _ _ rfl _ rfl (by assumption) ?_; intro w' hst)
      | (with_reducible refine wpList_box rfl _ _ rfl (by assumption) _ rfl ?_; intro bb w' hst)
      | (with_reducible refine wpList_new rfl _ rfl (by assumption) _ zero_ent ?_; intro bn w' hst)
      | (with_reducible refine wpList_new rfl _ rfl (by assumption) _ zero_run ?_; intro br w' hst))
      have hrow := entRow_pre (n := l.length) (cap := cap4) (l := l.set (c % l.length) E1) (rest := rest) (hst.has (g := g)) (by simp) HWL.out (by simp; unfold maxLen; omega)
      refine (encode_calls _ _ _ hrow (by simp; omega)).mono ?_
      rintro e w23 ⟨rfl, hb23⟩
      have h23 := hst.below hb23
      clear hb23 hrow hst h21
      rw [HENC.out]
      dsimp only
      have q2 : (mkS []).toList = [] := toList_ls _
      go_wp2_with (first
      | (with_reducible refine wpList_neqE rfl _ _ _ rfl _ _ rfl rfl ?_)
      | (with_reducible refine wpList_eqlE rfl _ _ _ rfl _ _ rfl rfl ?_)
      | (with_reducible refine wpList_ld rfl _ _ rfl _ _ rfl (by assumption) ?_)
      | (with_reducible refine wpList_lda rfl _ _ rfl _ _ rfl (by assumption) ?_)
      | (with_reducible refine wpList_stI rfl _ _ _ rfl _ _ rfl _ _ rfl (by assumption) ?_; intro w' hst)
      | (with_reducible refine wpList_stS rfl _ _ _ rfl _ _ rfl _ rfl (by assumption) ?_; intro w' hst)
      | (with_reducible refine wpList_stB rfl _ _ _ rfl _ _ rfl _ rfl (by assumption) ?_; intro w' hst)
      | (with_reducible refine wpList_stA rfl _ _ _ rfl _ _ rfl _ rfl (by assumption) ?_; intro w' hst)
      | (with_reducible refine wpList_box rfl _ _ rfl (by assumption) _ rfl ?_; intro bb w' hst)
      | (with_reducible refine wpList_new rfl _ rfl (by assumption) _ zero_ent ?_; intro bn w' hst)
      | (with_reducible refine wpList_new rfl _ rfl (by assumption) _ zero_run ?_; intro br w' hst))
      refine (check_calls E1 HWE.out _).mono ?_
      rintro e w24 ⟨rfl, hb24⟩
      rw [HK.out]
      have h24 := (h23.below hb24).end
      clear hb24 h23
      unfold errOf
      go_wp2_with fail
      refine (does_calls _).mono ?_
      rintro e w25 ⟨rfl, hb25⟩
      have h25 := belw h24 hb25
      clear h24 hb25
      go_wp2_with fail
      go_ret
      exact ⟨rfl, h25⟩
    have q0 : (e0.kind == 1) = false := by simpa using hk1
    have q1 : (e0.kind == 4) = false := by simpa using hk4
    have q2 : (e0.kind == 5) = false := by simpa using hk5
    clear hk1 hk4 hk5
    go_wp2_with (first
      | (with_reducible refine wpList_neqE rfl _ _ _ rfl _ _ rfl rfl ?_)
      | (with_reducible refine wpList_eqlE rfl _ _ _ rfl _ _ rfl rfl ?_)
      | (with_reducible refine wpList_ld rfl _ _ rfl _ _ rfl (by assumption) ?_)
      | (with_reducible refine wpList_lda rfl _ _ rfl _ _ rfl (by assumption) ?_)
      | (with_reducible refine wpList_stI rfl _ _ _ rfl _ _ rfl _ _ rfl (by assumption) ?_; intro w' hst)
      | (with_reducible refine wpList_stS rfl _ _ _ rfl _ _ rfl _ rfl (by assumption) ?_; intro w' hst)
      | (with_reducible refine wpList_stB rfl _ _ _ rfl _ _ rfl _ rfl (by assumption) ?_; intro w' hst)
      | (with_reducible refine wpList_stA rfl _ _ _ rfl _ _ rfl _ rfl (by assumption) ?_; intro w' hst)
      | (with_reducible refine wpList_box rfl _ _ rfl (by assumption) _ rfl ?_; intro bb w' hst)
      | (with_reducible refine wpList_new rfl _ rfl (by assumption) _ zero_ent ?_; intro bn w' hst)
      | (with_reducible refine wpList_new rfl _ rfl (by assumption) _ zero_run ?_; intro br w' hst))
    obtain ⟨E1, hE1⟩ : ∃ E : Ent, E = e0 := ⟨_, rfl⟩
    have hst : St [] w w5 [(bn, entC E1, 27), (g, (l.flatMap entL ++ rest).toArray, 27)] := by rw [hE1]; exact h5
    have HS : Hid (entEq E1 e0 = true) := Lib.hid (by rw [hE1]; exact (entEq_iff HW0.out.hash HW0.out.hash).2 rfl)
    have HK : Hid (checkB E1 = true) := Lib.hid (by rw [hE1]; exact HC.out)
    have HWE : Hid E1.Wf := by rw [hE1]; exact HW0
    clear hE1
    have HWL : Hid (∀ e ∈ l.set (c % l.length) E1, e.Wf) := Lib.hid (fun e he => by
      rcases List.mem_or_eq_of_mem_set he with h | h
      · exact HW.out e h
      · rw [h]; exact HWE.out)
    go_wp2_with (first
      | (with_reducible refine wpList_neqE rfl _ _ _ rfl _ _ rfl rfl ?_)
      | (with_reducible refine wpList_eqlE rfl _ _ _ rfl _ _ rfl rfl ?_)
      | (with_reducible refine wpList_ld rfl _ _ rfl _ _ rfl (by assumption) ?_)
      | (with_reducible refine wpList_lda rfl _ _ rfl _ _ rfl (by assumption) ?_)
      | (with_reducible refine wpList_stI rfl _ _ _ rfl _ _ rfl _ _ rfl (by assumption) ?_; intro w' hst)
      | (with_reducible refine wpList_stS rfl _ _ _ rfl _ _ rfl _ rfl (by assumption) ?_; intro w' hst)
      | (with_reducible refine wpList_stB rfl _ _ _ rfl _ _ rfl _ rfl (by assumption) ?_; intro w' hst)
      | (with_reducible refine wpList_stA rfl _ _ _ rfl _ _ rfl _ rfl (by assumption) ?_; intro w' hst)
      | (with_reducible refine wpList_box rfl _ _ rfl (by assumption) _ rfl ?_; intro bb w' hst)
      | (with_reducible refine wpList_new rfl _ rfl (by assumption) _ zero_ent ?_; intro bn w' hst)
      | (with_reducible refine wpList_new rfl _ rfl (by assumption) _ zero_run ?_; intro br w' hst))
    have hq := hst.quiet
    refine wp_region_below_lit (by kernel_rfl) (by kernel_rfl) ?_
    repeat (first
      | (with_reducible refine wpQuiet_lda rfl _ _ rfl _ _ rfl hq ?_; simp only [Act.put, List.setIfInBounds_toArray, List.set_cons_succ, List.set_cons_zero])
      | (refine wpQuiet_eqlE rfl _ _ _ rfl _ _ rfl rfl ?_; simp only [Act.put, List.setIfInBounds_toArray, List.set_cons_succ, List.set_cons_zero])
      | go_big_quiet_step (fail))
    refine wpQuiet_nil ?_
    intro w21 hw21
    have h21 := hq w21 hw21
    clear hq hw21 hst
    rw [HS.out]
    have wI2 := wrEnts l rest (c % l.length) hkl E1
    go_wp2_with (first
      | (with_reducible refine wpList_neqE rfl _ _ _ rfl _ _ rfl rfl ?_)
      | (with_reducible refine wpList_eqlE rfl _ _ _ rfl _ _ rfl rfl ?_)
      | (with_reducible refine wpList_ld rfl _ _ rfl _ _ rfl (by assumption) ?_)
      | (with_reducible refine wpList_lda rfl _ _ rfl _ _ rfl (by assumption) ?_)
      | (with_reducible refine wpList_stI rfl _ _ _ rfl _ _ rfl _ _ rfl (by assumption) ?_; intro w' hst)
      | (with_reducible refine wpList_stS rfl _ _ _ rfl _ _ rfl _ rfl (by assumption) ?_; intro w' hst)
      | (with_reducible refine wpList_stB rfl _ _ _ rfl _ _ rfl _ rfl (by assumption) ?_; intro w' hst)
      | (with_reducible refine wpList_stA rfl _ _ _ rfl _ _ rfl _ rfl (by assumption) ?_; intro w' hst)
      | (with_reducible refine wpList_box rfl _ _ rfl (by assumption) _ rfl ?_; intro bb w' hst)
      | (with_reducible refine wpList_new rfl _ rfl (by assumption) _ zero_ent ?_; intro bn w' hst)
      | (with_reducible refine wpList_new rfl _ rfl (by assumption) _ zero_run ?_; intro br w' hst))
    have hrow := entRow_pre (n := l.length) (cap := cap4) (l := l.set (c % l.length) E1) (rest := rest) (hst.has (g := g)) (by simp) HWL.out (by simp; unfold maxLen; omega)
    refine (encode_calls _ _ _ hrow (by simp; omega)).mono ?_
    rintro e w23 ⟨rfl, hb23⟩
    have h23 := hst.below hb23
    clear hb23 hrow hst h21
    rcases encF (l.set (c % l.length) E1) with ⟨t, e⟩
    dsimp only
    go_wp2_with (first
      | (with_reducible refine wpList_neqE rfl _ _ _ rfl _ _ rfl rfl ?_)
      | (with_reducible refine wpList_eqlE rfl _ _ _ rfl _ _ rfl rfl ?_)
      | (with_reducible refine wpList_ld rfl _ _ rfl _ _ rfl (by assumption) ?_)
      | (with_reducible refine wpList_lda rfl _ _ rfl _ _ rfl (by assumption) ?_)
      | (with_reducible refine wpList_stI rfl _ _ _ rfl _ _ rfl _ _ rfl (by assumption) ?_; intro w' hst)
      | (with_reducible refine wpList_stS rfl _ _ _ rfl _ _ rfl _ rfl (by assumption) ?_; intro w' hst)
      | (with_reducible refine wpList_stB rfl _ _ _ rfl _ _ rfl _ rfl (by assumption) ?_; intro w' hst)
      | (with_reducible refine wpList_stA rfl _ _ _ rfl _ _ rfl _ rfl (by assumption) ?_; intro w' hst)
      | (with_reducible refine wpList_box rfl _ _ rfl (by assumption) _ rfl ?_; intro bb w' hst)
      | (with_reducible refine wpList_new rfl _ rfl (by assumption) _ zero_ent ?_; intro bn w' hst)
      | (with_reducible refine wpList_new rfl _ rfl (by assumption) _ zero_run ?_; intro br w' hst))
    refine (check_calls E1 HWE.out _).mono ?_
    rintro e w24 ⟨rfl, hb24⟩
    rw [HK.out]
    have h24 := (h23.below hb24).end
    clear hb24 h23
    unfold errOf
    go_wp2_with fail
    refine (does_calls _).mono ?_
    rintro e w25 ⟨rfl, hb25⟩
    have h25 := belw h24 hb25
    clear h24 hb25
    go_wp2_with fail
    go_ret
    exact ⟨rfl, h25⟩
end Go.Proofs.Ytgjgjhikimnknaa
