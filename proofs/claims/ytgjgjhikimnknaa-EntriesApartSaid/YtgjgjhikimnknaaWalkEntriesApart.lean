/- The walk of EntriesApart: the law returns true. -/
import Derived.Test.YtgjgjhikimnknaaEntLaw
import Derived.Test.YtgjgjhikimnknaaDoes15
set_option linter.unusedVariables false
set_option linter.unusedSimpArgs false
namespace Go.Proofs.Ytgjgjhikimnknaa
open Go.RowKit

theorem apart_eq {l m : List Ent} {t u : List UInt8} (h1 : encF l = (t, 0)) (h2 : encF m = (u, 0)) (hl : ∀ e ∈ l, e.hash.length = 32) (hm : ∀ e ∈ m, e.hash.length = 32) : ((mkS t).toList == (mkS u).toList) = sameB l m := by
  rw [Bool.eq_iff_iff, sameB_iff hl hm, beq_iff_eq, toList_ls, toList_ls, ls_mkS, ls_mkS]
  constructor
  · rintro rfl
    have k1 := dec_enc (more := []) h1 hl
    have k2 := dec_enc (more := []) h2 hm
    rw [k1] at k2
    simpa using k2
  · rintro rfl
    rw [h1] at h2
    simpa using h2
set_option maxHeartbeats 4000000 in
set_option maxRecDepth 100000 in
theorem entriesApart_walk (v : Value) (l : List Ent) (v2 : Value) (m : List Ent) (w : World) (hr : EntRow w v l) (hr2 : EntRow w v2 m) :
    Calls Try.prog 10 #[v, v2] w fun e w' => e = .returned (.bool true) ∧ Below w.heap.size w w' := by
  have HR := Lib.hid hr
  obtain ⟨a, cap, rfl, hwf, hml, _⟩ := hr
  have HW := Lib.hid hwf
  have HR2 := Lib.hid hr2
  obtain ⟨a2, cap2, rfl, hwf2, hml2, _⟩ := hr2
  have HW2 := Lib.hid hwf2
  clear hwf hwf2
  unfold maxLen at hml hml2
  by_cases hbig : 100 < l.length
  · have f1 : decide ((100 : Int) < (l.length : Int)) = true := by simp; omega
    go_enter Try.func10, Try.ntmps10
    go_wp2
    go_ret
    exact ⟨rfl, Below.refl _ _⟩
  have f1 : decide ((100 : Int) < (l.length : Int)) = false := by simp; omega
  by_cases hbig2 : 100 < m.length
  · have f2 : decide ((100 : Int) < (m.length : Int)) = true := by simp; omega
    go_enter Try.func10, Try.ntmps10
    go_wp2
    go_ret
    exact ⟨rfl, Below.refl _ _⟩
  have f2 : decide ((100 : Int) < (m.length : Int)) = false := by simp; omega
  go_enter Try.func10, Try.ntmps10
  go_wp2_with fail
  refine (encode_calls _ l _ HR.out (by omega)).mono ?_
  rintro e w1 ⟨rfl, hb1⟩
  rcases henc : encF l with ⟨t, e⟩
  have HR := Lib.hid (HR.out.old hb1)
  have HR2 := Lib.hid (HR2.out.old hb1)
  have HE := Lib.hid henc
  clear henc
  dsimp only
  go_wp2_with fail
  refine (encode_calls _ m _ HR2.out (by omega)).mono ?_
  rintro e2 w2 ⟨rfl, hb2⟩
  rcases henc : encF m with ⟨u, e2⟩
  have HR := Lib.hid (HR.out.old hb2)
  have HR2 := Lib.hid (HR2.out.old hb2)
  have HE2 := Lib.hid henc
  clear henc
  have h2 := belw hb1 hb2
  clear hb1 hb2
  dsimp only
  by_cases he : e = 0
  · subst he
    by_cases he2 : e2 = 0
    · subst he2
      have HQ := Lib.hid (apart_eq HE.out HE2.out (fun e he => (HW.out e he).hash) (fun e he => (HW2.out e he).hash))
      cases hsame : sameB l m
      · have q : ((mkS t).toList == (mkS u).toList) = false := by rw [HQ.out, hsame]
        have q' : ¬ (mkS t).toList = (mkS u).toList := by simpa using q
        have HS := Lib.hid hsame
        clear hsame
        go_wp2_with fail
        refine (same_calls _ _ l m _ HR.out HR2.out).mono ?_
        rintro e w3 ⟨rfl, hb3⟩
        rw [HS.out]
        have h3 := belw h2 hb3
        clear h2 hb3
        go_wp2_with fail
        refine (does_calls _).mono ?_
        rintro e w4 ⟨rfl, hb4⟩
        have h4 := belw h3 hb4
        clear h3 hb4
        go_wp2_with fail
        go_ret
        exact ⟨rfl, h4⟩
      · have q : ((mkS t).toList == (mkS u).toList) = true := by rw [HQ.out, hsame]
        have q' : (mkS t).toList = (mkS u).toList := by simpa using q
        have HS := Lib.hid hsame
        clear hsame
        go_wp2_with fail
        refine (same_calls _ _ l m _ HR.out HR2.out).mono ?_
        rintro e w3 ⟨rfl, hb3⟩
        rw [HS.out]
        have h3 := belw h2 hb3
        clear h2 hb3
        go_wp2_with fail
        refine (does_calls _).mono ?_
        rintro e w4 ⟨rfl, hb4⟩
        have h4 := belw h3 hb4
        clear h3 hb4
        go_wp2_with fail
        go_ret
        exact ⟨rfl, h4⟩
    · have f3 : (e2 == 0) = false := by simpa using he2
      have f3' : (e2 != 0) = true := by simpa using he2
      clear he2
      go_wp2_with fail
      refine (does_calls _).mono ?_
      rintro e w4 ⟨rfl, hb4⟩
      have h4 := belw h2 hb4
      clear h2 hb4
      go_wp2_with fail
      go_ret
      exact ⟨rfl, h4⟩
  · have f3 : (e == 0) = false := by simpa using he
    have f3' : (e != 0) = true := by simpa using he
    clear he
    go_wp2_with fail
    refine (does_calls _).mono ?_
    rintro e w4 ⟨rfl, hb4⟩
    have h4 := belw h2 hb4
    clear h2 hb4
    go_wp2_with fail
    go_ret
    exact ⟨rfl, h4⟩
end Go.Proofs.Ytgjgjhikimnknaa
