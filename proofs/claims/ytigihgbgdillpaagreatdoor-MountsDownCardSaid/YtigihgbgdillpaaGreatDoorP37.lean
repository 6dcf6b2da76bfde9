/- A device among a walk's own blocks: its methods are called where its blocks stand in the list · The contracts of commits: Place, Write. -/
import Derived.Test.YtigihgbgdillpaaGreatDoorP36
set_option linter.unusedVariables false
set_option linter.unusedSimpArgs false
set_option maxRecDepth 100000
namespace Go.Proofs.YtigihgbgdillpaaGreatDoor
open Go.RowKit

/-- A list in which another one stands, and what it is around it. -/
class Ctx (L0 X : List Blk) (C : outParam (List Blk → List Blk)) : Prop where
  eq : L0 = C X
  perm : ∀ Y, (C Y).Perm (Y ++ C [])
instance ctxHere {g : Nat} {d : Dv} {q : Dp} : Ctx (devL g d q) (devL g d q) (fun Y => Y) := ⟨rfl, fun Y => by simp⟩
instance ctxCons {b : Blk} {L0 X : List Blk} {C : List Blk → List Blk} [h : Ctx L0 X C] : Ctx (b :: L0) X (fun Y => b :: C Y) := ⟨by rw [← h.eq], fun Y => ((h.perm Y).cons b).trans List.perm_middle.symm⟩
section
variable {S : List Nat} {w0 w : World} {L0 : List Blk} {D : Dat} {g : Nat} {d : Dv} {q : Dp} {f : FuncId} {args : Array Value} {v : Value} {K : Ending → World → Prop} {C : List Blk → List Blk}
theorem callO {d' : Dv} [c : Ctx L0 (devL g d q) C] (hc : ∀ F wx, DevW D F wx g d → Calls Tryz.prog f args wx (DevRet v D F wx g d')) (h : Sx S w0 w L0 D []) (m : DevMem D d q)
    (hk : ∀ w' q', Sx S w0 w' (C (devL g d' q')) D [] → DevMem D d' q' → K (.returned v) w') : Calls Tryz.prog f args w K := by
  have h1 : Sx S w0 w (devL g d q ++ C []) D [] := (show Sx S w0 w (C (devL g d q)) D [] from c.eq ▸ h).perm (c.perm _)
  obtain ⟨F', hd, _, _, hs⟩ := h1.closeDev m rfl
  refine callD (hc F' w hd) hs (fun w' F2 hs2 hd2 => ?_)
  obtain ⟨q', m', _, hs3⟩ := hs2.openDev hd2
  exact hk w' q' (hs3.perm (c.perm _).symm) m'
/-- A call that reads a device. -/
theorem callOr [c : Ctx L0 (devL g d q) C] (hc : ∀ F wx, DevW D F wx g d → Calls Tryz.prog f args wx (Ret v wx)) (h : Sx S w0 w L0 D []) (m : DevMem D d q)
    (hk : ∀ w', Sx S w0 w' L0 D [] → K (.returned v) w') : Calls Tryz.prog f args w K := by
  have h1 : Sx S w0 w (devL g d q ++ C []) D [] := (show Sx S w0 w (C (devL g d q)) D [] from c.eq ▸ h).perm (c.perm _)
  obtain ⟨F', hd, _, _, hs⟩ := h1.closeDev m rfl
  exact callB (hc F' w hd) h hk
/-- What is known of the device, where its blocks stand. -/
theorem Sx.devW [c : Ctx L0 (devL g d q) C] (h : Sx S w0 w L0 D []) (m : DevMem D d q) : ∃ F, DevW D F w g d := by
  have h1 : Sx S w0 w (devL g d q ++ C []) D [] := (show Sx S w0 w (C (devL g d q)) D [] from c.eq ▸ h).perm (c.perm _)
  obtain ⟨F', hd, _⟩ := h1.closeDev m rfl
  exact ⟨F', hd⟩
/-- The end of a call that turned a device. -/
theorem Sx.devRet {F : List Nat} {d' : Dv} {e : Ending} (h : Sx F w0 w (devL g d' q) D []) (m : DevMem D d' q) (he : e = .returned v) : DevRet v D F w0 g d' e w := by
  obtain ⟨F', hd, hs, hF, _⟩ := Sx.closeDev (L := []) (by rw [List.append_nil]; exact h) m rfl
  exact ⟨he, F', hd, hs, hF⟩
end
end Go.Proofs.YtigihgbgdillpaaGreatDoor
namespace Go.Proofs.YtigihgbgdillpaaGreatDoor
open Go.RowKit

theorem freeGo_wf : ∀ (l : List Int) (i : Nat) (f : Int) (out : List Rn), i + l.length ≤ 1000000000 → -1 ≤ f ∧ f ≤ i → (∀ r ∈ out, r.Wf) → ∀ r ∈ freeGo i f l out, r.Wf
  | [], _, _, _, _, _, h => h
  | s :: l, i, f, out, hl, hf, h => by
    simp only [List.length_cons] at hl
    unfold freeGo
    split
    · exact freeGo_wf l (i + 1) i out (by omega) (by omega) h
    · split
      · refine freeGo_wf l (i + 1) (-1) _ (by omega) (by omega) (fun r hr => ?_)
        rcases List.mem_append.1 hr with hr | hr
        · exact h r hr
        · obtain rfl := List.mem_singleton.1 hr
          exact ⟨⟨by show -9223372036854775808 ≤ f; omega, by show f ≤ _; omega⟩, ⟨by show -9223372036854775808 ≤ (i : Int) - f; omega, by show (i : Int) - f ≤ _; omega⟩⟩
      · exact freeGo_wf l (i + 1) f out (by omega) (by omega) h
theorem rFree_wf {l : List Int} (h : l.length ≤ 100000000) : ∀ r ∈ rFree l, r.Wf := freeGo_wf _ _ _ _ (by rw [List.length_append, List.length_singleton]; omega) (by omega) (by simp)
theorem freeGo_len : ∀ (l : List Int) (i : Nat) (f : Int) (out : List Rn), (freeGo i f l out).length ≤ out.length + l.length
  | [], _, _, out => by simp [freeGo]
  | s :: l, i, f, out => by
    unfold freeGo
    split
    · have := freeGo_len l (i + 1) i out; rw [List.length_cons]; omega
    · split
      · have := freeGo_len l (i + 1) (-1) (out ++ [⟨f, i - f⟩]); rw [List.length_append, List.length_singleton] at this; rw [List.length_cons]; omega
      · have := freeGo_len l (i + 1) f out; rw [List.length_cons]; omega
def placeF (d : Dv) (n : Int) : Int × Bool := if n < 1 then (0, false) else ((rTake (rFree (dStates d)) n).1.s, (rTake (rFree (dStates d)) n).2)
section
variable {D : Dat} {F : List Nat} {w : World} {g : Nat} {d : Dv}
set_option maxHeartbeats 1000000 in
theorem place_calls (h : DevW D F w g d) (n : Int) (hn : I64 n) : Calls Tryz.prog 15 #[.pointer (some ⟨g, 0, none⟩), .int .i64 n] w (Ret (.tuple #[.int .i64 (placeF d n).1, .bool (placeF d n).2]) w) := by
  have hst := Sx.start0 w h.data
  by_cases h1 : n < 1
  · have HP := Lib.hid (show placeF d n = (0, false) by unfold placeF; rw [if_pos h1])
    go_enter Tryz.func15, Tryz.ntmps15
    go_wp2_with fail
    go_ret2
    exact ⟨by rw [HP.out]; rfl, hst.end⟩
  · have HP := Lib.hid (show placeF d n = ((rTake (rFree (dStates d)) n).1.s, (rTake (rFree (dStates d)) n).2) by unfold placeF; rw [if_neg h1])
    have hmax := h.ok.max
    have hdl : (dStates d).length = d.now.length := by unfold dStates; rw [List.length_map]
    have hfl : (rFree (dStates d)).length ≤ 1000 := by have := freeGo_len (dStates d ++ [1]) 0 (-1) []; rw [List.length_append, List.length_singleton] at this; unfold rFree; simp only [List.length_nil] at this; omega
    have hwf := rFree_wf (l := dStates d) (by omega)
    have HS := Lib.hid (fun wx (hb : Below w.heap.size w wx) => dstates_calls (h.below hb))
    obtain ⟨ss, hss⟩ : ∃ x, dStates d = x := ⟨_, rfl⟩
    rw [hss] at hdl hfl hwf HP HS
    have hsl : ss.length ≤ 512 := by omega
    clear hdl hmax
    obtain ⟨fr, hfr⟩ : ∃ x, rFree ss = x := ⟨_, rfl⟩
    rw [hfr] at hfl hwf HP
    obtain ⟨rq, hrq⟩ : ∃ x, rTake fr n = x := ⟨_, rfl⟩
    rw [hrq] at HP
    go_enter Tryz.func15, Tryz.ntmps15
    go_wp2_with fail
    refine (HS.out _ hst.end).mono ?_
    rintro e w2 ⟨v, Lo, rfl, hown, hs2⟩
    have hst := (hst.take hs2).lay
    obtain ⟨p1, c1, rfl, hrow⟩ := hown.row (by omega) (D := fun p => D p ∨ p ∈ Lo) (fun p hp => Or.inr hp)
    go_wp2_with fail
    refine (free_calls hrow (by omega) _ hst.data).mono ?_
    rintro e w3 ⟨v2, Lo2, rfl, hown2, hs3⟩
    rw [hfr] at hown2
    have hst := (hst.take hs3).lay
    obtain ⟨p2, c2, rfl, hrow2⟩ := hown2.row (by omega) (D := fun p => (D p ∨ p ∈ Lo) ∨ p ∈ Lo2) (fun p hp => Or.inr hp)
    go_wp2_with fail
    refine (rtake_calls hrow2 n hn hwf _ hst.data).mono ?_
    rintro e w4 ⟨v3, rfl, hb⟩
    have hst := hst.below hb
    rw [hrq]
    obtain ⟨⟨qs, qc⟩, qb⟩ := rq
    simp only
    go_wp2_with (with_reducible first|refine x1 rfl rfl rfl hst ?_|(refine xsa rfl rfl rfl rfl hst ?_;clear hst;intro w' hst)|(refine xnw rfl rfl hst ?_;clear hst;intro bn w' hst))
    go_ret2
    exact ⟨by rw [HP.out]; rfl, hst.end⟩
/-! Write -/
def cwGo (start : Int) (last : Nat) : Nat → List ByteArray → Dv → Dv × Int
  | _, [], d => dFlush d
  | i, b :: bs, d =>
    if (if i = last then dFlush d else (d, 0)).2 ≠ 0 then (if i = last then dFlush d else (d, 0)) else
    if (dWrite (if i = last then dFlush d else (d, 0)).1 (start + i) b).2 ≠ 0 then dWrite (if i = last then dFlush d else (d, 0)).1 (start + i) b else
    cwGo start last (i + 1) bs (dWrite (if i = last then dFlush d else (d, 0)).1 (start + i) b).1
def cWrite (d : Dv) (start count : Int) (l : List ByteArray) : Dv × Int := if l.length = 0 ∨ count ≠ l.length then (d, 2) else cwGo start (l.length - 1) 0 l d
theorem dFails_acts (d : Dv) : (dFails d).1.acts = d.acts := by unfold dFails; split <;> rfl
theorem dCrash_acts (d : Dv) (k : List Int) : (dCrash d k).1.acts.length ≤ d.acts.length := by unfold dCrash; split <;> simp
theorem dFlush_acts (d : Dv) : (dFlush d).1.acts.length ≤ d.acts.length := by
  unfold dFlush
  split
  · exact Nat.le_refl _
  · simp only
    split
    · exact Nat.le_trans (dCrash_acts _ _) (by rw [dFails_acts]; exact Nat.le_refl _)
    · simp
theorem dDo_acts (d : Dv) (x : Ac) : (dDo d x).1.acts.length ≤ d.acts.length + 1 := by
  unfold dDo
  simp only
  have h : (dPut (dFails d).1 x).acts.length = d.acts.length + 1 := by unfold dPut; simp [dFails_acts]
  split
  · exact Nat.le_trans (dCrash_acts _ _) (by omega)
  · simp only; omega
theorem dWrite_acts (d : Dv) (i : Int) (s : ByteArray) : (dWrite d i s).1.acts.length ≤ d.acts.length + 1 := by
  unfold dWrite
  split
  · exact Nat.le_succ _
  · split
    · exact Nat.le_succ _
    · split
      · exact Nat.le_succ _
      · split
        · exact Nat.le_succ _
        · exact dDo_acts _ _
set_option maxHeartbeats 4000000 in
theorem cwrite_calls (h : DevW D F w g d) {start count : Int} {pb : Option Addr} {cb : Nat} {pe : Option Addr} {ne ce : Nat} {sl : Sl} {l : List ByteArray} (hr : RowAt D 9 1 strL pb cb l) (hs : ∀ s ∈ l, s.size ≤ 100000) (hst0 : 0 ≤ start ∧ start ≤ 1000000) (hl : l.length ≤ 100000) (hal : d.acts.length + l.length < 1000000) :
    Calls Tryz.prog 17 #[.pointer (some ⟨g, 0, none⟩), .agg (plC ⟨start, count, pb, l.length, cb, pe, ne, ce, sl⟩)] w (DevRet (.int .i64 (cWrite d start count l).2) D F w g (cWrite d start count l).1) := by
  obtain ⟨q, m, _, hst⟩ := h.open h.lt
  clear h
  obtain ⟨R, hR⟩ : ∃ R, cWrite d start count l = R := ⟨_, rfl⟩
  rw [hR]
  have HR0 : ∀ {u : Dv × Int}, R = u → Ending.returned (.int .i64 u.2) = .returned (.int .i64 R.2) := fun e => by rw [e]
  by_cases hz : l.length = 0
  · have HR : Hid (R = (d, 2)) := Lib.hid (by rw [← hR]; unfold cWrite; rw [if_pos (Or.inl hz)])
    clear hR
    go_enter Tryz.func17, Tryz.ntmps17
    go_wp2_with (first | (with_reducible (refine xval rfl 15 rfl (.bool true) (fun w => Fx.e_lss rfl rfl rfl (decide_eq_true (by omega)) w) ?_)) | (with_reducible first|refine x1 rfl rfl rfl hst ?_|(refine xba rfl rfl hst rfl ?_;clear hst;intro bb w' hst)))
    go_ret
    rw [HR.out]
    exact hst.drop.devRet m rfl
  by_cases hz2 : count ≠ l.length
  · have HR : Hid (R = (d, 2)) := Lib.hid (by rw [← hR]; unfold cWrite; rw [if_pos (Or.inr hz2)])
    clear hR
    have hd1 := decide_eq_true hz2
    go_enter Tryz.func17, Tryz.ntmps17
    go_wp2_with (first | (with_reducible (refine xval rfl 15 rfl (.bool false) (fun w => Fx.e_lss rfl rfl rfl (decide_eq_false (by omega)) w) ?_)) | (with_reducible (refine xval rfl 23 rfl (.bool true) (fun w => Fx.e_neq rfl rfl rfl hd1 w) ?_)) | (with_reducible first|refine x1 rfl rfl rfl hst ?_|(refine xba rfl rfl hst rfl ?_;clear hst;intro bb w' hst)))
    go_ret
    rw [HR.out]
    exact hst.drop.devRet m rfl
  have hct : count = l.length := by simpa using hz2
  subst hct
  have HC0 : Hid (cwGo start (l.length - 1) 0 (l.drop 0) d = R) := Lib.hid (by rw [← hR]; unfold cWrite; rw [if_neg (by simp [hz])]; rfl)
  clear hR
  go_enter Tryz.func17, Tryz.ntmps17
  go_wp2_with (first | (with_reducible (refine xval rfl 15 rfl (.bool false) (fun w => Fx.e_lss rfl rfl rfl (decide_eq_false (by omega)) w) ?_)) | (with_reducible (refine xval rfl 23 rfl (.bool false) (fun w => Fx.e_neq rfl rfl rfl (decide_eq_false (by simp)) w) ?_)) | (with_reducible first|refine x1 rfl rfl rfl hst ?_|(refine xba rfl rfl hst rfl ?_;clear hst;intro bb w' hst)))
  obtain ⟨b3, rfl⟩ : ∃ b, b = bb := ⟨_, rfl⟩
  go_loopw [28] (fun iv wr => ∃ (k : Nat) (d' : Dv) (q : Dp), k ≤ l.length ∧ iv = .int .i64 k ∧ Hid (cwGo start (l.length - 1) k (l.drop k) d' = R) ∧ Hid (d'.acts.length + (l.length - k) < 1000000) ∧ DevMem D d' q ∧ Sx F w wr ((b3, plC ⟨start, l.length, pb, l.length, cb, pe, ne, ce, sl⟩, 51) :: devL g d' q) D []) (fun iv _ => l.length - (intOf iv).toNat)
  case atStart => exact ⟨0, d, q, Nat.zero_le _, by go_num, HC0, Lib.hid (by omega), m, hst⟩
  case round =>
    clear hst HC0 m
    obtain ⟨k, d', q, hk, rfl, HC, HA, m, hst⟩ := hrel
    by_cases hlt : k < l.length
    · obtain ⟨g2, off, rfl⟩ := hr.at_some hlt
      have hld := hr.ld1 hlt rfl
      have hxs := hs _ (List.getElem_mem hlt)
      rw [List.drop_eq_getElem_cons hlt] at HC
      generalize l[k] = x at *
      obtain ⟨f, hf⟩ : ∃ f, (if k = l.length - 1 then dFlush d' else (d', 0)) = f := ⟨_, rfl⟩
      have hfa : f.1.acts.length ≤ d'.acts.length := by
        rw [← hf]
        split
        · exact dFlush_acts d'
        · exact Nat.le_refl _
      have hHC : (if f.2 ≠ 0 then f else if (dWrite f.1 (start + k) x).2 ≠ 0 then dWrite f.1 (start + k) x else cwGo start (l.length - 1) (k + 1) (l.drop (k + 1)) (dWrite f.1 (start + k) x).1) = R := by
        have := HC.out
        simp only [cwGo, hf] at this
        exact this
      obtain ⟨r, hrw⟩ : ∃ r, dWrite f.1 (start + k) x = r := ⟨_, rfl⟩
      have hra : r.1.acts.length ≤ f.1.acts.length + 1 := by rw [← hrw]; exact dWrite_acts ..
      have HWr := Lib.hid (fun F wx (hd : DevW D F wx g f.1) => dwrite_calls hd (start + k) x hxs (by have := HA.out; omega))
      rw [hrw] at HWr hHC
      have HHC := Lib.hid hHC
      clear hHC hrw HC
      obtain ⟨d2, e2⟩ := f
      obtain ⟨d3, e3⟩ := r
      simp only at hfa hra HWr HHC
      by_cases hla : k = l.length - 1
      · rw [if_pos hla] at hf
        have HFl := Lib.hid (fun F wx (hd : DevW D F wx g d') => dflush_calls hd)
        rw [hf] at HFl
        have HKI := Lib.hid (decide_eq_true (show (k : Int) = (l.length : Int) - 1 by omega))
        clear hf hla
        by_cases he2 : e2 = 0
        · subst he2
          by_cases he3 : e3 = 0
          · subst he3
            have HN : Hid (cwGo start (l.length - 1) (k + 1) (l.drop (k + 1)) d3 = R) := Lib.hid (by have := HHC.out; simpa using this)
            go_wp2_with (first | (with_reducible (refine xval rfl 35 rfl (.bool true) (fun w => Fx.e_eql rfl rfl rfl HKI.out w) ?_)) | (with_reducible first|refine x1 rfl rfl rfl hst ?_|refine xd rfl rfl rfl hst ?_) | (with_reducible (refine callO (HFl.out) hst m ?_; clear hst m; intro w5 q5 hst m)) | (with_reducible (refine callO (HWr.out) hst m ?_; clear hst m; intro w5 q5 hst m)))
            go_roundw
            case rel => exact ⟨k + 1, d3, _, by omega, by go_num, HN, Lib.hid (by have := HA.out; omega), m, hst⟩
            case measure => simp [intOf]; omega
          · have HR : Hid (R = (d3, e3)) := Lib.hid (by have := HHC.out; simp [he3] at this; exact this.symm)
            go_wp2_with (first | (with_reducible (refine xval rfl 35 rfl (.bool true) (fun w => Fx.e_eql rfl rfl rfl HKI.out w) ?_)) | (with_reducible first|refine x1 rfl rfl rfl hst ?_|refine xd rfl rfl rfl hst ?_) | (with_reducible (refine callO (HFl.out) hst m ?_; clear hst m; intro w5 q5 hst m)) | (with_reducible (refine callO (HWr.out) hst m ?_; clear hst m; intro w5 q5 hst m)))
            go_ret
            rw [HR.out]
            exact hst.drop.devRet m rfl
        · have HR : Hid (R = (d2, e2)) := Lib.hid (by have := HHC.out; simp [he2] at this; exact this.symm)
          go_wp2_with (first | (with_reducible (refine xval rfl 35 rfl (.bool true) (fun w => Fx.e_eql rfl rfl rfl HKI.out w) ?_)) | (with_reducible refine xd rfl rfl rfl hst ?_) | (with_reducible (refine callO (HFl.out) hst m ?_; clear hst m; intro w5 q5 hst m)) | (with_reducible (refine callO (HWr.out) hst m ?_; clear hst m; intro w5 q5 hst m)))
          go_ret
          rw [HR.out]
          exact hst.drop.devRet m rfl
      · rw [if_neg hla] at hf
        injection hf with hf1 hf2
        subst hf1 hf2
        have HKI := Lib.hid (decide_eq_false (show ¬ (k : Int) = (l.length : Int) - 1 by omega))
        clear hla
        by_cases he3 : e3 = 0
        · subst he3
          have HN : Hid (cwGo start (l.length - 1) (k + 1) (l.drop (k + 1)) d3 = R) := Lib.hid (by have := HHC.out; simpa using this)
          go_wp2_with (first | (with_reducible (refine xval rfl 35 rfl (.bool false) (fun w => Fx.e_eql rfl rfl rfl HKI.out w) ?_)) | (with_reducible first|refine x1 rfl rfl rfl hst ?_|refine xd rfl rfl rfl hst ?_) | (with_reducible (refine callO (HWr.out) hst m ?_; clear hst m; intro w5 q5 hst m)))
          go_roundw
          case rel => exact ⟨k + 1, d3, _, by omega, by go_num, HN, Lib.hid (by have := HA.out; omega), m, hst⟩
          case measure => simp [intOf]; omega
        · have HR : Hid (R = (d3, e3)) := Lib.hid (by have := HHC.out; simp [he3] at this; exact this.symm)
          go_wp2_with (first | (with_reducible (refine xval rfl 35 rfl (.bool false) (fun w => Fx.e_eql rfl rfl rfl HKI.out w) ?_)) | (with_reducible first|refine x1 rfl rfl rfl hst ?_|refine xd rfl rfl rfl hst ?_) | (with_reducible (refine callO (HWr.out) hst m ?_; clear hst m; intro w5 q5 hst m)))
          go_ret
          rw [HR.out]
          exact hst.drop.devRet m rfl
    · obtain rfl : k = l.length := by omega
      have HFl := Lib.hid (fun F wx (hd : DevW D F wx g d') => dflush_calls hd)
      have HR : Hid (dFlush d' = R) := Lib.hid (by have := HC.out; rw [List.drop_length] at this; exact this)
      rw [HR.out] at HFl
      go_wp2_with (first | fail | (with_reducible (refine callO (HFl.out) hst m ?_; clear hst m; intro w5 q5 hst m)))
      go_ret
      exact hst.drop.devRet m rfl
end
end Go.Proofs.YtigihgbgdillpaaGreatDoor
