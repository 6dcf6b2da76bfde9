/- The contract of sealingwaxlaw21.Commits · The walk of MountsDown: it returns true. -/
import Derived.Test.YtigihgbgdillpaaGreatDoorP47
set_option linter.unusedVariables false
set_option linter.unusedSimpArgs false
set_option maxRecDepth 100000
namespace Go.Proofs.YtigihgbgdillpaaGreatDoor
open Go.RowKit

/-- A commit. -/
structure Cm where
  start : Int
  count : Int
  blocks : List ByteArray
  ents : List Ent
  sl : Sl
def lastS (l : List Cm) : Option Sl := l.getLast?.map (·.sl)
def comAt (d : Dv) (l : List Pu) : Int := (placeF d (needF l).1).1
def comNo (d : Dv) (last : Option Sl) (i : Nat) (l : List Pu) : Bool := decide ((needF l).2 ≠ 0) || !(placeF d (needF l).1).2 || decide (makeErr last i l (comAt d l) ≠ 0)
def comC (d : Dv) (last : Option Sl) (i : Nat) (l : List Pu) : Cm := ⟨comAt d l, (needF l).1, makeB last i l (comAt d l), (lay (comAt d l) 0 l).1, mkSl last i l (comAt d l)⟩
def comD (d : Dv) (c : Cm) : Dv := (cWrite d c.start c.count c.blocks).1
def comGo : Nat → List (List Pu) → Dv → List Cm → Dv × List Cm
  | _, [], d, out => (d, out)
  | i, l :: ls, d, out => if comNo d (lastS out) i l then comGo (i + 1) ls d out else comGo (i + 1) ls (comD d (comC d (lastS out) i l)) (out ++ [comC d (lastS out) i l])
def dC : Dv := dvOf (List.replicate 100 b0)
def comF (ls : List (List Pu)) : Dv × List Cm := comGo 0 ls dC []
/-- A plan in memory is a commit. -/
structure PlIs (D : Dat) (p : Pl) (c : Cm) : Prop where
  start : p.start = c.start
  count : p.count = c.count
  sl : p.sl = c.sl
  nb : p.nb = c.blocks.length
  blocks : RowAt D 9 1 strL p.pb p.cb c.blocks
  ne : p.ne = c.ents.length
  ents : RowAt D 87 39 entL p.pe p.ce c.ents
  ok : slOk c.sl = true
theorem PlIs.mono {D D' : Dat} {p : Pl} {c : Cm} (h : PlIs D p c) (hs : ∀ p, D p → D' p) : PlIs D' p c := ⟨h.start, h.count, h.sl, h.nb, h.blocks.mono hs, h.ne, h.ents.mono hs, h.ok⟩
def ComPost (D0 : Dat) (w : World) (R : Dv × List Cm) (e : Ending) (w' : World) : Prop :=
  ∃ (g : Nat) (v : Value) (Lo : List Blk) (D : Dat) (q : Dp) (ps : List (Pl × Cm)), e = .returned (.tuple #[.pointer (some ⟨g, 0, none⟩), v]) ∧ OwnR 51 73 plL Lo v (ps.map (·.1)) ∧ (∀ x ∈ ps, PlIs D x.1 x.2) ∧ ps.map (·.2) = R.2 ∧
    (∀ p, D0 p → D p) ∧ Good R.1 ∧ R.1.acts = [] ∧ DevMem D R.1 q ∧ Sx [] w w' (Lo ++ devL g R.1 q) D []
theorem Sx.after {S : List Nat} {w0 w w' : World} {D0 D : Dat} {L : List Blk} (h : Sx S w0 w [] D0 []) (hs : Sx [] w w' L D []) : Sx S w0 w' L D [] := by
  have h1 := h.take hs.st
  rw [List.append_nil] at h1
  exact ⟨h1.st, hs.data, hs.apart, by simp, by simp, by simp, by simp⟩
instance ctxApp {Lo L0 X : List Blk} {C : List Blk → List Blk} [h : Ctx L0 X C] : Ctx (Lo ++ L0) X (fun Y => Lo ++ C Y) := ⟨by rw [← h.eq], fun Y => ((h.perm Y).append_left Lo).trans (by rw [← List.append_assoc, ← List.append_assoc]; exact List.perm_append_comm.append_right _)⟩
theorem run_bspl (p : Pl) (w : World) : (Instr.buildSlice 26 1 #[(0, .agg (plC p))]).run Tryz.prog w = .ok (.slice (some ⟨w.heap.size, 0, none⟩) 1 1) (w.alloc (.cells (plC p) 51)) := by kernel_rfl
instance sltPl : SlT 26 51 := ⟨Tryz.underlying26⟩
/-- The last seal, as the loop takes it. -/
theorem last_at {D : Dat} {Lo : List Blk} {v : Value} {ps : List (Pl × Cm)} (ho : OwnR 51 73 plL Lo v (ps.map (·.1))) (hp : ∀ x ∈ ps, PlIs D x.1 x.2) :
    (ps = [] ∧ ∃ p c, v = .slice p 0 c) ∨ ∃ g c, v = .slice (some ⟨g, 0, none⟩) ps.length c ∧ 0 < ps.length ∧ ∀ (w wr : World) (L : List Blk) (D : Dat), Sx [] w wr (Lo ++ L) D [] → LastAt (snap wr) (.pointer (some ⟨g, (ps.length - 1) * 73 + 4, none⟩)) (lastS (ps.map (·.2))) := by
  rcases ho with ⟨_, ⟨p, rfl⟩, h⟩ | ⟨g, c, C, rfl, rfl, h1, h2, h3, h4⟩
  · exact Or.inl ⟨List.map_eq_nil_iff.1 h, p, 0, rfl⟩
  · by_cases h0 : ps.length = 0
    · have : ps = [] := List.length_eq_zero_iff.1 h0
      subst this
      exact Or.inl ⟨rfl, _, _, rfl⟩
    · have hlt : ps.length - 1 < ps.length := by omega
      have hx := hp _ (List.getElem_mem hlt)
      have hl : lastS (ps.map (·.2)) = some (ps[ps.length - 1]).2.sl := by
        unfold lastS
        rw [List.getLast?_map, List.getLast?_eq_getElem?, List.getElem?_eq_getElem hlt]
        rfl
      have hso := (slOk_iff _).1 hx.ok
      have hin : ps.length - 1 < (ps.map (·.1)).length := by rw [List.length_map]; exact hlt
      refine Or.inr ⟨g, c, by rw [List.length_map], by omega, fun w wr L D hst => ?_⟩
      rw [hl]
      have h512 := hso.2.2.2.2.2.2.2.2.2
      refine LastAt.some (SealAt.of (C := C) (Tb := 51) ⟨_, hst.st.blk _ (by simp)⟩ (fun j v hj => ?_)) (by omega) ⟨by have := hso.1; omega, hso.2.1⟩
      have hj69 : j < 69 := by
        have h5 := (List.getElem?_eq_some_iff.1 hj).1
        rwa [encSl.len] at h5
      have h5 := OwnR.cells (enc := plL) h4 hin (j := 4 + j) (by omega)
      rw [Nat.add_assoc, h5, List.getElem_map, ← hj, ← hx.sl, Nat.add_comm 4 j]
      rfl
theorem makeB_len5 {last : Option Sl} {clock : Int} {l : List Pu} {start : Int} (hl : l.length ≤ 5) (ht : ∀ x ∈ l, x.text.size ≤ 999999) (hb : (mkTx l start).1.length ≤ 1000000) : (makeB last clock l start).length ≤ 100000 := by
  unfold makeB
  have h1 := putBlocks_len (lastN last) l ht
  have h2 := splL_len 68 (lastN last) (mkTx l start).1 hb
  rw [List.length_append, List.length_append, List.length_singleton]
  omega
theorem plC_eq (p : Pl) : plC p = (plL p).toArray := rfl
theorem need_i64 {l : List Pu} (hl : l.length ≤ 1000000) (hw : ∀ x ∈ l, x.e.Wf) (ht : ∀ x ∈ l, x.text.size ≤ 999999) : I64 (needF l).1 := by
  by_cases h : (needF l).2 = 0
  · have := (need_ok h hl hw ht).1
    unfold I64
    omega
  · have h0 : (needF l).1 = 0 := by
      unfold needF at h ⊢
      split
      · rfl
      · rename_i h1
        rw [if_neg h1] at h
        split
        · rfl
        · rename_i h2
          rw [if_neg h2] at h
          exact absurd rfl h
    rw [h0]
    unfold I64
    omega
set_option maxHeartbeats 16000000 in
theorem commits_calls {D0 : Dat} {p : Option Addr} {c : Nat} {l : List Rw} (hr : RowAt D0 43 1 rwL p c l) (hrs : ∀ r ∈ l, RowAt D0 89 40 puL r.p r.c r.l) (h6 : l.length ≤ 6)
    (hw : ∀ r ∈ l, r.l.length ≤ 5 ∧ (∀ x ∈ r.l, x.e.Wf) ∧ ∀ x ∈ r.l, x.text.size ≤ 400) (w : World) (hD : Holds D0 w) (hU : GSums w) (hGB : GBegin w) (hGS : GSha w) :
    Calls Tryz.prog 6 #[.slice p l.length c] w (ComPost D0 w (comF (l.map (·.l)))) := by
  have hst := Sx.start0 w hD
  have HNw := Lib.hid (fun wx hx => dnew_calls (D := D0) 100 (by decide) (by decide) wx hx)
  have HG : Hid (∀ wx, Below w.heap.size w wx → GSums wx ∧ GBegin wx ∧ GSha wx) := Lib.hid (fun wx hb => ⟨hU.below hb, hGB.below hb, hGS.below hb⟩)
  have HR0 : Hid (comGo 0 ((l.map (·.l)).drop 0) dC [] = comF (l.map (·.l))) := Lib.hid rfl
  generalize comF (l.map (·.l)) = R at *
  clear hU hGB hGS
  go_enter Tryz.func6, Tryz.ntmps6
  go_wp2_with fail
  refine (HNw.out _ hst.data).mono ?_
  rintro e w2 ⟨g, F, rfl, hd, hb, hF⟩
  have hst2 := hst
  clear hst
  have hst : Sx [] w w2 [] D0 F := by
    have h1 := hst2.below hb
    exact ⟨h1.st, hd.data, h1.apart, hd.lt, fun x _ p hp => by simp at hp, hd.apart, fun x hx => Or.inr (Nat.le_trans hst2.st.size (hF x hx))⟩
  clear hst2
  obtain ⟨q, m0, hFq, hst1⟩ := hst.openDev hd
  clear hst
  have hst : Sx [] w w2 (devL g dC q ++ []) D0 [] := hst1
  rw [List.append_nil] at hst
  have m : DevMem D0 dC q := m0
  clear hd hb hF HNw hFq m0 hst1
  go_wp2_with fail
  go_loopw [6, 7] (fun ov iv wr => ∃ (k : Nat) (d : Dv) (q : Dp) (Lo : List Blk) (D : Dat) (ps : List (Pl × Cm)), k ≤ l.length ∧ iv = .int .i64 k ∧ Hid (comGo k ((l.map (·.l)).drop k) d (ps.map (·.2)) = R) ∧ Hid (OwnR 51 73 plL Lo ov (ps.map (·.1))) ∧ Hid (∀ x ∈ ps, PlIs D x.1 x.2) ∧ Hid (∀ p, D0 p → D p) ∧ Hid (Good d ∧ d.acts = [] ∧ ps.length ≤ k) ∧ DevMem D d q ∧ Sx [] w wr (Lo ++ devL g d q) D []) (fun _ iv _ => l.length - (intOf iv).toNat)
  case atStart => exact ⟨0, dC, q, [], D0, [], Nat.zero_le _, by go_num, HR0, Lib.hid (OwnR.none none), Lib.hid (by simp), Lib.hid (fun p h => h), Lib.hid ⟨⟨rfl, rfl⟩, rfl, Nat.le_refl _⟩, m, hst⟩
  case round =>
    clear hst HR0 m
    obtain ⟨k, d, q, Lo, D, ps, hk, rfl, HC, HO, HP, HS, HGd, m, hst⟩ := hrel
    by_cases hlt : k < l.length
    · obtain ⟨g0, off, rfl⟩ := hr.at_some hlt
      have hld : LdD D 43 ⟨g0, off + k, none⟩ (.slice l[k].p l[k].l.length l[k].c) := (hr.mono HS.out).ld1 hlt rfl
      have hrx := hrs _ (List.getElem_mem hlt)
      obtain ⟨hx5, hxw, hxt⟩ := hw _ (List.getElem_mem hlt)
      rw [List.drop_eq_getElem_cons (by rw [List.length_map]; exact hlt), List.getElem_map] at HC
      generalize l[k] = x at *
      have hxt9 : ∀ y ∈ x.l, y.text.size ≤ 999999 := fun y hy => Nat.le_trans (hxt y hy) (by decide)
      have hni := need_i64 (l := x.l) (by omega) hxw hxt9
      have HN := Lib.hid (fun wx L' D' (h : Sx [] w wx L' D' []) (hs : ∀ p, D0 p → D' p) => need_calls wx ((hrx.mono hs).mono (fun p hp => h.data p hp)) (by omega) hxt9 hxw (HG.out _ h.end).2.1 (HG.out _ h.end).2.2)
      have HPl := Lib.hid (fun F wx (hd : DevW D F wx g d) => place_calls hd (needF x.l).1 hni)
      have hrng := placeF_rng m.ok (needF x.l).1
      have hat : comAt d x.l = (placeF d (needF x.l).1).1 := rfl
      have HM := Lib.hid (fun lv wx L' D' (h : Sx [] w wx L' D' []) (hs : ∀ p, D0 p → D' p) (hl : LastAt (snap wx) lv (lastS (ps.map (·.2)))) => make_calls (clock := (k : Int)) (start := comAt d x.l) wx hl ((hrx.mono hs).mono (fun p hp => h.data p hp)) (by omega) hxt9 hxw (by rw [hat]; omega) (mkTx_big hx5 hxw) (by omega) (HG.out _ h.end).2.1 (HG.out _ h.end).2.2 (HG.out _ h.end).1)
      have HC2 : (if comNo d (lastS (ps.map (·.2))) k x.l then comGo (k + 1) ((l.map (·.l)).drop (k + 1)) d (ps.map (·.2)) else comGo (k + 1) ((l.map (·.l)).drop (k + 1)) (comD d (comC d (lastS (ps.map (·.2))) k x.l)) (ps.map (·.2) ++ [comC d (lastS (ps.map (·.2))) k x.l])) = R := HC.out
      have HNo : comNo d (lastS (ps.map (·.2))) k x.l = true → Hid (comGo (k + 1) ((l.map (·.l)).drop (k + 1)) d (ps.map (·.2)) = R) := fun h => Lib.hid (by rw [if_pos h] at HC2; exact HC2)
      have HYes : comNo d (lastS (ps.map (·.2))) k x.l = false → Hid (comGo (k + 1) ((l.map (·.l)).drop (k + 1)) (comD d (comC d (lastS (ps.map (·.2))) k x.l)) (ps.map (·.2) ++ [comC d (lastS (ps.map (·.2))) k x.l]) = R) := fun h => Lib.hid (by rw [if_neg (by simp [h])] at HC2; exact HC2)
      have HCw : makeErr (lastS (ps.map (·.2))) k x.l (comAt d x.l) = 0 → (placeF d (needF x.l).1).2 = true → Hid ((∀ b ∈ makeB (lastS (ps.map (·.2))) k x.l (comAt d x.l), b.size = 128) ∧ (needF x.l).1 = (makeB (lastS (ps.map (·.2))) k x.l (comAt d x.l)).length ∧ (cWrite d (comAt d x.l) (needF x.l).1 (makeB (lastS (ps.map (·.2))) k x.l (comAt d x.l))).2 = 0 ∧ Good (comD d (comC d (lastS (ps.map (·.2))) k x.l)) ∧ (comD d (comC d (lastS (ps.map (·.2))) k x.l)).acts = [] ∧ slOk (mkSl (lastS (ps.map (·.2))) k x.l (comAt d x.l)) = true ∧ (makeB (lastS (ps.map (·.2))) k x.l (comAt d x.l)).length ≤ 100000) := fun h hp => Lib.hid (by
        have h1 := make_good h hxt9 (mkTx_big hx5 hxw)
        have h2 := cWrite_good HGd.out.1 hp h1.1 h1.2
        exact ⟨h1.2, h1.1, h2.1, h2.2.1, h2.2.2, (make_parts h).2.2, makeB_len5 hx5 hxt9 (mkTx_big hx5 hxw)⟩)
      have hxl5 := Lib.hid hx5
      clear HC HC2 hni hxw hxt hxt9 hx5
      have hnod : comNo d (lastS (ps.map (·.2))) k x.l = (decide ((needF x.l).2 ≠ 0) || !(placeF d (needF x.l).1).2 || decide (makeErr (lastS (ps.map (·.2))) k x.l (comAt d x.l) ≠ 0)) := rfl
      rw [hat] at hnod HM HCw
      obtain ⟨N, hN⟩ : ∃ N, needF x.l = N := ⟨_, rfl⟩
      rw [hN] at HPl hrng hnod HCw HN HM
      obtain ⟨P, hP⟩ : ∃ P, placeF d N.1 = P := ⟨_, rfl⟩
      rw [hP] at HPl hrng hnod HCw HM
      obtain ⟨n, f⟩ := N
      obtain ⟨at_, ok⟩ := P
      simp only at HPl hrng hnod HCw HN HM
      have hcd : (comC d (lastS (ps.map (·.2))) k x.l) = ⟨at_, n, makeB (lastS (ps.map (·.2))) k x.l at_, (lay at_ 0 x.l).1, mkSl (lastS (ps.map (·.2))) k x.l at_⟩ := by
        have h1 : comAt d x.l = at_ := by rw [hat, hN]; simp only; rw [hP]
        unfold comC
        rw [h1, hN]
      obtain ⟨E, hE⟩ : ∃ E, makeErr (lastS (ps.map (·.2))) k x.l at_ = E := ⟨_, rfl⟩
      rw [hE] at hnod HCw
      have HQ : (decide (f ≠ 0) = true ∧ Hid (comGo (k + 1) ((l.map (·.l)).drop (k + 1)) d (ps.map (·.2)) = R)) ∨ (f = 0 ∧ ok = false ∧ Hid (comGo (k + 1) ((l.map (·.l)).drop (k + 1)) d (ps.map (·.2)) = R)) ∨ (f = 0 ∧ ok = true ∧ decide (E ≠ 0) = true ∧ Hid (comGo (k + 1) ((l.map (·.l)).drop (k + 1)) d (ps.map (·.2)) = R)) ∨ (f = 0 ∧ ok = true ∧ E = 0) := by
        by_cases h1 : f = 0
        · cases ok with
          | false => exact Or.inr (Or.inl ⟨h1, rfl, HNo (by rw [hnod]; simp)⟩)
          | true =>
            by_cases h2 : E = 0
            · exact Or.inr (Or.inr (Or.inr ⟨h1, rfl, h2⟩))
            · exact Or.inr (Or.inr (Or.inl ⟨h1, rfl, by simpa using h2, HNo (by rw [hnod]; simp [h2])⟩))
        · exact Or.inl ⟨by simpa using h1, HNo (by rw [hnod]; simp [h1])⟩
      have HYes2 : f = 0 → ok = true → E = 0 → Hid (comGo (k + 1) ((l.map (·.l)).drop (k + 1)) (comD d (comC d (lastS (ps.map (·.2))) k x.l)) (ps.map (·.2) ++ [comC d (lastS (ps.map (·.2))) k x.l]) = R) := fun h1 h2 h3 => HYes (by rw [hnod, h1, h2, h3]; rfl)
      clear HNo HYes hnod hat hrx
      replace hN := Lib.hid hN
      replace hP := Lib.hid hP
      replace hE := Lib.hid hE
      replace hcd := Lib.hid hcd
      replace HQ := Lib.hid HQ
      replace HCw := Lib.hid HCw
      replace HYes2 := Lib.hid HYes2
      have HL := last_at HO.out HP.out
      clear hr hrs hw
      obtain ⟨cms, hcms⟩ : ∃ cms, ps.map (·.2) = cms := ⟨_, rfl⟩
      rw [hcms] at HQ HCw HYes2 hcd hE HM HL
      replace hcms := Lib.hid hcms
      rcases HL with ⟨h0, p0, c0, rfl⟩ | ⟨gb, cb, rfl, hpos, HLA⟩
      case' inl =>
        have HLA : Hid (∀ (w wr : World) (L : List Blk) (D : Dat), Sx [] w wr (Lo ++ L) D [] → LastAt (snap wr) (.pointer none) (lastS cms)) := Lib.hid (fun _ _ _ _ _ => by rw [← hcms.out, h0]; exact LastAt.none)
        clear h0
        go_wp2_with (first | (with_reducible (refine xval rfl 31 rfl (.bool false) (fun w => Fx.e_gtr rfl rfl rfl (by decide) w) ?_)) | (with_reducible refine xd rfl rfl rfl hst ?_))
      case' inr =>
        replace HLA := Lib.hid HLA
        have hps := HGd.out.2.2
        have hpc := Lib.hid (show ((ps.length : Int) - 1) = ((ps.length - 1 : Nat) : Int) by omega)
        go_wp2_with (first | (with_reducible (refine xval rfl 31 rfl (.bool true) (fun w => Fx.e_gtr rfl rfl rfl (decide_eq_true (by omega)) w) ?_)) | (with_reducible (refine xval rfl 34 rfl (.int .i64 ((ps.length - 1 : Nat) : Int)) (fun w => by rw [← hpc.out]; exact Fx.e_sub rfl rfl rfl (by omega) w) ?_)) | (with_reducible refine xd rfl rfl rfl hst ?_))
        clear hpc hpos hps
      all_goals
        have hkl := Lib.hid hlt
        rcases HQ.out with ⟨hf, HC2⟩ | ⟨hf, hok, HC2⟩ | ⟨hf, hok, hen, HC2⟩ | ⟨hf, hok, he⟩
        · replace hf := Lib.hid hf
          go_wp2_with (first | (with_reducible (refine xval rfl 52 rfl (.bool true) (fun w => Fx.e_neq rfl rfl rfl hf.out w) ?_)) | (with_reducible (refine callB (HN.out _ _ _ hst HS.out) hst ?_; clear hst; intro w' hst)) | (with_reducible (refine callOr (fun F wx hd => HPl.out F wx hd) hst m ?_; clear hst; intro w' hst)) | fail)
          go_roundw
          case rel => exact ⟨k + 1, d, q, Lo, D, ps, by omega, by go_num, Lib.hid (by rw [hcms.out]; exact HC2.out), HO, HP, HS, Lib.hid ⟨HGd.out.1, HGd.out.2.1, by have := HGd.out.2.2; omega⟩, m, hst⟩
          case measure => simp [intOf]; omega

        · subst hf hok
          go_wp2_with (first | (with_reducible (refine xval rfl 52 rfl (.bool false) (fun w => Fx.e_neq rfl rfl rfl (by decide) w) ?_)) | (with_reducible (refine callB (HN.out _ _ _ hst HS.out) hst ?_; clear hst; intro w' hst)) | (with_reducible (refine callOr (fun F wx hd => HPl.out F wx hd) hst m ?_; clear hst; intro w' hst)) | fail)
          go_roundw
          case rel => exact ⟨k + 1, d, q, Lo, D, ps, by omega, by go_num, Lib.hid (by rw [hcms.out]; exact HC2.out), HO, HP, HS, Lib.hid ⟨HGd.out.1, HGd.out.2.1, by have := HGd.out.2.2; omega⟩, m, hst⟩
          case measure => simp [intOf]; omega

        · subst hf hok
          replace hen := Lib.hid hen
          go_wp2_with (first | (with_reducible (refine xval rfl 52 rfl (.bool false) (fun w => Fx.e_neq rfl rfl rfl (by decide) w) ?_)) | (with_reducible (refine callB (HN.out _ _ _ hst HS.out) hst ?_; clear hst; intro w' hst)) | (with_reducible (refine callOr (fun F wx hd => HPl.out F wx hd) hst m ?_; clear hst; intro w' hst)) | (with_reducible refine xd rfl rfl rfl hst ?_))
          refine (HM.out _ _ _ _ hst HS.out (HLA.out _ _ _ _ hst)).mono ?_
          rintro e w5 ⟨p, LoB, LoE, rfl, hs5, hpost⟩
          rw [hE.out]
          clear hpost
          replace hst := hst.take hs5
          clear hs5
          go_wp2_with (first | (with_reducible (refine xval rfl 69 rfl (.bool true) (fun w => Fx.e_neq rfl rfl rfl hen.out w) ?_)) | (with_reducible first|(refine xsa rfl rfl rfl rfl hst ?_;clear hst;intro w' hst)|(refine xnw rfl rfl hst ?_;clear hst;intro bn w' hst)))
          go_roundw
          case rel => exact ⟨k + 1, d, q, Lo, D, ps, by omega, by go_num, Lib.hid (by rw [hcms.out]; exact HC2.out), HO, HP, HS, Lib.hid ⟨HGd.out.1, HGd.out.2.1, by have := HGd.out.2.2; omega⟩, m, (hst.drop).dropL⟩
          case measure => simp [intOf]; omega

        · subst hf hok he
          have HW0 := HCw.out rfl rfl
          have HC2 := HYes2.out rfl rfl rfl
          go_wp2_with (first | (with_reducible (refine xval rfl 52 rfl (.bool false) (fun w => Fx.e_neq rfl rfl rfl (by decide) w) ?_)) | (with_reducible (refine callB (HN.out _ _ _ hst HS.out) hst ?_; clear hst; intro w' hst)) | (with_reducible (refine callOr (fun F wx hd => HPl.out F wx hd) hst m ?_; clear hst; intro w' hst)) | (with_reducible refine xd rfl rfl rfl hst ?_))
          refine (HM.out _ _ _ _ hst HS.out (HLA.out _ _ _ _ hst)).mono ?_
          rintro e w5 ⟨p, LoB, LoE, rfl, hs5, hpost⟩
          rw [hE.out] at hpost ⊢
          replace hst := (hst.take hs5).lay
          obtain ⟨st, ct, pb, nb, cb', pe, ne, ce, sl⟩ := p
          obtain ⟨r1, r2, r3, hown, hents⟩ := hpost rfl
          simp only at r1 r2 r3 hown hents
          subst r1 r3
          rw [hN.out] at r2
          simp only at r2
          subst r2
          clear hpost HQ HCw HYes2 HM HN HPl HLA
          obtain ⟨D', hD'⟩ : ∃ D' : Dat, (fun p => D p ∨ p ∈ LoB ++ LoE) = D' := ⟨_, rfl⟩
          rw [hD'] at hst
          have hDD : ∀ p, D p → D' p := fun p hp => by rw [← hD']; exact Or.inl hp
          have hDB : ∀ p ∈ LoB, D' p := fun p hp => by rw [← hD']; exact Or.inr (List.mem_append_left _ hp)
          have hDE : ∀ p ∈ LoE, D' p := fun p hp => by rw [← hD']; exact Or.inr (List.mem_append_right _ hp)
          clear hD'
          replace m := m.mono hDD
          obtain ⟨hsz, hnl, hw0, hgd, hac, hok0, hlb⟩ := HW0
          have hnb : nb = (makeB (lastS cms) k x.l st).length := by
            obtain ⟨_, _, h1⟩ := hown.slice
            injection h1
          have hne : ne = (lay st 0 x.l).1.length := by
            obtain ⟨_, _, h1⟩ := hents.slice
            injection h1
          subst hnb hne
          have rowB := hown.rowAt (Nat.le_trans hlb (by decide)) hDB
          have rowE := hents.rowAt (by rw [lay_len]; have := hxl5.out; omega) hDE
          clear hown hents hDB hDE
          have HWr := Lib.hid (fun F wx (hd : DevW D' F wx g d) => (show Calls Tryz.prog 17 #[.pointer (some ⟨g, 0, none⟩), .agg (plL ⟨st, ct, pb, (makeB (lastS cms) k x.l st).length, cb', pe, (lay st 0 x.l).1.length, ce, mkSl (lastS cms) k x.l st⟩).toArray] wx (DevRet (.int .i64 0) D' F wx g (comD d (comC d (lastS cms) k x.l))) by
            have h1 := cwrite_calls (start := st) (count := ct) (pe := pe) (ne := (lay st 0 x.l).1.length) (ce := ce) (sl := mkSl (lastS cms) k x.l st) hd rowB (fun s hs => by rw [hsz s hs]; decide) ⟨hrng.1, by have := hrng.2; omega⟩ hlb (by rw [HGd.out.2.1]; simp only [List.length_nil]; omega)
            rw [hw0] at h1
            have h2 : (cWrite d st ct (makeB (lastS cms) k x.l st)).1 = comD d (comC d (lastS cms) k x.l) := by rw [hcd.out]; rfl
            rw [h2] at h1
            exact h1))
          have HPi : Hid (PlIs D' ⟨st, ct, pb, (makeB (lastS cms) k x.l st).length, cb', pe, (lay st 0 x.l).1.length, ce, mkSl (lastS cms) k x.l st⟩ (comC d (lastS cms) k x.l)) := Lib.hid (by rw [hcd.out]; exact ⟨rfl, rfl, rfl, rfl, rowB, rfl, rowE, hok0⟩)
          clear rowB rowE hsz hnl hw0 hok0 hlb
          replace HP := Lib.hid (fun y hy => (HP.out y hy).mono hDD)
          replace HS := Lib.hid (fun p hp => hDD p (HS.out p hp))
          clear hDD
          have hpl : (ps.map (·.1)).length + 1 ≤ 1000000000 := by rw [List.length_map]; have := HGd.out.2.2; omega
          generalize comC d (lastS cms) k x.l = cc at *
          generalize hpp : (⟨st, ct, pb, (makeB (lastS cms) k x.l st).length, cb', pe, (lay st 0 x.l).1.length, ce, mkSl (lastS cms) k x.l st⟩ : Pl) = pp at *
          have hlq := HGd.out.2.2
          clear hpp HGd
          go_wp2_with (first | (with_reducible first|refine xa rfl rfl rfl hst ?_|(refine xsa rfl rfl rfl rfl hst ?_;clear hst;intro w' hst)|(refine xnw rfl rfl hst ?_;clear hst;intro bn w' hst)) | (with_reducible (refine callO (fun F wx hd => HWr.out F wx hd) hst m ?_; clear hst m; intro w7 q7 hst m)) | (with_reducible refine xmk rfl 76 rfl hst (plL pp).toArray 51 (fun b => .slice (some ⟨b, 0, none⟩) 1 1) (fun w => by kernel_rfl) ?_; clear hst; intro b w' hst) | (with_reducible (refine xap1 (T := 51) rfl _ _ rfl pp rfl rfl rfl hst.drop2 HO.out rfl hpl ?_); clear hst; intro p4 c4 w4 Lo4 hown4 hst))
          rw [List.length_map] at hown4
          go_roundw
          case rel => exact ⟨k + 1, comD d cc, q7, Lo4, D', ps ++ [(pp, cc)], by omega, by go_num, Lib.hid (by rw [List.map_append, hcms.out]; exact HC2.out), Lib.hid (by rw [List.map_append]; exact hown4), Lib.hid (by rintro y hy; rcases List.mem_append.1 hy with hy | hy; exact HP.out y hy; obtain rfl := List.mem_singleton.1 hy; exact HPi.out), HS, Lib.hid ⟨hgd, hac, by rw [List.length_append, List.length_singleton]; omega⟩, m, hst⟩
          case measure => simp [intOf]; omega
    · obtain rfl : k = l.length := by omega
      go_wp2_with fail
      go_ret2
      rw [List.drop_of_length_le (by rw [List.length_map]; exact Nat.le_refl _)] at HC
      have hR := HC.out
      unfold comGo at hR
      subst hR
      exact ⟨g, _, Lo, D, q, ps, rfl, HO.out, HP.out, rfl, HS.out, HGd.out.1, HGd.out.2.1, m, hst⟩
end Go.Proofs.YtigihgbgdillpaaGreatDoor
namespace Go.Proofs.YtigihgbgdillpaaGreatDoor
open Go.RowKit

theorem bey19_no {l : List Pu} {m : Int} (h : bey19 l m = false) : (l.length : Int) ≤ m ∧ ∀ x ∈ l, x.text.size ≤ 400 := by
  unfold bey19 at h
  obtain ⟨h1, h2⟩ := Bool.or_eq_false_iff.1 h
  have h3 := of_decide_eq_false h1
  refine ⟨by omega, fun x hx => ?_⟩
  have h4 := List.any_eq_false.1 h2 x hx
  unfold beyP at h4
  have h5 := (Bool.or_eq_false_iff.1 (by simpa using h4 : (decide ((400 : Int) < x.text.size) || decide ((100 : Int) < x.e.name.size)) = false)).1
  have h6 := of_decide_eq_false h5
  omega
theorem bey21_no {l : List Rw} (h : bey21 l = false) : l.length ≤ 6 ∧ ∀ r ∈ l, r.l.length ≤ 5 ∧ ∀ x ∈ r.l, x.text.size ≤ 400 := by
  unfold bey21 at h
  obtain ⟨h1, h2⟩ := Bool.or_eq_false_iff.1 h
  have h3 := of_decide_eq_false h1
  refine ⟨by omega, fun r hr => ?_⟩
  have h4 := bey19_no (by simpa using List.any_eq_false.1 h2 r hr)
  exact ⟨by have := h4.1; omega, h4.2⟩
set_option maxHeartbeats 8000000 in
theorem mdown_calls {p : Option Addr} {c : Nat} {l : List Rw} (w : World) (hr : l.length ≤ 6 → RowAt (snap w) 43 1 rwL p c l) (hrs : ∀ r ∈ l, r.l.length ≤ 5 → RowAt (snap w) 89 40 puL r.p r.c r.l)
    (hwf : ∀ r ∈ l, r.l.length ≤ 5 → ∀ x ∈ r.l, x.e.Wf) (hU : GSums w) (hGB : GBegin w) (hGS : GSha w) :
    Calls Tryz.prog 3 #[.slice p l.length c] w (Ret (.bool true) w) := by
  have hst := Sx.start0 w (snap_holds w)
  have HG : Hid (∀ wx, Below w.heap.size w wx → GSums wx ∧ GBegin wx ∧ GSha wx) := Lib.hid (fun wx hb => ⟨hU.below hb, hGB.below hb, hGS.below hb⟩)
  have HL := Lib.hid (fun wx (hg : GSums wx ∧ GBegin wx ∧ GSha wx) => lives_calls wx hg.1 hg.2.1 hg.2.2)
  have HB := Lib.hid (fun wx (hD : Holds (snap w) wx) => bey21_calls hr hrs wx hD)
  obtain ⟨b, hb⟩ : ∃ b, bey21 l = b := ⟨_, rfl⟩
  rw [hb] at HB
  cases b with
  | true =>
    clear hr hrs hwf hU hGB hGS hb
    go_enter Tryz.func3, Tryz.ntmps3
    go_wp2_with (first | fail | (with_reducible (refine callB (HB.out _ hst.data) hst ?_; clear hst; intro w' hst)) | (with_reducible (refine callB (HL.out _ (HG.out _ hst.end)) hst ?_; clear hst; intro w' hst)))
    go_ret
    exact ⟨rfl, hst.end⟩
  | false =>
    obtain ⟨h6, h5⟩ := bey21_no hb
    have HC := Lib.hid (fun wx (hD : Holds (snap w) wx) (hg : GSums wx ∧ GBegin wx ∧ GSha wx) => commits_calls (hr h6) (fun r hx => hrs r hx (h5 r hx).1) h6 (fun r hx => ⟨(h5 r hx).1, hwf r hx (h5 r hx).1, (h5 r hx).2⟩) wx hD hg.1 hg.2.1 hg.2.2)
    clear hr hrs hwf hU hGB hGS hb h6 h5
    go_enter Tryz.func3, Tryz.ntmps3
    go_wp2_with (first | fail | (with_reducible (refine callB (HB.out _ hst.data) hst ?_; clear hst; intro w' hst)))
    refine (HC.out _ hst.data (HG.out _ hst.end)).mono ?_
    rintro e w2 ⟨g, v, Lo, D, q, ps, rfl, hown, hPl, hps, hDD, hgood, hacts, m, hst2⟩
    replace hst := hst.after hst2
    clear hst2 hown hPl hps hDD hacts HC HB
    generalize (comF (l.map (·.l))).1 = d at *
    have hcr : dCrash d [] = ((dCrash d []).1, 0) ∧ (dCrash d []).1.off = true := by
      unfold dCrash
      rw [if_neg (by rw [hgood.on]; decide)]
      exact ⟨rfl, rfl⟩
    have hcr1 : (dCrash d []).2 = 0 := by rw [hcr.1]
    obtain ⟨dz, hz⟩ : ∃ dz, (dCrash d []).1 = dz := ⟨_, rfl⟩
    rw [hz] at hcr
    have hoff := hcr.2
    have HCr := Lib.hid (fun F wx (hd : DevW D F wx g d) => (show Calls Tryz.prog 7 #[.pointer (some ⟨g, 0, none⟩), .slice none 0 0] wx (DevRet (.int .i64 0) D F wx g dz) by
      have h1 := dcrash_calls hd (keep := []) (RowAt.nil D 3 1 inL none 0) (by simp)
      rw [hcr1, hz] at h1
      exact h1))
    have HLd := Lib.hid (fun F wx (hd : DevW D F wx g dz) => load_down hd hoff)
    have HMt := Lib.hid (fun F wx (hd : DevW D F wx g dz) => mount_err (w := wx) (pv := .pointer (some ⟨g, 0, none⟩)) ⟨_, rfl⟩ (by decide) (fun wy hy => load_down (hd.below hy) hoff))
    have HFm := Lib.hid (fun F wx (hd : DevW D F wx g dz) => format_down hd hoff)
    clear hcr hcr1 hz hoff hgood
    go_wp2_with (first | (with_reducible first|(refine xsa rfl rfl rfl rfl hst ?_;clear hst;intro w' hst)|(refine xnw rfl rfl hst ?_;clear hst;intro bn w' hst)) | (with_reducible (refine callO (fun F wx hd => HCr.out F wx hd) hst m ?_; clear hst m; intro w' q' hst m)) | (with_reducible (refine callOr (fun F wx hd => HLd.out F wx hd) hst m ?_; clear hst; intro w' hst)) | (with_reducible (refine callOr (fun F wx hd => HMt.out F wx hd) hst m ?_; clear hst; intro w' hst)) | (with_reducible (refine callOr (fun F wx hd => HFm.out F wx hd) hst m ?_; clear hst; intro w' hst)) | (with_reducible (refine callB (HL.out _ (HG.out _ hst.end)) hst ?_; clear hst; intro w' hst)))
    go_ret
    exact ⟨rfl, hst.end⟩
end Go.Proofs.YtigihgbgdillpaaGreatDoor
