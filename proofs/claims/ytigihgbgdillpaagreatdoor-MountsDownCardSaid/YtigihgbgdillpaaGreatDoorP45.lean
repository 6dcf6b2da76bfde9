/- The contracts of mounts.Load, Mount where a state is empty · The contracts of mounts.Mount, Format · The contract of mounts.Format on a device without a chain · trial. -/
import Derived.Test.YtigihgbgdillpaaGreatDoorP44
set_option linter.unusedVariables false
set_option linter.unusedSimpArgs false
set_option maxRecDepth 100000
namespace Go.Proofs.YtigihgbgdillpaaGreatDoor
open Go.RowKit

/-- What Load and Mount tell. -/
abbrev loadV (c : Int) (s : Sl) (e : Int) : Value := .tuple #[.agg (stC c), .agg (slC s), .int .i64 e]
theorem xnwS {ops : Array Oper} {rest : List Oper} {o : Oper} {a : Act} {w : World} {Q : Exit → Act → World → Prop} {S : List Nat} {w0 : World} {L : List Blk} {D : Dat} {F : List Nat} (d : Nat) (hd : o.dst = some d) (hw : Region.wanted o (yielded ops a.tmps) = true) {T : TypeId} (ho : o.op = .alloc T) (h : Sx S w0 w L D F) {C : Array Value} [z : ZeroT T C]
    (hk : ∀ (b : Nat) (w' : World), Sx S w0 w' ((b, C, T) :: L) D F → wpList Tryz.prog ops Q rest (a.put o.dst (.pointer (some ⟨b, 0, none⟩))) w') : wpList Tryz.prog ops Q (o :: rest) a w := xnw hw ho h hk
theorem load_nil (w : World) : Calls Tryz.prog 8 #[.pointer none] w (Ret (loadV 0 sl0 1) w) := by
  have hst := Sx.startN w
  have HL := Lib.hid (fun wx => dlen_nil wx)
  go_enter Tryz.func8, Tryz.ntmps8
  go_wp2_with (first | (with_reducible (refine xval rfl 16 rfl (.agg (stC 0)) (fun w => by kernel_rfl) ?_)) | (with_reducible (refine xval rfl 17 rfl (.agg (slC sl0)) (fun w => by kernel_rfl) ?_)) | (with_reducible first|(refine xsa rfl rfl rfl rfl hst ?_;clear hst;intro w' hst)|(refine xnw rfl rfl hst ?_;clear hst;intro bn w' hst)) | (with_reducible (refine callB (HL.out _) hst ?_; clear hst; intro w' hst)))
  refine bodyPost_ret (results3 rfl (res_agg rfl hst.st.has) (res_agg rfl hst.st.has) res_tmp) rfl ⟨rfl, hst.end⟩
section
variable {D : Dat} {F : List Nat} {w : World} {g : Nat} {d : Dv}
theorem load_down (h : DevW D F w g d) (hoff : d.off = true) : Calls Tryz.prog 8 #[.pointer (some ⟨g, 0, none⟩)] w (Ret (loadV 0 sl0 43) w) := by
  have hst := Sx.start0 w h.data
  have hmin := h.ok.min
  have HL := Lib.hid (fun wx (hb : Below w.heap.size w wx) => dlen_calls (h.below hb))
  have HU := Lib.hid (fun wx (hb : Below w.heap.size w wx) => dup_calls (h.below hb))
  rw [hoff] at HU
  generalize d.now.length = N at *
  have hne : ((N : Int) == 0) = false := by rw [beq_eq_false_iff_ne]; omega
  clear h
  go_enter Tryz.func8, Tryz.ntmps8
  go_wp2_with (first | (with_reducible (refine xval rfl 22 rfl (.agg (stC 0)) (fun w => by kernel_rfl) ?_)) | (with_reducible (refine xval rfl 23 rfl (.agg (slC sl0)) (fun w => by kernel_rfl) ?_)) | (with_reducible first|(refine xsa rfl rfl rfl rfl hst ?_;clear hst;intro w' hst)|(refine xnw rfl rfl hst ?_;clear hst;intro bn w' hst)) | (with_reducible (refine callB (HL.out _ hst.end) hst ?_; clear hst; intro w' hst)) | (with_reducible (refine callB (HU.out _ hst.end) hst ?_; clear hst; intro w' hst)))
  refine bodyPost_ret (results3 rfl (res_agg rfl hst.st.has) (res_agg rfl hst.st.has) res_tmp) rfl ⟨rfl, hst.end⟩
theorem load_none (h : DevW D F w g d) (hoff : d.off = false) (hch : chainF d = []) (hU : GSums w) (hGB : GBegin w) (hGS : GSha w) : Calls Tryz.prog 8 #[.pointer (some ⟨g, 0, none⟩)] w (Ret (loadV 0 sl0 4) w) := by
  have hst := Sx.start0 w h.data
  have hmin := h.ok.min
  have HL := Lib.hid (fun wx (hb : Below w.heap.size w wx) => dlen_calls (h.below hb))
  have HU := Lib.hid (fun wx (hb : Below w.heap.size w wx) => dup_calls (h.below hb))
  have HCh := Lib.hid (fun wx (hb : Below w.heap.size w wx) => chain_calls (h.below hb) (hU.below hb) (hGB.below hb) (hGS.below hb))
  rw [hoff] at HU
  rw [hch] at HCh
  generalize d.now.length = N at *
  have hne : ((N : Int) == 0) = false := by rw [beq_eq_false_iff_ne]; omega
  clear h
  go_enter Tryz.func8, Tryz.ntmps8
  go_wp2_with (first | (with_reducible (refine xnw rfl rfl hst ?_;clear hst;intro bn w' hst)) | (with_reducible (refine callB (HL.out _ hst.end) hst ?_; clear hst; intro w' hst)) | (with_reducible (refine callB (HU.out _ hst.end) hst ?_; clear hst; intro w' hst)))
  refine (HCh.out _ hst.end).mono ?_
  rintro e w2 ⟨v1, v2, Lo1, Lo2, rfl, hown1, hown2, hs2⟩
  obtain ⟨p1, c1, rfl⟩ := hown1.slice
  have hst := (hst.take hs2).dropL
  simp only [List.map_nil, List.length_nil]
  go_wp2_with (first | (with_reducible (refine xval rfl 32 rfl (.agg (stC 0)) (fun w => by kernel_rfl) ?_)) | (with_reducible (refine xval rfl 33 rfl (.agg (slC sl0)) (fun w => by kernel_rfl) ?_)) | (with_reducible (refine xsa rfl rfl rfl rfl hst ?_;clear hst;intro w' hst)))
  refine bodyPost_ret (results3 rfl (res_agg rfl hst.st.has) (res_agg rfl hst.st.has) res_tmp) rfl ⟨rfl, hst.end⟩
set_option maxHeartbeats 4000000 in
theorem load_one (h : DevW D F w g d) (hoff : d.off = false) {x : Fnd} (hch : chainF d = [x]) (hen : entriesF d x.s = ([], 0)) (hU : GSums w) (hGB : GBegin w) (hGS : GSha w) : Calls Tryz.prog 8 #[.pointer (some ⟨g, 0, none⟩)] w (Ret (loadV x.s.clock x.s 0) w) := by
  have hst := Sx.start0 w h.data
  have hmin := h.ok.min
  have hok := (slOk_iff _).1 ((chainF_ok d h.ok).2 x (by rw [hch]; simp)).1
  unfold SlOk at hok
  have HL := Lib.hid (fun wx (hb : Below w.heap.size w wx) => dlen_calls (h.below hb))
  have HU := Lib.hid (fun wx (hb : Below w.heap.size w wx) => dup_calls (h.below hb))
  have HCh := Lib.hid (fun wx (hb : Below w.heap.size w wx) => chain_calls (h.below hb) (hU.below hb) (hGB.below hb) (hGS.below hb))
  have HEn := Lib.hid (fun wx (hb : Below w.heap.size w wx) => entries_calls (h.below hb) x.s (by omega) (hGB.below hb) (hGS.below hb) (hU.below hb))
  rw [hoff] at HU
  rw [hch] at HCh
  rw [hen] at HEn
  generalize d.now.length = N at *
  have hne : ((N : Int) == 0) = false := by rw [beq_eq_false_iff_ne]; omega
  have HSt := Lib.hid (fun p cp wx => stall_calls 0 x.s.clock (by omega) p cp wx)
  clear h hok hch hen
  go_enter Tryz.func8, Tryz.ntmps8
  go_wp2_with (first | (with_reducible refine xnwS 2 rfl rfl rfl hst ?_; clear hst; intro b2 w' hst) | (with_reducible refine xnwS 3 rfl rfl rfl hst ?_; clear hst; intro b3 w' hst) | (with_reducible refine xnwS 5 rfl rfl rfl hst ?_; clear hst; intro b5 w' hst) | fail | (with_reducible (refine callB (HL.out _ hst.end) hst ?_; clear hst; intro w' hst)) | (with_reducible (refine callB (HU.out _ hst.end) hst ?_; clear hst; intro w' hst)))
  refine (HCh.out _ hst.end).mono ?_
  rintro e w2 ⟨v1, v2, Lo1, Lo2, rfl, hown1, hown2, hs2⟩
  have hst := (hst.take hs2).lay
  obtain ⟨p1, c1, rfl, hrow⟩ := hown1.row (by simp) (D := fun p => D p ∨ p ∈ Lo1 ++ Lo2) (fun p hp => Or.inr (by simp [hp]))
  generalize (fun p => D p ∨ p ∈ Lo1 ++ Lo2) = D1 at *
  clear hs2 hown1 hown2 HCh HL HU
  simp only [List.map_cons, List.map_nil, List.length_cons, List.length_nil, Nat.zero_add] at hrow ⊢
  obtain ⟨g1, off1, rfl⟩ := hrow.at_some (i := 0) (by simp)
  have hld := hrow.lda (i := 0) (by simp)
  simp only [List.getElem_cons_zero] at hld
  have hld0 : LdD D1 38 ⟨g1, off1 + 0 * 69, none⟩ (.agg (slC x.s)) := hld
  rw [Nat.zero_mul, Nat.add_zero] at hld
  go_wp2_with fail
  go_loopw [36] (fun iv wr => ∃ (k : Nat) (clk : Int), iv = .int .i64 k ∧ Hid ((k = 0 ∧ clk = 0) ∨ (k = 1 ∧ clk = x.s.clock)) ∧ Sx [] w wr [(b5, stC clk, 33), (b3, slC sl0, 38), (b2, stC 0, 33)] D1 []) (fun iv _ => 1 - (intOf iv).toNat)
  case atStart => exact ⟨0, 0, by go_num, Lib.hid (Or.inl ⟨rfl, rfl⟩), hst⟩
  case round =>
    clear hst
    obtain ⟨k, clk, rfl, HI, hst⟩ := hrel
    rcases HI.out with ⟨rfl, rfl⟩ | ⟨rfl, rfl⟩
    · clear HI
      go_wp2_with (with_reducible first|refine xa rfl rfl rfl hst ?_|refine xd rfl rfl rfl hst ?_|(refine xsa rfl rfl rfl rfl hst ?_;clear hst;intro w' hst)|(refine xnw rfl rfl hst ?_;clear hst;intro bn w' hst))
      refine (HEn.out _ hst.end).mono ?_
      rintro e w4 ⟨v4, Lo4, rfl, hown4, _, hs4⟩
      obtain ⟨p4, c4, rfl⟩ := hown4.slice
      have hst := (hst.take hs4).dropL
      simp only [List.length_nil]
      clear hs4 hown4
      go_wp2_with (first | (with_reducible first|refine x1 rfl rfl rfl hst ?_|refine xa rfl rfl rfl hst ?_|(refine xsa rfl rfl rfl rfl hst ?_;clear hst;intro w' hst)) | (with_reducible (refine callB (HSt.out _ _ _) hst ?_; clear hst; intro w' hst)))
      go_roundw
      case rel => exact ⟨1, _, by go_num, Lib.hid (Or.inr ⟨rfl, rfl⟩), hst.drop⟩
      case measure => simp [intOf]
    · clear HI
      go_wp2_with fail
      refine Fx.wp_region_flow ⟨[], w, D1, [], fun wx => ∃ L', (b5, stC x.s.clock, 33) ∈ L' ∧ Sx [] w wx L' D1 [], fun i => i == 7 || i == 8, fun i => !(i == 0 || i == 6), fun i => i == 8⟩ (List.range 10) rfl hst (by kernel_rfl) (by kernel_rfl) (by kernel_rfl) (by kernel_rfl) (by kernel_rfl) ?_
      show Fx.wpLX _ _ _ [0, 1, 2, 3, 4, 5, 6, 7, 8, 9] _ (Fx.mkO [] _)
      refine Fx.rd rfl rfl rfl rfl (v := .agg (stC x.s.clock)) (fun w h => ⟨_, by simp, h⟩) (fun w h => by obtain ⟨L', hm, hs⟩ := h; obtain ⟨L2, hs⟩ := hs.front hm; exact Fx.r_a rfl rfl w hs) ?_
      refine Fx.val rfl rfl rfl rfl (v := .slice (some ⟨g1, off1, none⟩) 1 c1) (Fx.e_mv rfl rfl) ?_
      refine Fx.val rfl rfl rfl rfl (v := .slice (some ⟨g1, off1, none⟩) 1 c1) (Fx.e_mv rfl rfl) ?_
      refine Fx.ln rfl rfl rfl rfl rfl rfl ?_
      refine Fx.val rfl rfl rfl rfl (v := .int .i64 (0 : Nat)) (fun w => by kernel_rfl) ?_
      refine Fx.ix rfl rfl rfl rfl rfl rfl rfl (by decide) ?_
      refine Fx.rd rfl rfl rfl rfl (v := .agg (slC x.s)) (fun w h => ⟨_, by simp, h⟩) (fun w h => by
        obtain ⟨L', hm, hs⟩ := h
        exact Fx.r_d rfl rfl w hs) ?_
      refine Fx.stA rfl rfl rfl rfl rfl (Or.inr (fun w h => ⟨_, by simp, h⟩)) ?_
      refine Fx.stA rfl rfl rfl rfl rfl (Or.inl rfl) ?_
      refine Fx.val rfl rfl rfl rfl (v := .int .i64 0) (Fx.e_as rfl rfl) ?_
      clear hst
      intro w' hst
      simp only [Fx.nxt_some, Fx.nxt_none, Fx.mkO_cons, Fx.mkO_nil, Fx.evO_eq]
      go_wp2_with fail
      refine bodyPost_ret (results3 rfl (res_agg rfl hst.st.has) (res_agg rfl hst.st.has) res_tmp) rfl ⟨rfl, hst.end⟩
end
end Go.Proofs.YtigihgbgdillpaaGreatDoor
namespace Go.Proofs.YtigihgbgdillpaaGreatDoor
open Go.RowKit

theorem mount_err {pv : Value} {c e : Int} {s : Sl} {w : World} (hp : ∃ q, pv = .pointer q) (he : e ≠ 0) (hl : ∀ wx, Below w.heap.size w wx → Calls Tryz.prog 8 #[pv] wx (Ret (loadV c s e) wx)) : Calls Tryz.prog 9 #[pv] w (Ret (loadV 0 sl0 e) w) := by
  have hst := Sx.startN w
  have HL := Lib.hid hl
  clear hl
  have he1 : (e == 0) = false := by rw [beq_eq_false_iff_ne]; exact he
  have he2 : (e != 0) = true := by rw [bne_iff_ne]; exact he
  have HE1 := Lib.hid (decide_eq_false he)
  have HE2 := Lib.hid (decide_eq_true he)
  clear he
  obtain ⟨q, rfl⟩ := hp
  go_enter Tryz.func9, Tryz.ntmps9
  go_wp2_with (first | (with_reducible (refine xval rfl 15 rfl (.bool false) (fun w => Fx.e_eql rfl rfl rfl HE1.out w) ?_)) | (with_reducible (refine xval rfl 22 rfl (.bool true) (fun w => Fx.e_neq rfl rfl rfl HE2.out w) ?_)) | (with_reducible (refine xval rfl 23 rfl (.agg (stC 0)) (fun w => by kernel_rfl) ?_)) | (with_reducible (refine xval rfl 24 rfl (.agg (slC sl0)) (fun w => by kernel_rfl) ?_)) | (with_reducible first|(refine xsa rfl rfl rfl rfl hst ?_;clear hst;intro w' hst)|(refine xnw rfl rfl hst ?_;clear hst;intro bn w' hst)) | (with_reducible (refine callB (HL.out _ hst.end) hst ?_; clear hst; intro w' hst)))
  refine bodyPost_ret (results3 rfl (res_agg rfl hst.st.has) (res_agg rfl hst.st.has) res_tmp) rfl ⟨rfl, hst.end⟩
section
variable {D : Dat} {F : List Nat} {w : World} {g : Nat} {d : Dv}
set_option maxHeartbeats 4000000 in
theorem mount_one (h : DevW D F w g d) (hoff : d.off = false) {x : Fnd} (hch : chainF d = [x]) (hen : entriesF d x.s = ([], 0)) (hcov : ∀ i : Nat, (dStates d)[i]? = some 1 → covR (allR (chainF d)) i) (hU : GSums w) (hGB : GBegin w) (hGS : GSha w) : Calls Tryz.prog 9 #[.pointer (some ⟨g, 0, none⟩)] w (Ret (loadV x.s.clock x.s 0) w) := by
  have hst := Sx.startN w
  have HL := Lib.hid (fun wx (hb : Below w.heap.size w wx) => load_one (h.below hb) hoff hch hen (hU.below hb) (hGB.below hb) (hGS.below hb))
  have HR := Lib.hid (fun wx (hb : Below w.heap.size w wx) => rest0_calls (h.below hb) x.s.clock hcov (hU.below hb) (hGB.below hb) (hGS.below hb))
  have HEr := Lib.hid (fun wx => erase0_calls (.pointer (some ⟨g, 0, none⟩)) none 0 wx)
  clear h hoff hch hen hcov
  go_enter Tryz.func9, Tryz.ntmps9
  go_wp2_with (first | (with_reducible refine xnwS 2 rfl rfl rfl hst ?_; clear hst; intro b2 w' hst) | (with_reducible refine xnwS 3 rfl rfl rfl hst ?_; clear hst; intro b3 w' hst) | (with_reducible refine xnwS 5 rfl rfl rfl hst ?_; clear hst; intro b5 w' hst) | (with_reducible refine xnwS 6 rfl rfl rfl hst ?_; clear hst; intro b6 w' hst) | (with_reducible first|refine xa rfl rfl rfl hst ?_|(refine xsa rfl rfl rfl rfl hst ?_;clear hst;intro w' hst)) | (with_reducible (refine callB (HL.out _ hst.end) hst ?_; clear hst; intro w' hst)) | (with_reducible (refine callB (HR.out _ hst.end) hst ?_; clear hst; intro w' hst)) | (with_reducible (refine callB (HEr.out _) hst ?_; clear hst; intro w' hst)))
  refine Fx.wp_region_flow ⟨[], w, NoD, [], fun wx => ∃ L', (b5, stC x.s.clock, 33) ∈ L' ∧ (b6, slC x.s, 38) ∈ L' ∧ Sx [] w wx L' NoD [], fun i => i == 2 || i == 3, fun i => !(i == 0 || i == 1), fun i => i == 3⟩ (List.range 5) rfl hst (by kernel_rfl) (by kernel_rfl) (by kernel_rfl) (by kernel_rfl) (by kernel_rfl) ?_
  show Fx.wpLX _ _ _ [0, 1, 2, 3, 4] _ (Fx.mkO [] _)
  refine Fx.rd rfl rfl rfl rfl (v := .agg (stC x.s.clock)) (fun w h => ⟨_, by simp, by simp, h⟩) (fun w h => by obtain ⟨L', hm, _, hs⟩ := h; obtain ⟨L2, hs⟩ := hs.front hm; exact Fx.r_a rfl rfl w hs) ?_
  refine Fx.rd rfl rfl rfl rfl (v := .agg (slC x.s)) (fun w h => ⟨_, by simp, by simp, h⟩) (fun w h => by obtain ⟨L', _, hm, hs⟩ := h; obtain ⟨L2, hs⟩ := hs.front hm; exact Fx.r_a rfl rfl w hs) ?_
  refine Fx.stA rfl rfl rfl rfl rfl (Or.inr (fun w h => ⟨_, by simp, by simp, h⟩)) ?_
  refine Fx.stA rfl rfl rfl rfl rfl (Or.inl rfl) ?_
  refine Fx.val rfl rfl rfl rfl (v := .int .i64 0) (Fx.e_as rfl rfl) ?_
  clear hst
  intro w' hst
  simp only [Fx.nxt_some, Fx.nxt_none, Fx.mkO_cons, Fx.mkO_nil, Fx.evO_eq]
  go_wp2_with fail
  refine bodyPost_ret (results3 rfl (res_agg rfl hst.st.has) (res_agg rfl hst.st.has) res_tmp) rfl ⟨rfl, hst.end⟩
end
/-! Format -/
theorem format_nil (w : World) : Calls Tryz.prog 10 #[.pointer none] w (Ret (.int .i64 1) w) := by
  have hst := Sx.startN w
  have HL := Lib.hid (fun wx => dlen_nil wx)
  go_enter Tryz.func10, Tryz.ntmps10
  go_wp2_with (first | fail | (with_reducible (refine callB (HL.out _) hst ?_; clear hst; intro w' hst)))
  go_ret
  exact ⟨rfl, hst.end⟩
section
variable {D : Dat} {F : List Nat} {w : World} {g : Nat} {d : Dv}
theorem format_down (h : DevW D F w g d) (hoff : d.off = true) : Calls Tryz.prog 10 #[.pointer (some ⟨g, 0, none⟩)] w (Ret (.int .i64 43) w) := by
  have hst := Sx.start0 w h.data
  have hmin := h.ok.min
  have HL := Lib.hid (fun wx (hb : Below w.heap.size w wx) => dlen_calls (h.below hb))
  have HU := Lib.hid (fun wx (hb : Below w.heap.size w wx) => dup_calls (h.below hb))
  rw [hoff] at HU
  generalize d.now.length = N at *
  have hne : ((N : Int) == 0) = false := by rw [beq_eq_false_iff_ne]; omega
  clear h
  go_enter Tryz.func10, Tryz.ntmps10
  go_wp2_with (first | fail | (with_reducible (refine callB (HL.out _ hst.end) hst ?_; clear hst; intro w' hst)) | (with_reducible (refine callB (HU.out _ hst.end) hst ?_; clear hst; intro w' hst)))
  go_ret
  exact ⟨rfl, hst.end⟩
theorem format_there (h : DevW D F w g d) (hoff : d.off = false) (hch : 0 < (chainF d).length) (hU : GSums w) (hGB : GBegin w) (hGS : GSha w) : Calls Tryz.prog 10 #[.pointer (some ⟨g, 0, none⟩)] w (Ret (.int .i64 160) w) := by
  have hst := Sx.start0 w h.data
  have hmin := h.ok.min
  have HL := Lib.hid (fun wx (hb : Below w.heap.size w wx) => dlen_calls (h.below hb))
  have HU := Lib.hid (fun wx (hb : Below w.heap.size w wx) => dup_calls (h.below hb))
  have HCh := Lib.hid (fun wx (hb : Below w.heap.size w wx) => chain_calls (h.below hb) (hU.below hb) (hGB.below hb) (hGS.below hb))
  rw [hoff] at HU
  generalize d.now.length = N at *
  have hne : ((N : Int) == 0) = false := by rw [beq_eq_false_iff_ne]; omega
  clear h
  generalize chainF d = ch at *
  go_enter Tryz.func10, Tryz.ntmps10
  go_wp2_with (first | fail | (with_reducible (refine callB (HL.out _ hst.end) hst ?_; clear hst; intro w' hst)) | (with_reducible (refine callB (HU.out _ hst.end) hst ?_; clear hst; intro w' hst)))
  refine (HCh.out _ hst.end).mono ?_
  rintro e w2 ⟨v1, v2, Lo1, Lo2, rfl, hown1, hown2, hs2⟩
  obtain ⟨p1, c1, rfl⟩ := hown1.slice
  have hst := (hst.take hs2).dropL
  rw [List.length_map]
  go_wp2_with (first | (with_reducible (refine xval rfl 26 rfl (.bool true) (fun w => Fx.e_gtr rfl rfl rfl (decide_eq_true (by omega)) w) ?_)) | fail)
  go_ret
  exact ⟨rfl, hst.end⟩
end
end Go.Proofs.YtigihgbgdillpaaGreatDoor
namespace Go.Proofs.YtigihgbgdillpaaGreatDoor
open Go.RowKit

theorem needF_nil : needF [] = (2, 0) := by kernel_rfl
theorem mkTx_nil (start : Int) : (mkTx [] start).1.length ≤ 1000000 := by
  have : (mkTx [] start) = encF [] := rfl
  rw [this, show (encF []).1.length = 2 by kernel_rfl]
  decide
theorem freeGo_rng : ∀ (l : List Int) (i : Nat) (f : Int) (out : List Rn), -1 ≤ f ∧ f ≤ i → (∀ r ∈ out, 0 ≤ r.s ∧ r.s ≤ i) → ∀ r ∈ freeGo i f l out, 0 ≤ r.s ∧ r.s ≤ ((i + l.length : Nat) : Int)
  | [], i, _, _, _, h => fun r hr => by have := h r hr; simp; exact this
  | s :: l, i, f, out, hf, h => by
    have hout : ∀ r ∈ out, 0 ≤ r.s ∧ r.s ≤ ((i + 1 : Nat) : Int) := fun r hr => by have := h r hr; omega
    have hlen : i + (s :: l).length = (i + 1) + l.length := by rw [List.length_cons]; omega
    rw [hlen]
    unfold freeGo
    split
    · exact freeGo_rng l (i + 1) i out (by omega) hout
    · split
      · refine freeGo_rng l (i + 1) (-1) _ (by omega) (fun r hr => ?_)
        rcases List.mem_append.1 hr with hr | hr
        · exact hout r hr
        · obtain rfl := List.mem_singleton.1 hr
          show 0 ≤ f ∧ f ≤ _
          omega
      · exact freeGo_rng l (i + 1) f out (by omega) hout
theorem placeF_rng {d : Dv} (hd : d.Ok) (n : Int) : 0 ≤ (placeF d n).1 ∧ (placeF d n).1 ≤ 1000 := by
  have hmax := hd.max
  have hl : (dStates d).length ≤ 512 := by unfold dStates; rw [List.length_map]; exact hmax
  have h1 := freeGo_rng (dStates d ++ [1]) 0 (-1) [] (by omega) (by simp)
  have h2 : (dStates d ++ [1]).length ≤ 513 := by rw [List.length_append, List.length_singleton]; omega
  unfold placeF
  split
  · simp
  · simp only
    unfold rTake
    split
    · simp
    · cases hf : (rFree (dStates d)).findIdx? (fun r => decide (n ≤ r.c)) with
      | none => simp
      | some i =>
        simp only
        have hi := (List.findIdx?_eq_some_iff_findIdx_eq.1 hf).1
        rw [List.getD_eq_getElem?_getD, List.getElem?_eq_getElem hi]
        have := h1 _ (List.getElem_mem hi)
        simp only [Option.getD_some]
        unfold rFree at this ⊢
        omega
theorem frEnc_len (f : Fr) : (frEnc f).1.length ≤ 128 := by
  unfold frEnc
  split
  · rw [List.length_flatMap, show List.range 4 = [0, 1, 2, 3] from rfl]
    simp only [List.map_cons, List.map_nil, List.sum_cons, List.sum_nil, List.length_append, List.length_singleton]
    have h := fun (k : Nat) => List.length_take_le 31 ((frText f).drop (k * 31))
    have h0 := h 0
    have h1 := h 1
    have h2 := h 2
    have h3 := h 3
    omega
  · exact Nat.zero_le _
theorem slBlk_len (s : Sl) : (slBlk s).1.length ≤ 128 := by
  unfold slBlk
  split
  · exact frEnc_len _
  · exact Nat.zero_le _
theorem splL_size (kind ep : Int) (s : List UInt8) : ∀ b ∈ splL kind ep s, b.size ≤ 128 := fun b hb => by
  obtain ⟨i, _, rfl⟩ := List.mem_map.1 hb
  exact frEnc_len _
theorem makeB_size (last : Option Sl) (clock : Int) (l : List Pu) (start : Int) : ∀ b ∈ makeB last clock l start, b.size ≤ 128 := fun b hb => by
  unfold makeB at hb
  rcases List.mem_append.1 hb with hb | hb
  · obtain ⟨x, _, hx⟩ := List.mem_flatMap.1 hb
    split at hx
    · exact splL_size _ _ _ b hx
    · simp at hx
  · rcases List.mem_append.1 hb with hb | hb
    · exact splL_size _ _ _ b hb
    · obtain rfl := List.mem_singleton.1 hb
      exact slBlk_len _
theorem makeB_len {last : Option Sl} {clock : Int} {l : List Pu} {start : Int} (hl : l.length ≤ 200) (ht : ∀ x ∈ l, x.text.size ≤ 999999) (hb : (mkTx l start).1.length ≤ 1000000) : (makeB last clock l start).length ≤ 3000000 := by
  unfold makeB
  have h1 := putBlocks_len (lastN last) l ht
  have h2 := splL_len 68 (lastN last) (mkTx l start).1 hb
  rw [List.length_append, List.length_append, List.length_singleton]
  omega
def formatF (d : Dv) : Dv × Int :=
  if (placeF d 2).2 = false then (d, 241) else if makeErr none 0 [] (placeF d 2).1 ≠ 0 then (d, makeErr none 0 [] (placeF d 2).1) else
    cWrite d (placeF d 2).1 2 (makeB none 0 [] (placeF d 2).1)
/-- What a call leaves that turns a device, and lays down data of its own. -/
def DevLay (v : Value) (D : Dat) (F : List Nat) (w : World) (g : Nat) (d' : Dv) (e : Ending) (w' : World) : Prop :=
  e = .returned v ∧ ∃ (D2 : Dat) (F' : List Nat), (∀ p, D p → D2 p) ∧ (∀ p, D2 p → D p ∨ w.heap.size ≤ p.1) ∧ DevW D2 F' w' g d' ∧ St F w w' [] ∧ ∀ x ∈ F', x ∈ F ∨ w.heap.size ≤ x
theorem DevMem.mono {D D' : Dat} {d : Dv} {q : Dp} (h : DevMem D d q) (hs : ∀ p, D p → D' p) : DevMem D' d q :=
  ⟨h.ok, h.sl, h.ss, h.st, h.nl, h.ns, h.nt, h.ac, h.al, h.kp.mono hs⟩
theorem Sx.devLay {D D2 : Dat} {F : List Nat} {w0 w : World} {g : Nat} {d' : Dv} {q : Dp} {e : Ending} {v : Value} (h : Sx F w0 w (devL g d' q) D2 []) (m : DevMem D2 d' q) (h1 : ∀ p, D p → D2 p) (h2 : ∀ p, D2 p → D p ∨ w0.heap.size ≤ p.1) (he : e = .returned v) : DevLay v D F w0 g d' e w := by
  obtain ⟨he, F', hd, hs, hF⟩ := h.devRet m he
  exact ⟨he, D2, F', h1, h2, hd, hs, hF⟩
/-- Where the program's tables lie. -/
def NotG (F : List Nat) : Prop := 2 ∉ F ∧ 1 ∉ F ∧ 0 ∉ F
section
variable {D : Dat} {F : List Nat} {w : World} {g : Nat} {d : Dv}
set_option maxHeartbeats 8000000 in
theorem format_calls (h : DevW D F w g d) (hF : NotG F) (hoff : d.off = false) (hch : chainF d = []) (hac : d.acts.length ≤ 1000) (hU : GSums w) (hGB : GBegin w) (hGS : GSha w) : Calls Tryz.prog 10 #[.pointer (some ⟨g, 0, none⟩)] w (DevLay (.int .i64 (formatF d).2) D F w g (formatF d).1) := by
  have hmin := h.ok.min
  have hpr := placeF_rng h.ok 2
  obtain ⟨q, m, _, hst⟩ := h.open h.lt
  clear h
  have HG := Lib.hid (fun wx L (h : Sx F w wx L D []) => (⟨hU.of_sx h hF.1, hGB.of_sx h hF.2.2, hGS.of_sx h hF.2.1⟩ : GSums wx ∧ GBegin wx ∧ GSha wx))
  have HL := Lib.hid (fun F wx (hd : DevW D F wx g d) => dlen_calls hd)
  have HUp := Lib.hid (fun F wx (hd : DevW D F wx g d) => dup_calls hd)
  rw [hoff] at HUp
  have HCh := Lib.hid (fun F wx (hd : DevW D F wx g d) (h : GSums wx ∧ GBegin wx ∧ GSha wx) => chain_calls hd h.1 h.2.1 h.2.2)
  rw [hch] at HCh
  have HN : Hid (∀ wx, GSums wx ∧ GBegin wx ∧ GSha wx → Calls Tryz.prog 14 #[.slice none 0 0] wx (Ret (.tuple #[.int .i64 2, .int .i64 0]) wx)) := Lib.hid (fun wx h => by
    have := need_calls (p := none) (c := 0) (l := []) wx (RowAt.nil ..) (by simp) (by simp) (by simp) h.2.1 h.2.2
    rw [needF_nil] at this
    exact this)
  have HPl := Lib.hid (fun F wx (hd : DevW D F wx g d) => place_calls hd 2 (by unfold I64; omega))
  obtain ⟨R, hR⟩ : ∃ R, formatF d = R := ⟨_, rfl⟩
  rw [hR]
  unfold formatF at hR
  generalize placeF d 2 = pl at *
  obtain ⟨at_, ok⟩ := pl
  simp only at hpr hR HPl
  generalize hN : d.now.length = N at *
  have hne : ((N : Int) == 0) = false := by rw [beq_eq_false_iff_ne]; omega
  clear hN
  go_enter Tryz.func10, Tryz.ntmps10
  go_wp2_with (first | fail | (with_reducible (refine callOr HL.out hst m ?_; clear hst; intro w' hst)) | (with_reducible (refine callOr HUp.out hst m ?_; clear hst; intro w' hst)))
  obtain ⟨F2, hd2⟩ := Sx.devW (g := g) hst m
  refine (HCh.out _ _ hd2 (HG.out _ _ hst)).mono ?_
  rintro e w2 ⟨v1, v2, Lo1, Lo2, rfl, hown1, hown2, hs2⟩
  obtain ⟨p1, c1, rfl⟩ := hown1.slice
  have hst := (hst.take hs2).dropL
  simp only [List.map_nil, List.length_nil]
  clear hs2 hown1 hown2 hd2 HCh
  cases ok
  · rw [if_pos rfl] at hR
    subst hR
    go_wp2_with (first | fail | (with_reducible (refine callB (HN.out _ (HG.out _ _ hst)) hst ?_; clear hst; intro w' hst)) | (with_reducible (refine callOr HPl.out hst m ?_; clear hst; intro w' hst)))
    go_ret
    exact hst.devLay m (fun _ h => h) (fun _ h => Or.inl h) rfl
  · rw [if_neg (by simp)] at hR
    have HMk := Lib.hid (fun wx (hg : GSums wx ∧ GBegin wx ∧ GSha wx) => make_calls (p := none) (c := 0) (l := []) (clock := 0) (start := at_) wx LastAt.none (RowAt.nil ..) (by simp) (by simp) (by simp) (by omega) (mkTx_nil _) (by decide) hg.2.1 hg.2.2 hg.1)
    have hbs := makeB_size none 0 [] at_
    have hbl : (makeB none 0 [] at_).length ≤ 20000 := by
      unfold makeB
      have h2 := splL_len 68 (lastN none) (mkTx [] at_).1 (mkTx_nil _)
      rw [List.length_append, List.length_append, List.length_singleton, show putBlocks (lastN none) [] = [] from rfl, List.length_nil]
      omega
    unfold MakePost at HMk
    rw [needF_nil] at HMk
    generalize makeErr none 0 [] at_ = me at *
    generalize makeB none 0 [] at_ = mb at *
    generalize mkSl none 0 [] at_ = ms at *
    go_wp2_with (first | fail | (with_reducible (refine callB (HN.out _ (HG.out _ _ hst)) hst ?_; clear hst; intro w' hst)) | (with_reducible (refine callOr HPl.out hst m ?_; clear hst; intro w' hst)))
    refine (HMk.out _ (HG.out _ _ hst)).mono ?_
    rintro e w4 ⟨P, LoB, LoE, rfl, hs4, hP⟩
    obtain ⟨D2, hDe⟩ : ∃ D2 : Dat, D2 = (fun p => D p ∨ p ∈ LoB ++ LoE) := ⟨_, rfl⟩
    have hD2 : Hid (∀ p, D2 p → D p ∨ w.heap.size ≤ p.1) := Lib.hid (fun p hp => by
      rw [hDe] at hp
      rcases hp with hp | hp
      · exact Or.inl hp
      · rcases hs4.own p hp with h1 | h1
        · exact Or.inr (Nat.le_trans hst.st.size h1)
        · simp at h1)
    have hD1 : Hid (∀ p, D p → D2 p) := Lib.hid (fun p hp => by rw [hDe]; exact Or.inl hp)
    have hDB : Hid (∀ p ∈ LoB, D2 p) := Lib.hid (fun p hp => by rw [hDe]; exact Or.inr (by simp [hp]))
    have hst : Sx F w w4 (devL g d q) D2 [] := by rw [hDe]; exact (hst.take hs4).lay
    have m : DevMem D2 d q := m.mono hD1.out
    clear hs4 HMk HN HPl HL HUp hDe
    by_cases hme : me = 0
    · subst hme
      rw [if_neg (by simp)] at hR
      obtain ⟨e1, e2, e3, hB, hE⟩ := hP rfl
      obtain ⟨stt, ct, pb, nb, cb, pe, ne, ce, sl⟩ := P
      simp only at e1 e2 e3 hB hE
      subst e1 e2 e3
      obtain ⟨p9, c9, hv9, hrow⟩ := hB.row (by omega) (D := D2) (fun p hp => hDB.out p hp)
      injection hv9 with f1 f2 f3
      subst f1 f3
      subst f2
      have HWr := Lib.hid (fun F wx (hd : DevW D2 F wx g d) => (show Calls Tryz.prog 17 #[.pointer (some ⟨g, 0, none⟩), .agg (plL ⟨stt, 2, pb, mb.length, cb, pe, ne, ce, sl⟩).toArray] wx (DevRet (.int .i64 (cWrite d stt 2 mb).2) D2 F wx g (cWrite d stt 2 mb).1) from cwrite_calls hd hrow (fun s hs => by have := hbs s hs; omega) (by omega) (by omega) (by omega)))
      have HWr2 : Hid (∀ F wx, DevW D2 F wx g d → Calls Tryz.prog 17 #[.pointer (some ⟨g, 0, none⟩), .agg (plL ⟨stt, 2, pb, mb.length, cb, pe, ne, ce, sl⟩).toArray] wx (DevRet (.int .i64 R.2) D2 F wx g R.1)) := by rw [← hR]; exact HWr
      clear hrow hP hB hE
      go_wp2_with (first | (with_reducible first|refine xa rfl rfl rfl hst ?_|(refine xsa rfl rfl rfl rfl hst ?_;clear hst;intro w' hst)|(refine xnw rfl rfl hst ?_;clear hst;intro bn w' hst)) | (with_reducible (refine callO HWr2.out hst m ?_; clear hst m; intro w5 q5 hst m)))
      go_ret
      exact hst.drop.devLay m hD1.out hD2.out rfl
    · rw [if_pos hme] at hR
      subst hR
      go_wp2_with (with_reducible first|(refine xsa rfl rfl rfl rfl hst ?_;clear hst;intro w' hst)|(refine xnw rfl rfl hst ?_;clear hst;intro bn w' hst))
      go_ret
      exact hst.drop.devLay m hD1.out hD2.out rfl
end
end Go.Proofs.YtigihgbgdillpaaGreatDoor
namespace Go.Proofs.YtigihgbgdillpaaGreatDoor
def dA : Dv := dvOf (List.replicate 8 b0)
def dB : Dv := (formatF dA).1
def xB : Fnd := (chainF dB).headD fd0
theorem u1 : chainF dB = [xB] := by kernel_rfl
theorem u2 : (entriesF dB xB.s).2 = 0 := by kernel_rfl
theorem u3 : (entriesF dB xB.s).1.length = 0 := by kernel_rfl
theorem u4 : xB.s.n = 1 ∧ xB.s.clock = 0 ∧ (xB.s.start, xB.s.count, xB.at_) = (0, 1, 1) := by refine ⟨?_, ?_, ?_⟩ <;> kernel_rfl
theorem u5 : dB.off = false ∧ dStates dB = [1, 1, 0, 0, 0, 0, 0, 0] := by refine ⟨?_, ?_⟩ <;> kernel_rfl
end Go.Proofs.YtigihgbgdillpaaGreatDoor
