/- The contract of a device's Crash. -/
import Derived.Test.YtigihgbgdillpaaGreatDoorP25
set_option linter.unusedVariables false
set_option linter.unusedSimpArgs false
set_option maxRecDepth 100000
namespace Go.Proofs.YtigihgbgdillpaaGreatDoor
open Go.RowKit

section
variable {ops : Array Oper} {rest : List Oper} {o : Oper} {a : Act} {w : World} {Q : Exit → Act → World → Prop} {S : List Nat} {w0 : World} {L : List Blk} {D : Dat} {F : List Nat}
theorem of_enter (x : Ac) (w : World) : ∃ f C, (callMethod (acV x) "sealingwax/device.of" #[]).run Tryz.prog w = .ok (.enter f C) w ∧ Calls Tryz.prog f C w (Ret (.int .i64 x.at_) w) := by
  cases x with
  | write a s => exact ⟨192, #[.agg #[.int .i64 a, .string s]], by kernel_rfl, writeof_calls a s w⟩
  | erase a => exact ⟨194, #[.int .i64 a], by kernel_rfl, eraseof_calls a w⟩
/-- 'x.of()'. -/
theorem xof (hw : Region.wanted o (yielded ops a.tmps) = true) {r : Operand} {ty : Array TypeId} (ho : o.op = .call { callee := .invoke r "sealingwax/device.of", args := #[], argTypes := ty }) {x : Ac} (hx : a.eval r = acV x) {j : Int} (hj : x.at_ = j) (h : Sx S w0 w L D F)
    (hk : ∀ w', Sx S w0 w' L D F → wpList Tryz.prog ops Q rest (a.put o.dst (.int .i64 j)) w') : wpList Tryz.prog ops Q (o :: rest) a w :=
  BigFrame.wpList_want hw fun K hK => by
    subst hj
    obtain ⟨f, C, h1, h2⟩ := of_enter x w
    unfold Oper.wp execOp
    simp only [ho, resolve, hx, Sem.run_bind, Sem.run_pure, Result.andThen_ok, List.map_toArray, List.map_nil, invoke]
    have e : (#[acV x] ++ #[] : Array Value) = #[acV x] := rfl
    have e2 : (#[acV x] : Array Value)[0]? = some (acV x) := rfl
    have e3 : (#[acV x] : Array Value).extract 1 (#[acV x] : Array Value).size = #[] := rfl
    simp only [e, e2, e3, h1]
    exact h2.mono fun en w' ⟨he, hb⟩ => by subst he; exact hK _ _ (hk w' (h.below hb))
end
theorem wr_zero_take {C : Array Value} (vs : List Value) (h : vs.length ≤ C.size) : (wr C 0 vs).toList.take vs.length = vs := by
  apply List.ext_getElem?
  intro j
  rw [List.getElem?_take]
  by_cases hj : j < vs.length
  · rw [if_pos hj, Array.getElem?_toList, wr_get _ _ _ _ (by omega), if_pos (by omega), Nat.sub_zero]
  · rw [if_neg hj, List.getElem?_eq_none (by omega)]
theorem Sx.three {S : List Nat} {w0 w : World} {p q r : Blk} {L : List Blk} {D : Dat} {F : List Nat} (h : Sx S w0 w (p :: q :: r :: L) D F) : Sx S w0 w [p, q, r] D F :=
  Sx.takeL (L1 := [p, q, r]) (L2 := L) h
theorem tornF_ok (x : Ac) (b : Bk) (n : Int) (hb : b.Ok) (hx : ∀ a s, x = .write a s → s.size ≤ 1000) : (tornF x b n).Ok := by
  cases x with
  | write a s =>
    unfold tornF
    simp only
    split
    · exact hb
    · exact ⟨Or.inr (Or.inl rfl), by have := hx a s rfl; rw [size_mkS, tornL, List.length_mapIdx, ls_length]; exact this⟩
  | erase a =>
    unfold tornF
    simp only
    split
    · exact hb
    · exact ⟨Or.inr (Or.inr rfl), by decide⟩
theorem Fx.cpy {α : Type} {enc : α → List Value} {k' : Nat} {T TS : TypeId} {ops : Array Oper} {F : Fx.Flow} {Qf : List Blk → Act → Prop} {l : List Nat} {k : Nat} {o : Oper} {L : List Blk} {a : Act} {r : List (Nat × Value)} (h0 : Fx.nthO ops.toList k = some o) (hs : F.special k = true) {x y : Operand} (ho : o.op = .call { callee := .builtin .copy, args := #[x, y], argTypes := #[TS, TS] })
    {gd gs n m cd cs : Nat} {Cd Cs : Array Value} (xs : List α) (hx : Fx.evO r a x = .slice (some ⟨gd, 0, none⟩) n cd) (hy : Fx.evO r a y = .slice (some ⟨gs, 0, none⟩) m cs) [h1 : Has L gd Cd T] [h2 : Has L gs Cs T] [sl : SlT TS T] [e : Elt T k'] [en : Enc enc k'] (hn : n = xs.length) (hm : m = xs.length) (hC : Cs.toList.take (xs.length * k') = xs.flatMap enc) (hd : xs.length * k' ≤ Cd.size) {L' : List Blk} [u : Upd L gd Cd T (wr Cd 0 (xs.flatMap enc)) L'] (hl : F.late k = true)
    (hk : Fx.wpLX ops F Qf l L' (Fx.mkO (Fx.nxt o.dst (.int .i64 xs.length) r) a)) : Fx.wpLX ops F Qf (k :: l) L (Fx.mkO r a) := by
  refine Fx.spec h0 hs (fun L'' v => L'' = L' ∧ v = .int .i64 xs.length) (fun w hw => Or.inl ?_) ?_
  · obtain ⟨i, z, hi, hz, hsz, hby, hzs, hk0⟩ := elt_info T k'
    subst hn hm
    have hg := hw.st.has (g := gd)
    have hg2 := hw.st.has (g := gs)
    have hlen : (xs.flatMap enc).length = xs.length * i.size := by rw [rows_length (k := k'), hsz]
    have hf := run_firstCells_some (P := Tryz.prog) w i.size xs.length ⟨gs, 0, none⟩ xs.length cs (xs.flatMap enc) hlen (fun j v hj => by
      have hjl := (List.getElem?_eq_some_iff.1 hj).1
      rw [addr_add, cell_of_row w gs _ _ _ _ hg2, Nat.zero_add, ← hj, ← hC, List.getElem?_take, if_pos (by rw [← hsz, ← hlen]; exact hjl), Array.getElem?_toList])
    have hst := run_storeCells_at gd 0 T (xs.flatMap enc) 0 Cd w hg (by rw [hlen, hsz]; omega) (rows_one (k := k') xs)
    refine ⟨.int .i64 xs.length, w.setRow gd (wr Cd 0 (xs.flatMap enc)), L', ?_, ⟨rfl, rfl⟩, hw.upd (St.write1 hg)⟩
    have hmin : Nat.min xs.length xs.length = xs.length := Nat.min_self _
    unfold execOp
    simp only [ho, resolve, invoke, builtin, Sem.run_bind, Sem.run_pure, Result.andThen_ok, List.map_toArray, List.map_cons, List.map_nil, hx, hy]
    simp [Builtin.copy_, run_underlying sl.under, sizeOf, typeInfo, hi, Builtin.lenOf, hmin, hf, hst, goInt]
  · rintro L'' v ⟨rfl, rfl⟩
    exact ⟨Or.inl hl, hk⟩
def crashGo : List Ac → Nat → List Int → List Bk → List Bk
  | [], _, _, s => s
  | x :: l, i, keep, s => crashGo l (i + 1) keep (s.set x.at_.toNat (tornF x (s.getD x.at_.toNat b0) (keep.getD i 0)))
def dCrash (d : Dv) (keep : List Int) : Dv × Int :=
  if dOn d ≠ 0 then (d, dOn d) else
  let s := crashGo d.acts 0 keep d.sure
  ({ d with sure := s, now := s, acts := [], off := true, left := -1 }, 0)
set_option maxHeartbeats 2000000 in
theorem dcrash_calls {D : Dat} {F : List Nat} {w : World} {g : Nat} {d : Dv} (h : DevW D F w g d) {p : Option Addr} {c : Nat} {keep : List Int} (hk : RowAt D 3 1 inL p c keep) (hki : ∀ x ∈ keep, I64 x) : Calls Tryz.prog 7 #[.pointer (some ⟨g, 0, none⟩), .slice p keep.length c] w (DevRet (.int .i64 (dCrash d keep).2) D F w g (dCrash d keep).1) := by
  have hst := h.start
  have hd := h
  by_cases hon : dOn d = 0
  case neg =>
    have HR : Hid (dCrash d keep = (d, dOn d)) := Lib.hid (if_pos hon)
    have hne : (dOn d != 0) = true := by simpa using hon
    have HO := Lib.hid (fun w (hd : DevW D F w g d) => don_calls hd)
    generalize dOn d = x at *
    clear hon h
    go_enter Tryz.func7, Tryz.ntmps7
    go_wp2_with (first | (with_reducible (refine callR (HO.out _ hd) hst hd ?_; clear hst hd; intro w' hst hd)))
    go_ret
    rw [HR.out]
    exact ⟨rfl, F, hd, hst.endF, fun x hx => Or.inl hx⟩
  case pos =>
    have HR : Hid (dCrash d keep = ({ d with sure := crashGo d.acts 0 keep d.sure, now := crashGo d.acts 0 keep d.sure, acts := [], off := true, left := -1 }, 0)) := Lib.hid (by unfold dCrash; rw [if_neg (by simp [hon])])
    have HO := Lib.hid (fun w (hd : DevW D F w g d) => don_calls hd)
    have HK := Lib.hid hki
    rw [hon] at HO
    clear hon h hki
    go_enter Tryz.func7, Tryz.ntmps7
    go_wp2_with fail
    refine callR (HO.out _ hd) hst hd ?_
    clear hst hd
    intro w' hst hd
    obtain ⟨q, m, hFq, hst⟩ := hst.openDev hd
    simp only [List.append_nil] at hst
    have hal := m.al
    have hac := m.ac
    obtain ⟨pa, ca, hva⟩ := hac.slice
    rw [hva] at hac
    have hmem : Sx F w w' (devL g { d with sure := d.sure } { q with Cs := q.Cs }) D [] := hst
    have HSt : Hid (q.Cs.toList.take (d.sure.length * 2) = d.sure.flatMap bkL) := Lib.hid m.st
    have HM := Lib.hid m
    have hsl := m.ok.same
    have hmx := m.ok.max
    have HA := Lib.hid m.ok.acts
    have HT := Lib.hid m.ok.adat
    clear m hd hFq
    unfold devL at hst
    have c2 : CellAt (devC d q) 2 (.slice pa d.acts.length ca) := ⟨by rw [← hva]; rfl⟩
    go_wp2_with (with_reducible refine x1 rfl rfl rfl hst ?_)
    clear c2
    go_loopw [20] (fun iv wv => ∃ (k : Nat) (s : List Bk) (Cs' : Array Value), k ≤ d.acts.length ∧ iv = .int .i64 k ∧ s.length = d.sure.length ∧ Cs'.size = q.Cs.size ∧ Hid (Cs'.toList.take (s.length * 2) = s.flatMap bkL) ∧ Hid (∀ b ∈ s, b.Ok) ∧ Sx F w wv ((g, devC d q, 69) :: (q.gs, Cs', 74) :: (q.gn, q.Cn, 74) :: q.La) D [] ∧ Hid (crashGo (d.acts.drop k) k keep s = crashGo d.acts 0 keep d.sure)) (fun iv _ => d.acts.length - (intOf iv).toNat)
    case atStart => exact ⟨0, d.sure, q.Cs, by omega, rfl, rfl, rfl, HSt, Lib.hid HM.out.ok.bsure, hst, Lib.hid rfl⟩
    case round =>
      obtain ⟨k, s, Cs', hk', rfl, hls, hszs, HC, HB, hst, HF⟩ := hrel
      by_cases hlt : k < d.acts.length
      · rcases hac with ⟨_, _, h0⟩ | ⟨ga, ca', Ca, hLa, hva2, hca1, hca2, hca3, hca4⟩
        · rw [h0] at hlt; simp at hlt
        obtain ⟨rfl, rfl⟩ : pa = some ⟨ga, 0, none⟩ ∧ ca = ca' := by injection hva2; exact ⟨by assumption, by assumption⟩
        rw [hLa] at hst
        have hca : CellAt Ca k (acV d.acts[k]) := ⟨by
          have := OwnR.cells (enc := acL) hca4 hlt (j := 0) (by decide)
          simpa using this⟩
        rw [List.drop_eq_getElem_cons hlt] at HF
        obtain ⟨j, hj, hjn⟩ := HA.out _ (List.getElem_mem hlt)
        have HX := Lib.hid (HT.out _ (List.getElem_mem hlt))
        generalize d.acts[k] = x at *
        by_cases hkl : k < keep.length
        · obtain ⟨gk, offk, rfl⟩ := hk.at_some hkl
          have hldk := hk.ld1 hkl rfl
          have HN : Hid (keep.getD k 0 = keep[k]) := Lib.hid (by simp [hkl])
          generalize keep[k] = n at *
          go_wp2_with (first | (with_reducible first|refine x1 rfl rfl rfl hst ?_|refine xd rfl rfl rfl hst ?_) | (with_reducible refine xof rfl rfl rfl hj hst ?_; clear hst; intro w' hst))
          have hjs : j < s.length := by omega
          have hp : PartAt Cs' (j * 2) 2 (bkL s[j]) := ⟨rfl, fun i v hv => by
            have hi : i < 2 := (List.getElem?_eq_some_iff.1 hv).1
            rw [OwnR.cells (enc := bkL) HC.out hjs hi]
            exact hv⟩
          have hW : WrAt Cs' (j * 2) 2 (.agg #[.int .i64 (tornF x s[j] n).st, .string (tornF x s[j] n).data]) (Go.Proofs.YtigihgbgdillpaaGreatDoor.wr Cs' (j * 2) (bkL (tornF x s[j] n))) := wrRow _ _ _ _ rfl (encBk.one (tornF x s[j] n)) (by have := HM.out.ss; have := HM.out.sl; omega)
          have HT2 := Lib.hid (torn_calls x s[j] n (fun a b e => by have := HX.out a b e; omega))
          have HC2 : Hid ((Go.Proofs.YtigihgbgdillpaaGreatDoor.wr Cs' (j * 2) (bkL (tornF x s[j] n))).toList.take ((s.set j (tornF x s[j] n)).length * 2) = (s.set j (tornF x s[j] n)).flatMap bkL) := Lib.hid (by rw [List.length_set]; exact own_set (enc := bkL) (by decide) HC.out hjs (tornF x s[j] n))
          have HF2 : Hid (crashGo (d.acts.drop (k + 1)) (k + 1) keep (s.set j (tornF x s[j] n)) = crashGo d.acts 0 keep d.sure) := Lib.hid (by
            rw [← HF.out, crashGo, hj, HN.out, Int.toNat_natCast]
            simp [hjs])
          have HB2 : Hid (∀ b ∈ s.set j (tornF x s[j] n), b.Ok) := Lib.hid (fun b hb => by
            rcases List.mem_or_eq_of_mem_set hb with h1 | rfl
            · exact HB.out b h1
            · exact tornF_ok x _ n (HB.out _ (List.getElem_mem hjs)) HX.out)
          have hsz2 : (Go.Proofs.YtigihgbgdillpaaGreatDoor.wr Cs' (j * 2) (bkL (tornF x s[j] n))).size = q.Cs.size := by rw [wr_size]; exact hszs
          have hls2 : (s.set j (tornF x s[j] n)).length = d.sure.length := by simpa using hls
          generalize tornF x s[j] n = tb at *
          generalize s[j] = sb at *
          refine Fx.go (fun i => i == 16) (fun i => !(i == 3 || i == 9 || i == 12)) (fun i => i == 16) (List.range 17) rfl hst (by kernel_rfl) (by kernel_rfl) (by kernel_rfl) (by kernel_rfl) (by kernel_rfl) ?_
          repeat (first|refine Fx.val rfl rfl rfl rfl (Fx.e_mv rfl rfl) ?_|refine Fx.val rfl rfl rfl rfl (Fx.e_nil rfl rfl) ?_|refine Fx.fa rfl rfl rfl rfl rfl rfl ?_|refine Fx.l1 rfl rfl rfl rfl rfl rfl ?_|refine Fx.lA rfl rfl rfl rfl rfl rfl ?_|refine Fx.ix rfl rfl rfl rfl rfl rfl rfl (by omega) ?_)
          refine Fx.call rfl rfl HT2.out rfl rfl (fun w => by kernel_rfl) ?_
          repeat (first|refine Fx.ix rfl rfl rfl rfl rfl rfl rfl (by omega) ?_|refine Fx.stA rfl rfl rfl rfl rfl (Or.inl rfl) ?_)
          clear hst
          intro w' hst
          simp only [Fx.nxt_some, Fx.nxt_none, Fx.mkO_cons, Fx.mkO_nil, Fx.evO_eq]
          go_wp2_with fail
          go_roundw
          case rel => exact ⟨k + 1, _, _, by omega, by go_num, hls2, hsz2, HC2, HB2, by rw [hLa]; exact hst, HF2⟩
          case measure => simp [intOf]; omega
        · have HN : Hid (keep.getD k 0 = 0) := Lib.hid (by simp [List.getElem?_eq_none (Nat.le_of_not_lt hkl)])
          go_wp2_with (first | (with_reducible refine x1 rfl rfl rfl hst ?_) | (with_reducible refine xof rfl rfl rfl hj hst ?_; clear hst; intro w' hst))
          have hjs : j < s.length := by omega
          have hp : PartAt Cs' (j * 2) 2 (bkL s[j]) := ⟨rfl, fun i v hv => by
            have hi : i < 2 := (List.getElem?_eq_some_iff.1 hv).1
            rw [OwnR.cells (enc := bkL) HC.out hjs hi]
            exact hv⟩
          have hW : WrAt Cs' (j * 2) 2 (.agg #[.int .i64 (tornF x s[j] 0).st, .string (tornF x s[j] 0).data]) (Go.Proofs.YtigihgbgdillpaaGreatDoor.wr Cs' (j * 2) (bkL (tornF x s[j] 0))) := wrRow _ _ _ _ rfl (encBk.one (tornF x s[j] 0)) (by have := HM.out.ss; have := HM.out.sl; omega)
          have HT2 := Lib.hid (torn_calls x s[j] 0 (fun a b e => by have := HX.out a b e; omega))
          have HC2 : Hid ((Go.Proofs.YtigihgbgdillpaaGreatDoor.wr Cs' (j * 2) (bkL (tornF x s[j] 0))).toList.take ((s.set j (tornF x s[j] 0)).length * 2) = (s.set j (tornF x s[j] 0)).flatMap bkL) := Lib.hid (by rw [List.length_set]; exact own_set (enc := bkL) (by decide) HC.out hjs (tornF x s[j] 0))
          have HF2 : Hid (crashGo (d.acts.drop (k + 1)) (k + 1) keep (s.set j (tornF x s[j] 0)) = crashGo d.acts 0 keep d.sure) := Lib.hid (by
            rw [← HF.out, crashGo, hj, HN.out, Int.toNat_natCast]
            simp [hjs])
          have HB2 : Hid (∀ b ∈ s.set j (tornF x s[j] 0), b.Ok) := Lib.hid (fun b hb => by
            rcases List.mem_or_eq_of_mem_set hb with h1 | rfl
            · exact HB.out b h1
            · exact tornF_ok x _ 0 (HB.out _ (List.getElem_mem hjs)) HX.out)
          have hsz2 : (Go.Proofs.YtigihgbgdillpaaGreatDoor.wr Cs' (j * 2) (bkL (tornF x s[j] 0))).size = q.Cs.size := by rw [wr_size]; exact hszs
          have hls2 : (s.set j (tornF x s[j] 0)).length = d.sure.length := by simpa using hls
          generalize tornF x s[j] 0 = tb at *
          generalize s[j] = sb at *
          refine Fx.go (fun i => i == 16) (fun i => !(i == 3 || i == 9 || i == 12)) (fun i => i == 16) (List.range 17) rfl hst (by kernel_rfl) (by kernel_rfl) (by kernel_rfl) (by kernel_rfl) (by kernel_rfl) ?_
          repeat (first|refine Fx.val rfl rfl rfl rfl (Fx.e_mv rfl rfl) ?_|refine Fx.val rfl rfl rfl rfl (Fx.e_nil rfl rfl) ?_|refine Fx.fa rfl rfl rfl rfl rfl rfl ?_|refine Fx.l1 rfl rfl rfl rfl rfl rfl ?_|refine Fx.lA rfl rfl rfl rfl rfl rfl ?_|refine Fx.ix rfl rfl rfl rfl rfl rfl rfl (by omega) ?_)
          refine Fx.call rfl rfl HT2.out rfl rfl (fun w => by kernel_rfl) ?_
          repeat (first|refine Fx.ix rfl rfl rfl rfl rfl rfl rfl (by omega) ?_|refine Fx.stA rfl rfl rfl rfl rfl (Or.inl rfl) ?_)
          clear hst
          intro w' hst
          simp only [Fx.nxt_some, Fx.nxt_none, Fx.mkO_cons, Fx.mkO_nil, Fx.evO_eq]
          go_wp2_with fail
          go_roundw
          case rel => exact ⟨k + 1, _, _, by omega, by go_num, hls2, hsz2, HC2, HB2, by rw [hLa]; exact hst, HF2⟩
          case measure => simp [intOf]; omega
      · obtain rfl : k = d.acts.length := by omega
        rw [List.drop_length] at HF
        have hcp : (Go.Proofs.YtigihgbgdillpaaGreatDoor.wr q.Cn 0 (s.flatMap bkL)).toList.take (s.length * 2) = s.flatMap bkL := by
          have := wr_zero_take (C := q.Cn) (s.flatMap bkL) (by rw [rows_length (k := 2)]; have := HM.out.ns; have := HM.out.nl; omega)
          rwa [rows_length (k := 2)] at this
        have HCP := Lib.hid hcp
        have HCD : Hid (s.length * 2 ≤ q.Cn.size) := Lib.hid (by have := HM.out.ns; have := HM.out.nl; omega)
        clear hcp
        go_wp2_with fail
        refine Fx.go (fun i => i == 8) (fun i => !(i == 3 || i == 7)) (fun i => i == 8) (List.range 9) rfl hst (by kernel_rfl) (by kernel_rfl) (by kernel_rfl) (by kernel_rfl) (by kernel_rfl) ?_
        repeat (first|refine Fx.val rfl rfl rfl rfl (Fx.e_mv rfl rfl) ?_|refine Fx.val rfl rfl rfl rfl (Fx.e_nil rfl rfl) ?_|refine Fx.fa rfl rfl rfl rfl rfl rfl ?_|refine Fx.l1 rfl rfl rfl rfl rfl rfl ?_)
        refine Fx.cpy (enc := bkL) rfl rfl rfl s rfl rfl (by omega) (by omega) HC.out HCD.out rfl ?_
        clear hst
        intro w' hst
        simp only [Fx.nxt_some, Fx.nxt_none, Fx.mkO_cons, Fx.mkO_nil, Fx.evO_eq]
        go_wp2_with (with_reducible first|(refine xsi rfl rfl rfl rfl hst ?_;clear hst;intro w' hst)|(refine xsb rfl rfl rfl rfl hst ?_;clear hst;intro w' hst)|(refine xsl rfl rfl rfl rfl hst ?_;clear hst;intro w' hst))
        go_ret
        rw [HR.out]
        have hs : s = crashGo d.acts 0 keep d.sure := HF.out
        rw [← hs]
        have m := HM.out
        obtain ⟨F', h1, h2, h3⟩ := Sx.closeDev0 (g := g) (d := { d with sure := s, now := s, acts := [], off := true, left := -1 }) (q := { q with Cs := Cs', Cn := Go.Proofs.YtigihgbgdillpaaGreatDoor.wr q.Cn 0 (s.flatMap bkL), va := .slice none 0 0, La := [] })
          hst.three
          ⟨⟨rfl, by simp only; rw [hls, hsl]; exact m.ok.min, by simp only; omega, fun a ha => by simp at ha, fun a ha => by simp at ha, HB.out, HB.out, by unfold I64; simp only; omega, m.ok.keep⟩, by simp only; rw [hls]; exact m.sl, by simp only; rw [hszs]; exact m.ss, HC.out, by simp only; rw [hls, hsl]; exact m.nl, by simp only; rw [wr_size]; exact m.ns, HCP.out, OwnR.none _, by simp, m.kp⟩ (by simp only [devL, devC, hls, hsl])
        exact ⟨rfl, F', h1, h2, h3⟩
end Go.Proofs.YtigihgbgdillpaaGreatDoor
