/- The contract of plans.check. -/
import Derived.Test.YtigihgbgdillpaaGreatDoorP33
set_option linter.unusedVariables false
set_option linter.unusedSimpArgs false
set_option maxRecDepth 100000
namespace Go.Proofs.YtigihgbgdillpaaGreatDoor
open Go.RowKit

theorem act_lit (act : Act) (n : Nat) (hn : act.tmps.size = n) (hd : act.defers = []) : ∃ f : Nat → Value, (∀ i, act.tmps.getD i undef = f i) ∧ act = ⟨((List.range n).map f).toArray, []⟩ := by
  refine ⟨fun i => act.tmps.getD i undef, fun i => rfl, ?_⟩
  obtain ⟨t, d⟩ := act
  simp only at hn hd
  subst hn hd
  congr 1
  apply Array.ext
  · simp
  · intro i h1 h2
    simp [h1]
/-- A put: an entry, and a record's bytes. -/
structure Pu where
  e : Ent
  text : ByteArray
abbrev puL (p : Pu) : List Value := entL p.e ++ [.string p.text]
abbrev puC (p : Pu) : Array Value := (puL p).toArray
def pu0 : Pu := ⟨ent0, ⟨#[]⟩⟩
theorem puL_one (p : Pu) : (puL p).all (·.oneCell') = true := rfl
instance encPu : Enc puL 40 := ⟨fun _ => rfl, fun x v hv => List.all_eq_true.1 (puL_one x) v hv⟩
instance aggPu : AggT 89 40 := ⟨fun w => by kernel_rfl, by kernel_rfl⟩
instance eltPu : Elt 89 40 := ⟨.agg (puC pu0), 112, by kernel_rfl, rfl, by decide, by decide⟩
instance zeroPu : ZeroT 89 (puC pu0) := .agg fun w => by kernel_rfl
instance wrPu (p q : Pu) : WrAt (puC p) 0 40 (.agg (puC q)) (puC q) := wr_row _ _ _ _ (puL q) rfl rfl (Nat.le_of_ble_eq_true rfl) (by kernel_rfl)
instance fldPu0 : Fx.FldT 89 0 0 := ⟨fun ad w => by kernel_rfl⟩
instance fldPu1 : Fx.FldT 89 1 39 := ⟨fun ad w => by kernel_rfl⟩
instance fldEn0 : Fx.FldT 87 0 0 := ⟨fun ad w => by kernel_rfl⟩
instance fldEn3 : Fx.FldT 87 3 3 := ⟨fun ad w => by kernel_rfl⟩
instance fldEn5 : Fx.FldT 87 5 5 := ⟨fun ad w => by kernel_rfl⟩
instance puc0 (p : Pu) : CellAt (puC p) 0 (.int .i64 p.e.kind) := ⟨rfl⟩
instance puc3 (p : Pu) : CellAt (puC p) 3 (.int .i64 p.e.len) := ⟨rfl⟩
instance puc39 (p : Pu) : CellAt (puC p) 39 (.string p.text) := ⟨rfl⟩
instance pupAll (p : Pu) : PartAt (puC p) 0 40 (puL p) := ⟨rfl, fun j v h => by rw [Nat.zero_add]; simpa using h⟩
instance pupEnt (p : Pu) : PartAt (puC p) 0 39 (entL p.e) := part_mid [] (entL p.e) [.string p.text] 0 39 rfl rfl
instance pupHash (p : Pu) : PartAt (puC p) 5 32 (hashL p.e.hash) := by
  have h := part_mid [.int .i64 p.e.kind, .int .i64 p.e.stream, .int .i64 p.e.n, .int .i64 p.e.len, .string p.e.name] (hashL p.e.hash) [.int .i64 p.e.start, .int .i64 p.e.count, .string p.text] 5 32 rfl rfl
  exact h
theorem e_neqs {ρ : Operand → Value} {o : Oper} {x y : Operand} {T U : TypeId} {s u : ByteArray} {b : Bool} (ho : o.op = .binOp .neq T x y U) (hx : ρ x = .string s) (hy : ρ y = .string u) (hb : (!(s.toList == u.toList)) = b) (w : World) : (execOp ρ o).run Tryz.prog w = .ok (.value (.bool b)) w := by
  unfold execOp
  rw [ho]
  have hg : (eqGuard .neq T x y (.string s) (.string u)).run Tryz.prog w = .ok () w := rfl
  simp only [hx, hy, Sem.run_bind, hg, Result.andThen_ok, binOp_string_neq, hb]
  rfl
/-- What is wrong with a put. -/
def puBad (p : Pu) : Bool := (decide (p.e.kind = 2) && (decide (p.e.len ≠ p.text.size) || (h32 p.e.hash != h32 (leafF (ls p.text))))) || (decide (p.e.kind ≠ 2) && !(p.text.toList == noS.toList))
def chkF (l : List Pu) : Int := if 200 < l.length then 3 else if l.any puBad then 2 else 0
theorem puCases (p : Pu) (r : Bool) (hr : puBad p = r) :
    (decide (p.e.kind = 2) = true ∧ decide (p.e.len ≠ p.text.size) = true ∧ Hid (r = true)) ∨
    (decide (p.e.kind = 2) = true ∧ decide (p.e.len ≠ p.text.size) = false ∧ (h32 p.e.hash != h32 (leafF (ls p.text))) = true ∧ decide (p.e.kind ≠ 2) = false ∧ Hid (r = true)) ∨
    (decide (p.e.kind = 2) = true ∧ decide (p.e.len ≠ p.text.size) = false ∧ (h32 p.e.hash != h32 (leafF (ls p.text))) = false ∧ decide (p.e.kind ≠ 2) = false ∧ Hid (r = false)) ∨
    (decide (p.e.kind = 2) = false ∧ decide (p.e.kind ≠ 2) = true ∧ (!(p.text.toList == noS.toList)) = true ∧ Hid (r = true)) ∨
    (decide (p.e.kind = 2) = false ∧ decide (p.e.kind ≠ 2) = true ∧ (!(p.text.toList == noS.toList)) = false ∧ Hid (r = false)) := by
  subst hr
  unfold puBad
  have hd : decide (p.e.kind ≠ 2) = !decide (p.e.kind = 2) := by simp
  rw [hd]
  generalize decide (p.e.kind = 2) = b0
  generalize decide (p.e.len ≠ p.text.size) = b1
  generalize (h32 p.e.hash != h32 (leafF (ls p.text))) = b2
  generalize (p.text.toList == noS.toList) = b4
  cases b0 <;> cases b1 <;> cases b2 <;> cases b4 <;> simp [Lib.hid, Hid]
set_option maxHeartbeats 4000000 in
theorem pcheck_calls {p : Option Addr} {c : Nat} {l : List Pu} (w : World) (hr : RowAt (snap w) 89 40 puL p c l) (hl : l.length ≤ 1000000) (ht : ∀ x ∈ l, x.text.size ≤ 999999) (hB : GBegin w) (hG : GSha w) :
    Calls Tryz.prog 29 #[.slice p l.length c] w (Ret (.int .i64 (chkF l)) w) := by
  have hst := Sx.start0 w (snap_holds w)
  go_enter Tryz.func29, Tryz.ntmps29
  go_wp2_with fail
  · go_ret
    have h200 : 200 < l.length := by omega
    exact ⟨by rw [show chkF l = 3 by unfold chkF; rw [if_pos h200]]; rfl, hst.end⟩
  · have h200 : ¬ 200 < l.length := by omega
    have HC : Hid (chkF l = if l.any puBad then 2 else 0) := Lib.hid (by unfold chkF; rw [if_neg h200])
    go_loopw [10] (fun iv wr => ∃ k : Nat, k ≤ l.length ∧ iv = .int .i64 k ∧ Hid ((l.take k).any puBad = false) ∧ Sx [] w wr [] (snap w) []) (fun iv _ => l.length - (intOf iv).toNat)
    case atStart => exact ⟨0, Nat.zero_le _, by go_num, Lib.hid (by simp), hst⟩
    case round =>
      obtain ⟨k, hk, rfl, HK, hst⟩ := hrel
      by_cases hlt : k < l.length
      · obtain ⟨g, off, rfl⟩ := hr.at_some hlt
        have hld := hr.lda hlt
        have hsz := ht _ (List.getElem_mem hlt)
        have HR : ∀ {r}, puBad l[k] = r → r = true → Ending.returned (.int .i64 2) = .returned (.int .i64 (chkF l)) := fun h1 h2 => by rw [HC.out, if_pos (List.any_eq_true.2 ⟨_, List.getElem_mem hlt, h1.trans h2⟩)]
        have HN : ∀ {r}, puBad l[k] = r → r = false → Hid ((l.take (k + 1)).any puBad = false) := fun h1 h2 => Lib.hid (by rw [List.take_succ_eq_append_getElem hlt, List.any_append, HK.out, List.any_cons, h1, h2]; rfl)
        generalize l[k] = x at *
        have HL := Lib.hid (fun w h1 h2 => leaf_calls x.text hsz w h1 h2)
        obtain ⟨r, hxr⟩ : ∃ r, puBad x = r := ⟨_, rfl⟩
        have HR := HR hxr
        have HN := HN hxr
        have hcs := puCases x r hxr
        clear hxr hsz
        go_wp2_with (with_reducible first|refine xd rfl rfl rfl hst ?_|(refine xsa rfl rfl rfl rfl hst ?_;clear hst;intro w' hst)|(refine xnw rfl rfl hst ?_;clear hst;intro bn w' hst))
        refine Fx.go (fun _ => false) (fun i => !(i == 2 || i == 7 || i == 9 || i == 15 || i == 17 || i == 18 || i == 25 || i == 29)) (fun _ => false) (List.range 33) rfl hst (by kernel_rfl) (by kernel_rfl) (by kernel_rfl) (by kernel_rfl) (by kernel_rfl) ?_
        show Fx.wpLX _ _ _ [0, 1, 2, 3, 4, 5, 6, 7, 8, 9, 10, 11, 12, 13, 14, 15, 16, 17, 18, 19, 20, 21, 22, 23, 24, 25, 26, 27, 28, 29, 30, 31, 32] _ _
        rcases hcs with h | h | h | h | h
-- CHKCASES
        · obtain ⟨h0, h1, hP⟩ := h
          refine Fx.fa rfl rfl rfl rfl rfl rfl ?_
          refine Fx.fa rfl rfl rfl rfl rfl rfl ?_
          refine Fx.l1 rfl rfl rfl rfl rfl rfl ?_
          refine Fx.val (v := .bool true) rfl rfl rfl rfl (Fx.e_eql rfl rfl rfl h0) ?_
          refine Fx.val (v := .bool true) rfl rfl rfl rfl (Fx.e_mv rfl rfl) ?_
          refine Fx.fa rfl rfl rfl (by kernel_rfl) rfl rfl ?_
          refine Fx.fa rfl rfl rfl (by kernel_rfl) rfl rfl ?_
          refine Fx.l1 rfl rfl rfl (by kernel_rfl) rfl rfl ?_
          refine Fx.fa rfl rfl rfl (by kernel_rfl) rfl rfl ?_
          refine Fx.l1 rfl rfl rfl (by kernel_rfl) rfl rfl ?_
          refine Fx.val (v := .int .i64 x.text.size) rfl rfl rfl (by kernel_rfl) (fun w => by kernel_rfl) ?_
          refine Fx.val (v := .bool true) rfl rfl rfl (by kernel_rfl) (Fx.e_neq rfl rfl rfl h1) ?_
          refine Fx.val (v := .bool true) rfl rfl rfl (by kernel_rfl) (Fx.e_mv rfl rfl) ?_
          refine Fx.skip rfl rfl (by kernel_rfl) rfl ?_
          refine Fx.skip rfl rfl (by kernel_rfl) rfl ?_
          refine Fx.skipB rfl rfl (by kernel_rfl) (fun w h => h) ?_
          refine Fx.skip rfl rfl (by kernel_rfl) rfl ?_
          refine Fx.skipB rfl rfl (by kernel_rfl) (fun w h => h) ?_
          refine Fx.skipB rfl rfl (by kernel_rfl) (fun w h => h) ?_
          refine Fx.skip rfl rfl (by kernel_rfl) rfl ?_
          refine Fx.val (v := .bool true) rfl rfl rfl (by kernel_rfl) (Fx.e_pkT rfl rfl rfl) ?_
          refine Fx.val (v := .bool true) rfl rfl rfl rfl (Fx.e_pkT rfl rfl rfl) ?_
          refine Fx.val (v := .bool true) rfl rfl rfl rfl (Fx.e_mv rfl rfl) ?_
          refine Fx.skip rfl rfl (by kernel_rfl) rfl ?_
          refine Fx.skip rfl rfl (by kernel_rfl) rfl ?_
          refine Fx.skipB rfl rfl (by kernel_rfl) (fun w h => h) ?_
          refine Fx.skip rfl rfl (by kernel_rfl) rfl ?_
          refine Fx.skip rfl rfl (by kernel_rfl) rfl ?_
          refine Fx.skip rfl rfl (by kernel_rfl) rfl ?_
          refine Fx.skipB rfl rfl (by kernel_rfl) (fun w h => h) ?_
          refine Fx.skip rfl rfl (by kernel_rfl) rfl ?_
          refine Fx.skip rfl rfl (by kernel_rfl) rfl ?_
          refine Fx.val (v := .bool true) rfl rfl rfl rfl (Fx.e_pkT rfl rfl rfl) ?_
          clear hst
          intro w' hst
          generalize hact : Fx.mkO _ _ = act
          have hv0 : act.tmps.getD 0 undef = .slice (some ⟨g, off, none⟩) l.length c := by rw [← hact]; kernel_rfl
          have hv1 : act.tmps.getD 1 undef = undef := by rw [← hact]; kernel_rfl
          have hv3 : act.tmps.getD 3 undef = undef := by rw [← hact]; kernel_rfl
          have hv5 : act.tmps.getD 5 undef = .slice (some ⟨g, off, none⟩) l.length c := by rw [← hact]; kernel_rfl
          have hv6 : act.tmps.getD 6 undef = .int .i64 l.length := by rw [← hact]; kernel_rfl
          have hv7 : act.tmps.getD 7 undef = .bool (decide (200 < (l.length : Int))) := by rw [← hact]; kernel_rfl
          have hv8 : act.tmps.getD 8 undef = .slice (some ⟨g, off, none⟩) l.length c := by rw [← hact]; kernel_rfl
          have hv9 : act.tmps.getD 9 undef = .int .i64 l.length := by rw [← hact]; kernel_rfl
          have hv10 : act.tmps.getD 10 undef = .int .i64 k := by rw [← hact]; kernel_rfl
          have hv46 : act.tmps.getD 46 undef = .bool true := by rw [← hact]; kernel_rfl
          obtain ⟨fZ, hfZ, hact2⟩ := act_lit act 48 (by rw [← hact]; kernel_rfl) (by rw [← hact]; kernel_rfl)
          clear hact
          have he0 : fZ 0 = .slice (some ⟨g, off, none⟩) l.length c := (hfZ 0).symm.trans hv0
          have he1 : fZ 1 = undef := (hfZ 1).symm.trans hv1
          have he3 : fZ 3 = undef := (hfZ 3).symm.trans hv3
          have he5 : fZ 5 = .slice (some ⟨g, off, none⟩) l.length c := (hfZ 5).symm.trans hv5
          have he6 : fZ 6 = .int .i64 l.length := (hfZ 6).symm.trans hv6
          have he7 : fZ 7 = .bool (decide (200 < (l.length : Int))) := (hfZ 7).symm.trans hv7
          have he8 : fZ 8 = .slice (some ⟨g, off, none⟩) l.length c := (hfZ 8).symm.trans hv8
          have he9 : fZ 9 = .int .i64 l.length := (hfZ 9).symm.trans hv9
          have he10 : fZ 10 = .int .i64 k := (hfZ 10).symm.trans hv10
          have he46 : fZ 46 = .bool true := (hfZ 46).symm.trans hv46
          have hlit : (List.range 48).map fZ = [.slice (some ⟨g, off, none⟩) l.length c, undef, fZ 2, undef, fZ 4, .slice (some ⟨g, off, none⟩) l.length c, .int .i64 l.length, .bool (decide (200 < (l.length : Int))), .slice (some ⟨g, off, none⟩) l.length c, .int .i64 l.length, .int .i64 k, fZ 11, fZ 12, fZ 13, fZ 14, fZ 15, fZ 16, fZ 17, fZ 18, fZ 19, fZ 20, fZ 21, fZ 22, fZ 23, fZ 24, fZ 25, fZ 26, fZ 27, fZ 28, fZ 29, fZ 30, fZ 31, fZ 32, fZ 33, fZ 34, fZ 35, fZ 36, fZ 37, fZ 38, fZ 39, fZ 40, fZ 41, fZ 42, fZ 43, fZ 44, fZ 45, .bool true, fZ 47] := by simp only [show List.range 48 = [0, 1, 2, 3, 4, 5, 6, 7, 8, 9, 10, 11, 12, 13, 14, 15, 16, 17, 18, 19, 20, 21, 22, 23, 24, 25, 26, 27, 28, 29, 30, 31, 32, 33, 34, 35, 36, 37, 38, 39, 40, 41, 42, 43, 44, 45, 46, 47] from rfl, List.map_cons, List.map_nil, he0, he1, he3, he5, he6, he7, he8, he9, he10, he46]
          rw [hlit] at hact2
          clear hfZ hlit hv0 he0 hv1 he1 hv3 he3 hv5 he5 hv6 he6 hv7 he7 hv8 he8 hv9 he9 hv10 he10 hv46 he46
          subst hact2
          go_wp2_with fail
          go_ret
          exact ⟨HR hP.out, hst.end⟩
        · obtain ⟨h0, h1, h2, h3, hP⟩ := h
          refine Fx.fa rfl rfl rfl rfl rfl rfl ?_
          refine Fx.fa rfl rfl rfl rfl rfl rfl ?_
          refine Fx.l1 rfl rfl rfl rfl rfl rfl ?_
          refine Fx.val (v := .bool true) rfl rfl rfl rfl (Fx.e_eql rfl rfl rfl h0) ?_
          refine Fx.val (v := .bool true) rfl rfl rfl rfl (Fx.e_mv rfl rfl) ?_
          refine Fx.fa rfl rfl rfl (by kernel_rfl) rfl rfl ?_
          refine Fx.fa rfl rfl rfl (by kernel_rfl) rfl rfl ?_
          refine Fx.l1 rfl rfl rfl (by kernel_rfl) rfl rfl ?_
          refine Fx.fa rfl rfl rfl (by kernel_rfl) rfl rfl ?_
          refine Fx.l1 rfl rfl rfl (by kernel_rfl) rfl rfl ?_
          refine Fx.val (v := .int .i64 x.text.size) rfl rfl rfl (by kernel_rfl) (fun w => by kernel_rfl) ?_
          refine Fx.val (v := .bool false) rfl rfl rfl (by kernel_rfl) (Fx.e_neq rfl rfl rfl h1) ?_
          refine Fx.val (v := .bool false) rfl rfl rfl (by kernel_rfl) (Fx.e_mv rfl rfl) ?_
          refine Fx.fa rfl rfl rfl (by kernel_rfl) rfl rfl ?_
          refine Fx.fa rfl rfl rfl (by kernel_rfl) rfl rfl ?_
          refine Fx.lA rfl rfl rfl (by kernel_rfl) rfl rfl ?_
          refine Fx.fa rfl rfl rfl (by kernel_rfl) rfl rfl ?_
          refine Fx.l1 rfl rfl rfl (by kernel_rfl) rfl rfl ?_
          refine Fx.callB rfl rfl (fun w h => h) (fun w h => HL.out w (hB.below h.end) (hG.below h.end)) rfl (by kernel_rfl) (fun w => by kernel_rfl) ?_
          refine Fx.val (v := .bool true) rfl rfl rfl (by kernel_rfl) (Fx.e_neqh rfl rfl rfl h2) ?_
          refine Fx.val (v := .bool true) rfl rfl rfl (by kernel_rfl) (Fx.e_pkF rfl rfl rfl) ?_
          refine Fx.val (v := .bool true) rfl rfl rfl rfl (Fx.e_pkT rfl rfl rfl) ?_
          refine Fx.val (v := .bool true) rfl rfl rfl rfl (Fx.e_mv rfl rfl) ?_
          refine Fx.skip rfl rfl (by kernel_rfl) rfl ?_
          refine Fx.skip rfl rfl (by kernel_rfl) rfl ?_
          refine Fx.skipB rfl rfl (by kernel_rfl) (fun w h => h) ?_
          refine Fx.skip rfl rfl (by kernel_rfl) rfl ?_
          refine Fx.skip rfl rfl (by kernel_rfl) rfl ?_
          refine Fx.skip rfl rfl (by kernel_rfl) rfl ?_
          refine Fx.skipB rfl rfl (by kernel_rfl) (fun w h => h) ?_
          refine Fx.skip rfl rfl (by kernel_rfl) rfl ?_
          refine Fx.skip rfl rfl (by kernel_rfl) rfl ?_
          refine Fx.val (v := .bool true) rfl rfl rfl rfl (Fx.e_pkT rfl rfl rfl) ?_
          clear hst
          intro w' hst
          generalize hact : Fx.mkO _ _ = act
          have hv0 : act.tmps.getD 0 undef = .slice (some ⟨g, off, none⟩) l.length c := by rw [← hact]; kernel_rfl
          have hv1 : act.tmps.getD 1 undef = undef := by rw [← hact]; kernel_rfl
          have hv3 : act.tmps.getD 3 undef = undef := by rw [← hact]; kernel_rfl
          have hv5 : act.tmps.getD 5 undef = .slice (some ⟨g, off, none⟩) l.length c := by rw [← hact]; kernel_rfl
          have hv6 : act.tmps.getD 6 undef = .int .i64 l.length := by rw [← hact]; kernel_rfl
          have hv7 : act.tmps.getD 7 undef = .bool (decide (200 < (l.length : Int))) := by rw [← hact]; kernel_rfl
          have hv8 : act.tmps.getD 8 undef = .slice (some ⟨g, off, none⟩) l.length c := by rw [← hact]; kernel_rfl
          have hv9 : act.tmps.getD 9 undef = .int .i64 l.length := by rw [← hact]; kernel_rfl
          have hv10 : act.tmps.getD 10 undef = .int .i64 k := by rw [← hact]; kernel_rfl
          have hv46 : act.tmps.getD 46 undef = .bool true := by rw [← hact]; kernel_rfl
          obtain ⟨fZ, hfZ, hact2⟩ := act_lit act 48 (by rw [← hact]; kernel_rfl) (by rw [← hact]; kernel_rfl)
          clear hact
          have he0 : fZ 0 = .slice (some ⟨g, off, none⟩) l.length c := (hfZ 0).symm.trans hv0
          have he1 : fZ 1 = undef := (hfZ 1).symm.trans hv1
          have he3 : fZ 3 = undef := (hfZ 3).symm.trans hv3
          have he5 : fZ 5 = .slice (some ⟨g, off, none⟩) l.length c := (hfZ 5).symm.trans hv5
          have he6 : fZ 6 = .int .i64 l.length := (hfZ 6).symm.trans hv6
          have he7 : fZ 7 = .bool (decide (200 < (l.length : Int))) := (hfZ 7).symm.trans hv7
          have he8 : fZ 8 = .slice (some ⟨g, off, none⟩) l.length c := (hfZ 8).symm.trans hv8
          have he9 : fZ 9 = .int .i64 l.length := (hfZ 9).symm.trans hv9
          have he10 : fZ 10 = .int .i64 k := (hfZ 10).symm.trans hv10
          have he46 : fZ 46 = .bool true := (hfZ 46).symm.trans hv46
          have hlit : (List.range 48).map fZ = [.slice (some ⟨g, off, none⟩) l.length c, undef, fZ 2, undef, fZ 4, .slice (some ⟨g, off, none⟩) l.length c, .int .i64 l.length, .bool (decide (200 < (l.length : Int))), .slice (some ⟨g, off, none⟩) l.length c, .int .i64 l.length, .int .i64 k, fZ 11, fZ 12, fZ 13, fZ 14, fZ 15, fZ 16, fZ 17, fZ 18, fZ 19, fZ 20, fZ 21, fZ 22, fZ 23, fZ 24, fZ 25, fZ 26, fZ 27, fZ 28, fZ 29, fZ 30, fZ 31, fZ 32, fZ 33, fZ 34, fZ 35, fZ 36, fZ 37, fZ 38, fZ 39, fZ 40, fZ 41, fZ 42, fZ 43, fZ 44, fZ 45, .bool true, fZ 47] := by simp only [show List.range 48 = [0, 1, 2, 3, 4, 5, 6, 7, 8, 9, 10, 11, 12, 13, 14, 15, 16, 17, 18, 19, 20, 21, 22, 23, 24, 25, 26, 27, 28, 29, 30, 31, 32, 33, 34, 35, 36, 37, 38, 39, 40, 41, 42, 43, 44, 45, 46, 47] from rfl, List.map_cons, List.map_nil, he0, he1, he3, he5, he6, he7, he8, he9, he10, he46]
          rw [hlit] at hact2
          clear hfZ hlit hv0 he0 hv1 he1 hv3 he3 hv5 he5 hv6 he6 hv7 he7 hv8 he8 hv9 he9 hv10 he10 hv46 he46
          subst hact2
          go_wp2_with fail
          go_ret
          exact ⟨HR hP.out, hst.end⟩
        · obtain ⟨h0, h1, h2, h3, hP⟩ := h
          refine Fx.fa rfl rfl rfl rfl rfl rfl ?_
          refine Fx.fa rfl rfl rfl rfl rfl rfl ?_
          refine Fx.l1 rfl rfl rfl rfl rfl rfl ?_
          refine Fx.val (v := .bool true) rfl rfl rfl rfl (Fx.e_eql rfl rfl rfl h0) ?_
          refine Fx.val (v := .bool true) rfl rfl rfl rfl (Fx.e_mv rfl rfl) ?_
          refine Fx.fa rfl rfl rfl (by kernel_rfl) rfl rfl ?_
          refine Fx.fa rfl rfl rfl (by kernel_rfl) rfl rfl ?_
          refine Fx.l1 rfl rfl rfl (by kernel_rfl) rfl rfl ?_
          refine Fx.fa rfl rfl rfl (by kernel_rfl) rfl rfl ?_
          refine Fx.l1 rfl rfl rfl (by kernel_rfl) rfl rfl ?_
          refine Fx.val (v := .int .i64 x.text.size) rfl rfl rfl (by kernel_rfl) (fun w => by kernel_rfl) ?_
          refine Fx.val (v := .bool false) rfl rfl rfl (by kernel_rfl) (Fx.e_neq rfl rfl rfl h1) ?_
          refine Fx.val (v := .bool false) rfl rfl rfl (by kernel_rfl) (Fx.e_mv rfl rfl) ?_
          refine Fx.fa rfl rfl rfl (by kernel_rfl) rfl rfl ?_
          refine Fx.fa rfl rfl rfl (by kernel_rfl) rfl rfl ?_
          refine Fx.lA rfl rfl rfl (by kernel_rfl) rfl rfl ?_
          refine Fx.fa rfl rfl rfl (by kernel_rfl) rfl rfl ?_
          refine Fx.l1 rfl rfl rfl (by kernel_rfl) rfl rfl ?_
          refine Fx.callB rfl rfl (fun w h => h) (fun w h => HL.out w (hB.below h.end) (hG.below h.end)) rfl (by kernel_rfl) (fun w => by kernel_rfl) ?_
          refine Fx.val (v := .bool false) rfl rfl rfl (by kernel_rfl) (Fx.e_neqh rfl rfl rfl h2) ?_
          refine Fx.val (v := .bool false) rfl rfl rfl (by kernel_rfl) (Fx.e_pkF rfl rfl rfl) ?_
          refine Fx.val (v := .bool false) rfl rfl rfl rfl (Fx.e_pkT rfl rfl rfl) ?_
          refine Fx.val (v := .bool false) rfl rfl rfl rfl (Fx.e_mv rfl rfl) ?_
          refine Fx.fa rfl rfl rfl (by kernel_rfl) rfl rfl ?_
          refine Fx.fa rfl rfl rfl (by kernel_rfl) rfl rfl ?_
          refine Fx.l1 rfl rfl rfl (by kernel_rfl) rfl rfl ?_
          refine Fx.val (v := .bool false) rfl rfl rfl (by kernel_rfl) (Fx.e_neq rfl rfl rfl h3) ?_
          refine Fx.val (v := .bool false) rfl rfl rfl (by kernel_rfl) (Fx.e_mv rfl rfl) ?_
          refine Fx.skip rfl rfl (by kernel_rfl) rfl ?_
          refine Fx.skipB rfl rfl (by kernel_rfl) (fun w h => h) ?_
          refine Fx.skip rfl rfl (by kernel_rfl) rfl ?_
          refine Fx.val (v := .bool false) rfl rfl rfl (by kernel_rfl) (Fx.e_pkF rfl rfl rfl) ?_
          refine Fx.val (v := .bool false) rfl rfl rfl rfl (Fx.e_pkF rfl rfl rfl) ?_
          clear hst
          intro w' hst
          generalize hact : Fx.mkO _ _ = act
          have hv0 : act.tmps.getD 0 undef = .slice (some ⟨g, off, none⟩) l.length c := by rw [← hact]; kernel_rfl
          have hv1 : act.tmps.getD 1 undef = undef := by rw [← hact]; kernel_rfl
          have hv3 : act.tmps.getD 3 undef = undef := by rw [← hact]; kernel_rfl
          have hv5 : act.tmps.getD 5 undef = .slice (some ⟨g, off, none⟩) l.length c := by rw [← hact]; kernel_rfl
          have hv6 : act.tmps.getD 6 undef = .int .i64 l.length := by rw [← hact]; kernel_rfl
          have hv7 : act.tmps.getD 7 undef = .bool (decide (200 < (l.length : Int))) := by rw [← hact]; kernel_rfl
          have hv8 : act.tmps.getD 8 undef = .slice (some ⟨g, off, none⟩) l.length c := by rw [← hact]; kernel_rfl
          have hv9 : act.tmps.getD 9 undef = .int .i64 l.length := by rw [← hact]; kernel_rfl
          have hv10 : act.tmps.getD 10 undef = .int .i64 k := by rw [← hact]; kernel_rfl
          have hv46 : act.tmps.getD 46 undef = .bool false := by rw [← hact]; kernel_rfl
          obtain ⟨fZ, hfZ, hact2⟩ := act_lit act 48 (by rw [← hact]; kernel_rfl) (by rw [← hact]; kernel_rfl)
          clear hact
          have he0 : fZ 0 = .slice (some ⟨g, off, none⟩) l.length c := (hfZ 0).symm.trans hv0
          have he1 : fZ 1 = undef := (hfZ 1).symm.trans hv1
          have he3 : fZ 3 = undef := (hfZ 3).symm.trans hv3
          have he5 : fZ 5 = .slice (some ⟨g, off, none⟩) l.length c := (hfZ 5).symm.trans hv5
          have he6 : fZ 6 = .int .i64 l.length := (hfZ 6).symm.trans hv6
          have he7 : fZ 7 = .bool (decide (200 < (l.length : Int))) := (hfZ 7).symm.trans hv7
          have he8 : fZ 8 = .slice (some ⟨g, off, none⟩) l.length c := (hfZ 8).symm.trans hv8
          have he9 : fZ 9 = .int .i64 l.length := (hfZ 9).symm.trans hv9
          have he10 : fZ 10 = .int .i64 k := (hfZ 10).symm.trans hv10
          have he46 : fZ 46 = .bool false := (hfZ 46).symm.trans hv46
          have hlit : (List.range 48).map fZ = [.slice (some ⟨g, off, none⟩) l.length c, undef, fZ 2, undef, fZ 4, .slice (some ⟨g, off, none⟩) l.length c, .int .i64 l.length, .bool (decide (200 < (l.length : Int))), .slice (some ⟨g, off, none⟩) l.length c, .int .i64 l.length, .int .i64 k, fZ 11, fZ 12, fZ 13, fZ 14, fZ 15, fZ 16, fZ 17, fZ 18, fZ 19, fZ 20, fZ 21, fZ 22, fZ 23, fZ 24, fZ 25, fZ 26, fZ 27, fZ 28, fZ 29, fZ 30, fZ 31, fZ 32, fZ 33, fZ 34, fZ 35, fZ 36, fZ 37, fZ 38, fZ 39, fZ 40, fZ 41, fZ 42, fZ 43, fZ 44, fZ 45, .bool false, fZ 47] := by simp only [show List.range 48 = [0, 1, 2, 3, 4, 5, 6, 7, 8, 9, 10, 11, 12, 13, 14, 15, 16, 17, 18, 19, 20, 21, 22, 23, 24, 25, 26, 27, 28, 29, 30, 31, 32, 33, 34, 35, 36, 37, 38, 39, 40, 41, 42, 43, 44, 45, 46, 47] from rfl, List.map_cons, List.map_nil, he0, he1, he3, he5, he6, he7, he8, he9, he10, he46]
          rw [hlit] at hact2
          clear hfZ hlit hv0 he0 hv1 he1 hv3 he3 hv5 he5 hv6 he6 hv7 he7 hv8 he8 hv9 he9 hv10 he10 hv46 he46
          subst hact2
          go_wp2_with fail
          go_roundw
          case rel => exact ⟨k + 1, by omega, by go_num, HN hP.out, hst.drop⟩
          case measure => simp [intOf]; omega
        · obtain ⟨h0, h3, h4, hP⟩ := h
          refine Fx.fa rfl rfl rfl rfl rfl rfl ?_
          refine Fx.fa rfl rfl rfl rfl rfl rfl ?_
          refine Fx.l1 rfl rfl rfl rfl rfl rfl ?_
          refine Fx.val (v := .bool false) rfl rfl rfl rfl (Fx.e_eql rfl rfl rfl h0) ?_
          refine Fx.val (v := .bool false) rfl rfl rfl rfl (Fx.e_mv rfl rfl) ?_
          refine Fx.skip rfl rfl (by kernel_rfl) rfl ?_
          refine Fx.skip rfl rfl (by kernel_rfl) rfl ?_
          refine Fx.skipB rfl rfl (by kernel_rfl) (fun w h => h) ?_
          refine Fx.skip rfl rfl (by kernel_rfl) rfl ?_
          refine Fx.skipB rfl rfl (by kernel_rfl) (fun w h => h) ?_
          refine Fx.skip rfl rfl (by kernel_rfl) rfl ?_
          refine Fx.skip rfl rfl (by kernel_rfl) rfl ?_
          refine Fx.skip rfl rfl (by kernel_rfl) rfl ?_
          refine Fx.skip rfl rfl (by kernel_rfl) rfl ?_
          refine Fx.skip rfl rfl (by kernel_rfl) rfl ?_
          refine Fx.skipB rfl rfl (by kernel_rfl) (fun w h => h) ?_
          refine Fx.skip rfl rfl (by kernel_rfl) rfl ?_
          refine Fx.skipB rfl rfl (by kernel_rfl) (fun w h => h) ?_
          refine Fx.skipB rfl rfl (by kernel_rfl) (fun w h => h) ?_
          refine Fx.skip rfl rfl (by kernel_rfl) rfl ?_
          refine Fx.skip rfl rfl (by kernel_rfl) rfl ?_
          refine Fx.val (v := .bool false) rfl rfl rfl rfl (Fx.e_pkF rfl rfl rfl) ?_
          refine Fx.val (v := .bool false) rfl rfl rfl rfl (Fx.e_mv rfl rfl) ?_
          refine Fx.fa rfl rfl rfl (by kernel_rfl) rfl rfl ?_
          refine Fx.fa rfl rfl rfl (by kernel_rfl) rfl rfl ?_
          refine Fx.l1 rfl rfl rfl (by kernel_rfl) rfl rfl ?_
          refine Fx.val (v := .bool true) rfl rfl rfl (by kernel_rfl) (Fx.e_neq rfl rfl rfl h3) ?_
          refine Fx.val (v := .bool true) rfl rfl rfl (by kernel_rfl) (Fx.e_mv rfl rfl) ?_
          refine Fx.fa rfl rfl rfl (by kernel_rfl) rfl rfl ?_
          refine Fx.l1 rfl rfl rfl (by kernel_rfl) rfl rfl ?_
          refine Fx.val (v := .bool true) rfl rfl rfl (by kernel_rfl) (e_neqs rfl rfl rfl h4) ?_
          refine Fx.val (v := .bool true) rfl rfl rfl (by kernel_rfl) (Fx.e_pkT rfl rfl rfl) ?_
          refine Fx.val (v := .bool true) rfl rfl rfl rfl (Fx.e_pkF rfl rfl rfl) ?_
          clear hst
          intro w' hst
          generalize hact : Fx.mkO _ _ = act
          have hv0 : act.tmps.getD 0 undef = .slice (some ⟨g, off, none⟩) l.length c := by rw [← hact]; kernel_rfl
          have hv1 : act.tmps.getD 1 undef = undef := by rw [← hact]; kernel_rfl
          have hv3 : act.tmps.getD 3 undef = undef := by rw [← hact]; kernel_rfl
          have hv5 : act.tmps.getD 5 undef = .slice (some ⟨g, off, none⟩) l.length c := by rw [← hact]; kernel_rfl
          have hv6 : act.tmps.getD 6 undef = .int .i64 l.length := by rw [← hact]; kernel_rfl
          have hv7 : act.tmps.getD 7 undef = .bool (decide (200 < (l.length : Int))) := by rw [← hact]; kernel_rfl
          have hv8 : act.tmps.getD 8 undef = .slice (some ⟨g, off, none⟩) l.length c := by rw [← hact]; kernel_rfl
          have hv9 : act.tmps.getD 9 undef = .int .i64 l.length := by rw [← hact]; kernel_rfl
          have hv10 : act.tmps.getD 10 undef = .int .i64 k := by rw [← hact]; kernel_rfl
          have hv46 : act.tmps.getD 46 undef = .bool true := by rw [← hact]; kernel_rfl
          obtain ⟨fZ, hfZ, hact2⟩ := act_lit act 48 (by rw [← hact]; kernel_rfl) (by rw [← hact]; kernel_rfl)
          clear hact
          have he0 : fZ 0 = .slice (some ⟨g, off, none⟩) l.length c := (hfZ 0).symm.trans hv0
          have he1 : fZ 1 = undef := (hfZ 1).symm.trans hv1
          have he3 : fZ 3 = undef := (hfZ 3).symm.trans hv3
          have he5 : fZ 5 = .slice (some ⟨g, off, none⟩) l.length c := (hfZ 5).symm.trans hv5
          have he6 : fZ 6 = .int .i64 l.length := (hfZ 6).symm.trans hv6
          have he7 : fZ 7 = .bool (decide (200 < (l.length : Int))) := (hfZ 7).symm.trans hv7
          have he8 : fZ 8 = .slice (some ⟨g, off, none⟩) l.length c := (hfZ 8).symm.trans hv8
          have he9 : fZ 9 = .int .i64 l.length := (hfZ 9).symm.trans hv9
          have he10 : fZ 10 = .int .i64 k := (hfZ 10).symm.trans hv10
          have he46 : fZ 46 = .bool true := (hfZ 46).symm.trans hv46
          have hlit : (List.range 48).map fZ = [.slice (some ⟨g, off, none⟩) l.length c, undef, fZ 2, undef, fZ 4, .slice (some ⟨g, off, none⟩) l.length c, .int .i64 l.length, .bool (decide (200 < (l.length : Int))), .slice (some ⟨g, off, none⟩) l.length c, .int .i64 l.length, .int .i64 k, fZ 11, fZ 12, fZ 13, fZ 14, fZ 15, fZ 16, fZ 17, fZ 18, fZ 19, fZ 20, fZ 21, fZ 22, fZ 23, fZ 24, fZ 25, fZ 26, fZ 27, fZ 28, fZ 29, fZ 30, fZ 31, fZ 32, fZ 33, fZ 34, fZ 35, fZ 36, fZ 37, fZ 38, fZ 39, fZ 40, fZ 41, fZ 42, fZ 43, fZ 44, fZ 45, .bool true, fZ 47] := by simp only [show List.range 48 = [0, 1, 2, 3, 4, 5, 6, 7, 8, 9, 10, 11, 12, 13, 14, 15, 16, 17, 18, 19, 20, 21, 22, 23, 24, 25, 26, 27, 28, 29, 30, 31, 32, 33, 34, 35, 36, 37, 38, 39, 40, 41, 42, 43, 44, 45, 46, 47] from rfl, List.map_cons, List.map_nil, he0, he1, he3, he5, he6, he7, he8, he9, he10, he46]
          rw [hlit] at hact2
          clear hfZ hlit hv0 he0 hv1 he1 hv3 he3 hv5 he5 hv6 he6 hv7 he7 hv8 he8 hv9 he9 hv10 he10 hv46 he46
          subst hact2
          go_wp2_with fail
          go_ret
          exact ⟨HR hP.out, hst.end⟩
        · obtain ⟨h0, h3, h4, hP⟩ := h
          refine Fx.fa rfl rfl rfl rfl rfl rfl ?_
          refine Fx.fa rfl rfl rfl rfl rfl rfl ?_
          refine Fx.l1 rfl rfl rfl rfl rfl rfl ?_
          refine Fx.val (v := .bool false) rfl rfl rfl rfl (Fx.e_eql rfl rfl rfl h0) ?_
          refine Fx.val (v := .bool false) rfl rfl rfl rfl (Fx.e_mv rfl rfl) ?_
          refine Fx.skip rfl rfl (by kernel_rfl) rfl ?_
          refine Fx.skip rfl rfl (by kernel_rfl) rfl ?_
          refine Fx.skipB rfl rfl (by kernel_rfl) (fun w h => h) ?_
          refine Fx.skip rfl rfl (by kernel_rfl) rfl ?_
          refine Fx.skipB rfl rfl (by kernel_rfl) (fun w h => h) ?_
          refine Fx.skip rfl rfl (by kernel_rfl) rfl ?_
          refine Fx.skip rfl rfl (by kernel_rfl) rfl ?_
          refine Fx.skip rfl rfl (by kernel_rfl) rfl ?_
          refine Fx.skip rfl rfl (by kernel_rfl) rfl ?_
          refine Fx.skip rfl rfl (by kernel_rfl) rfl ?_
          refine Fx.skipB rfl rfl (by kernel_rfl) (fun w h => h) ?_
          refine Fx.skip rfl rfl (by kernel_rfl) rfl ?_
          refine Fx.skipB rfl rfl (by kernel_rfl) (fun w h => h) ?_
          refine Fx.skipB rfl rfl (by kernel_rfl) (fun w h => h) ?_
          refine Fx.skip rfl rfl (by kernel_rfl) rfl ?_
          refine Fx.skip rfl rfl (by kernel_rfl) rfl ?_
          refine Fx.val (v := .bool false) rfl rfl rfl rfl (Fx.e_pkF rfl rfl rfl) ?_
          refine Fx.val (v := .bool false) rfl rfl rfl rfl (Fx.e_mv rfl rfl) ?_
          refine Fx.fa rfl rfl rfl (by kernel_rfl) rfl rfl ?_
          refine Fx.fa rfl rfl rfl (by kernel_rfl) rfl rfl ?_
          refine Fx.l1 rfl rfl rfl (by kernel_rfl) rfl rfl ?_
          refine Fx.val (v := .bool true) rfl rfl rfl (by kernel_rfl) (Fx.e_neq rfl rfl rfl h3) ?_
          refine Fx.val (v := .bool true) rfl rfl rfl (by kernel_rfl) (Fx.e_mv rfl rfl) ?_
          refine Fx.fa rfl rfl rfl (by kernel_rfl) rfl rfl ?_
          refine Fx.l1 rfl rfl rfl (by kernel_rfl) rfl rfl ?_
          refine Fx.val (v := .bool false) rfl rfl rfl (by kernel_rfl) (e_neqs rfl rfl rfl h4) ?_
          refine Fx.val (v := .bool false) rfl rfl rfl (by kernel_rfl) (Fx.e_pkT rfl rfl rfl) ?_
          refine Fx.val (v := .bool false) rfl rfl rfl rfl (Fx.e_pkF rfl rfl rfl) ?_
          clear hst
          intro w' hst
          generalize hact : Fx.mkO _ _ = act
          have hv0 : act.tmps.getD 0 undef = .slice (some ⟨g, off, none⟩) l.length c := by rw [← hact]; kernel_rfl
          have hv1 : act.tmps.getD 1 undef = undef := by rw [← hact]; kernel_rfl
          have hv3 : act.tmps.getD 3 undef = undef := by rw [← hact]; kernel_rfl
          have hv5 : act.tmps.getD 5 undef = .slice (some ⟨g, off, none⟩) l.length c := by rw [← hact]; kernel_rfl
          have hv6 : act.tmps.getD 6 undef = .int .i64 l.length := by rw [← hact]; kernel_rfl
          have hv7 : act.tmps.getD 7 undef = .bool (decide (200 < (l.length : Int))) := by rw [← hact]; kernel_rfl
          have hv8 : act.tmps.getD 8 undef = .slice (some ⟨g, off, none⟩) l.length c := by rw [← hact]; kernel_rfl
          have hv9 : act.tmps.getD 9 undef = .int .i64 l.length := by rw [← hact]; kernel_rfl
          have hv10 : act.tmps.getD 10 undef = .int .i64 k := by rw [← hact]; kernel_rfl
          have hv46 : act.tmps.getD 46 undef = .bool false := by rw [← hact]; kernel_rfl
          obtain ⟨fZ, hfZ, hact2⟩ := act_lit act 48 (by rw [← hact]; kernel_rfl) (by rw [← hact]; kernel_rfl)
          clear hact
          have he0 : fZ 0 = .slice (some ⟨g, off, none⟩) l.length c := (hfZ 0).symm.trans hv0
          have he1 : fZ 1 = undef := (hfZ 1).symm.trans hv1
          have he3 : fZ 3 = undef := (hfZ 3).symm.trans hv3
          have he5 : fZ 5 = .slice (some ⟨g, off, none⟩) l.length c := (hfZ 5).symm.trans hv5
          have he6 : fZ 6 = .int .i64 l.length := (hfZ 6).symm.trans hv6
          have he7 : fZ 7 = .bool (decide (200 < (l.length : Int))) := (hfZ 7).symm.trans hv7
          have he8 : fZ 8 = .slice (some ⟨g, off, none⟩) l.length c := (hfZ 8).symm.trans hv8
          have he9 : fZ 9 = .int .i64 l.length := (hfZ 9).symm.trans hv9
          have he10 : fZ 10 = .int .i64 k := (hfZ 10).symm.trans hv10
          have he46 : fZ 46 = .bool false := (hfZ 46).symm.trans hv46
          have hlit : (List.range 48).map fZ = [.slice (some ⟨g, off, none⟩) l.length c, undef, fZ 2, undef, fZ 4, .slice (some ⟨g, off, none⟩) l.length c, .int .i64 l.length, .bool (decide (200 < (l.length : Int))), .slice (some ⟨g, off, none⟩) l.length c, .int .i64 l.length, .int .i64 k, fZ 11, fZ 12, fZ 13, fZ 14, fZ 15, fZ 16, fZ 17, fZ 18, fZ 19, fZ 20, fZ 21, fZ 22, fZ 23, fZ 24, fZ 25, fZ 26, fZ 27, fZ 28, fZ 29, fZ 30, fZ 31, fZ 32, fZ 33, fZ 34, fZ 35, fZ 36, fZ 37, fZ 38, fZ 39, fZ 40, fZ 41, fZ 42, fZ 43, fZ 44, fZ 45, .bool false, fZ 47] := by simp only [show List.range 48 = [0, 1, 2, 3, 4, 5, 6, 7, 8, 9, 10, 11, 12, 13, 14, 15, 16, 17, 18, 19, 20, 21, 22, 23, 24, 25, 26, 27, 28, 29, 30, 31, 32, 33, 34, 35, 36, 37, 38, 39, 40, 41, 42, 43, 44, 45, 46, 47] from rfl, List.map_cons, List.map_nil, he0, he1, he3, he5, he6, he7, he8, he9, he10, he46]
          rw [hlit] at hact2
          clear hfZ hlit hv0 he0 hv1 he1 hv3 he3 hv5 he5 hv6 he6 hv7 he7 hv8 he8 hv9 he9 hv10 he10 hv46 he46
          subst hact2
          go_wp2_with fail
          go_roundw
          case rel => exact ⟨k + 1, by omega, by go_num, HN hP.out, hst.drop⟩
          case measure => simp [intOf]; omega
-- CHKEND
      · obtain rfl : k = l.length := by omega
        go_wp2_with fail
        go_ret
        have h1 : l.any puBad = false := by simpa using HK.out
        exact ⟨by rw [HC.out, h1]; rfl, hst.end⟩
end Go.Proofs.YtigihgbgdillpaaGreatDoor
