/- strings.Clone: by the shelf's contract of internal/stringslite.Clone · A device opened and closed; the contracts of fails, done, of · The contract of device.torn. -/
import Derived.Shelf.Strconv.Clone
import Derived.Test.YtigihgbgdillpaaGreatDoorP24
set_option linter.unusedVariables false
set_option linter.unusedSimpArgs false
set_option maxRecDepth 100000
namespace Go.Proofs.YtigihgbgdillpaaGreatDoor
open Go.Shelf Go.RowKit

def cloneRen : Go.Shelf.Ren := ⟨fun | 316 => 109 | n => n, fun | 0 => 0 | 3 => 3 | 4 => 4 | 5 => 5 | 9 => 9 | 37 => 115 | 127 => 194 | n => n, fun | n => n⟩
theorem cloneLays : Go.Proofs.LaysM.n316 Tryz.prog cloneRen := {
  mixed := by kernel_rfl
  f316 := Tryz.func109.trans (congrArg some (by kernel_rfl))
  t0 := Tryz.underlying0
  a0 := Tryz.isAgg0
  z0 := Tryz.sizeOf0
  v0 := Tryz.zeroValue0
  t3 := Tryz.underlying3
  a3 := Tryz.isAgg3
  z3 := Tryz.sizeOf3
  v3 := Tryz.zeroValue3
  t4 := Tryz.underlying4
  a4 := Tryz.isAgg4
  z4 := Tryz.sizeOf4
  v4 := Tryz.zeroValue4
  t9 := Tryz.underlying9
  a9 := Tryz.isAgg9
  z9 := Tryz.sizeOf9
  v9 := Tryz.zeroValue9
  t37 := Tryz.underlying115
  a37 := Tryz.isAgg115
  z37 := Tryz.sizeOf115
  v37 := Tryz.zeroValue115
  t127 := Tryz.underlying194
  a127 := Tryz.isAgg194
  z127 := Tryz.sizeOf194
  v127 := Tryz.zeroValue194
  t5 := Tryz.underlying5
  a5 := Tryz.isAgg5
  z5 := Tryz.sizeOf5
  v5 := Tryz.zeroValue5
  i0 := by kernel_rfl
  i3 := by kernel_rfl
  i4 := by kernel_rfl
  i5 := by kernel_rfl
  i9 := by kernel_rfl
  i37 := by kernel_rfl
  i127 := by kernel_rfl }
theorem strclone_calls (s : ByteArray) (hs : s.size ≤ 100000000) (w : World) : Calls Tryz.prog 80 #[.string s] w (Ret (.string s) w) := by
  have hst := Sx.startN w
  have HC : Hid (∀ w, Calls Tryz.prog 109 #[.string s] w fun e w' => e = .returned (.string s) ∧ Below w.heap.size w w') := Lib.hid (fun w => Any.stringslite_Clone cloneLays s w (by omega))
  go_enter Tryz.func80, Tryz.ntmps80
  go_wp2_with (with_reducible (refine callE (HC.out _) hst ?_; clear hst; intro w' hst))
  go_ret
  exact ⟨rfl, hst.end⟩
end Go.Proofs.YtigihgbgdillpaaGreatDoor
namespace Go.Proofs.YtigihgbgdillpaaGreatDoor
open Go.RowKit

instance {d : Dv} {q : Dp} : CellAt (devC d q) 0 (.slice (some ⟨q.gs, 0, none⟩) d.sure.length q.cs) := ⟨rfl⟩
instance {d : Dv} {q : Dp} : CellAt (devC d q) 1 (.slice (some ⟨q.gn, 0, none⟩) d.now.length q.cn) := ⟨rfl⟩
instance {d : Dv} {q : Dp} : CellAt (devC d q) 2 q.va := ⟨rfl⟩
instance {d : Dv} {q : Dp} : CellAt (devC d q) 3 (.bool d.off) := ⟨rfl⟩
instance {d : Dv} {q : Dp} : CellAt (devC d q) 4 (.int .i64 d.starts) := ⟨rfl⟩
instance {d : Dv} {q : Dp} : CellAt (devC d q) 5 (.int .i64 d.left) := ⟨rfl⟩
instance {d : Dv} {q : Dp} : CellAt (devC d q) 6 q.vk := ⟨rfl⟩
instance {d : Dv} {q : Dp} {p : Option Addr} {n c : Nat} : WrAt (devC d q) 2 1 (.slice p n c) (devC d { q with va := .slice p n c }) := wrOne (Nat.le_of_ble_eq_true rfl) rfl
instance {d : Dv} {q : Dp} {b : Bool} : WrAt (devC d q) 3 1 (.bool b) (devC { d with off := b } q) := wrOne (Nat.le_of_ble_eq_true rfl) rfl
instance {d : Dv} {q : Dp} {x : Int} : WrAt (devC d q) 5 1 (.int .i64 x) (devC { d with left := x } q) := wrOne (Nat.le_of_ble_eq_true rfl) rfl
instance {d : Dv} {q : Dp} {p : Option Addr} {n c : Nat} : WrAt (devC d q) 6 1 (.slice p n c) (devC d { q with vk := .slice p n c }) := wrOne (Nat.le_of_ble_eq_true rfl) rfl
section
variable {S : List Nat} {w0 w : World} {L : List Blk} {D : Dat} {F : List Nat} {g : Nat} {d : Dv}
theorem Sx.openDev (h : Sx S w0 w L D F) (hd : DevW D F w g d) : ∃ q, DevMem D d q ∧ F = (devL g d q).map (·.1) ∧ Sx S w0 w (devL g d q ++ L) D [] := by
  obtain ⟨q, m, rfl, hn, hb⟩ := hd.mem
  refine ⟨q, m, rfl, ⟨h.st.os, h.st.tape, h.st.output, h.st.size, h.st.kept, fun p hp => ?_, ?_, fun p hp => ?_⟩, h.data, fun p hp r hr => ?_, fun x hx => by simp at hx, fun x hx => by simp at hx, fun x hx => by simp at hx, fun x hx => by simp at hx⟩
  · rcases List.mem_append.1 hp with hp | hp
    · exact (h.fS p.1 (List.mem_map.2 ⟨p, hp, rfl⟩)).symm
    · exact h.st.own p hp
  · rw [List.map_append, List.nodup_append]
    refine ⟨hn, h.st.nodup, fun x hx y hy e => ?_⟩
    obtain ⟨r, hr, rfl⟩ := List.mem_map.1 hy
    exact h.fL x hx r hr e.symm
  · rcases List.mem_append.1 hp with hp | hp
    · exact hb p hp
    · exact h.st.blk p hp
  · rcases List.mem_append.1 hr with hr | hr
    · exact h.fD r.1 (List.mem_map.2 ⟨r, hr, rfl⟩) p hp
    · exact h.apart p hp r hr
theorem DevW.open (h : DevW D F w g d) (hF : ∀ x ∈ F, x < w.heap.size) : ∃ q, DevMem D d q ∧ F = (devL g d q).map (·.1) ∧ Sx F w w (devL g d q) D [] := by
  obtain ⟨q, m, e, hs⟩ := (Sx.start w h.data hF h.apart).openDev h
  exact ⟨q, m, e, by simpa using hs⟩
/-- What a device's method leaves. -/
def DevRet (v : Value) (D : Dat) (F : List Nat) (w : World) (g : Nat) (d' : Dv) (e : Ending) (w' : World) : Prop := e = .returned v ∧ ∃ F', DevW D F' w' g d' ∧ St F w w' [] ∧ ∀ x ∈ F', x ∈ F ∨ w.heap.size ≤ x
theorem Sx.closeDev {q : Dp} {L1 : List Blk} (h : Sx S w0 w (L1 ++ L) D []) (m : DevMem D d q) (hL : L1 = devL g d q) : ∃ F', DevW D F' w g d ∧ St S w0 w [] ∧ (∀ x ∈ F', x ∈ S ∨ w0.heap.size ≤ x) ∧ Sx S w0 w L D F' := by
  subst hL
  have hS : ∀ x ∈ (devL g d q).map (·.1), x ∈ S ∨ w0.heap.size ≤ x := fun x hx => by
    obtain ⟨p, hp, rfl⟩ := List.mem_map.1 hx
    exact (h.st.own p (by simp [hp])).symm
  have hD : ∀ x ∈ (devL g d q).map (·.1), ∀ p, D p → p.1 ≠ x := fun x hx p hp => by
    obtain ⟨r, hr, rfl⟩ := List.mem_map.1 hx
    exact h.apart p hp r (by simp [hr])
  have hn := h.st.nodup
  rw [List.map_append, List.nodup_append] at hn
  refine ⟨_, ⟨h.data, hD, q, m, rfl, hn.1, fun p hp => h.st.blk p (by simp [hp])⟩, h.endF, hS, h.dropL.st, h.data, fun p hp r hr => h.apart p hp r (by simp [hr]), fun x hx => ?_, fun x hx r hr => ?_, hD, hS⟩
  · obtain ⟨p, hp, rfl⟩ := List.mem_map.1 hx
    exact h.st.lt p (by simp [hp])
  · exact fun e => hn.2.2 x hx _ (List.mem_map.2 ⟨r, hr, rfl⟩) e.symm
theorem Sx.closeDev0 {q : Dp} {L1 : List Blk} (h : Sx S w0 w L1 D []) (m : DevMem D d q) (hL : L1 = devL g d q) : ∃ F', DevW D F' w g d ∧ St S w0 w [] ∧ (∀ x ∈ F', x ∈ S ∨ w0.heap.size ≤ x) := by
  obtain ⟨F', h1, h2, h3, _⟩ := Sx.closeDev (L := []) (by simpa using h) m hL
  exact ⟨F', h1, h2, h3⟩
theorem DevW.start (h : DevW D F w g d) : Sx F w w [] D F :=
  Sx.start w h.data (fun x hx => by
    obtain ⟨q, _, rfl, _, hb⟩ := h.mem
    obtain ⟨p, hp, rfl⟩ := List.mem_map.1 hx
    exact lt_of_heap' (hb p hp)) h.apart
theorem DevW.lt (h : DevW D F w g d) : ∀ x ∈ F, x < w.heap.size := h.start.flt
/-- A call of a device's method. -/
theorem callD {f : FuncId} {args : Array Value} {v : Value} {d' : Dv} {K : Ending → World → Prop} (hc : Calls Tryz.prog f args w (DevRet v D F w g d')) (h : Sx S w0 w L D F) (hk : ∀ w' F', Sx S w0 w' L D F' → DevW D F' w' g d' → K (.returned v) w') : Calls Tryz.prog f args w K :=
  hc.mono fun e w' ⟨he, F', hd, hs, hF⟩ => by subst he; exact hk w' F' (h.obj0 hs hF hd.lt) hd
/-- A call that reads, a device in play. -/
theorem callR {f : FuncId} {args : Array Value} {v : Value} {K : Ending → World → Prop} (hc : Calls Tryz.prog f args w (Ret v w)) (h : Sx S w0 w L D F) (hd : DevW D F w g d) (hk : ∀ w', Sx S w0 w' L D F → DevW D F w' g d → K (.returned v) w') : Calls Tryz.prog f args w K :=
  hc.mono fun e w' ⟨he, hb⟩ => by subst he; exact hk w' (h.below hb) (hd.below hb)
def dFails (d : Dv) : Dv × Bool := if 0 < d.left then ({ d with left := d.left - 1 }, false) else (d, d.left == 0)
theorem dfails_calls (h : DevW D F w g d) : Calls Tryz.prog 77 #[.pointer (some ⟨g, 0, none⟩)] w (DevRet (.bool (dFails d).2) D F w g (dFails d).1) := by
  obtain ⟨q, m, rfl, hst⟩ := h.open h.lt
  have hl := m.ok.left
  have hl1 := hl.1
  have hl2 := hl.2
  have HM := Lib.hid m
  clear m
  by_cases h0 : 0 < d.left
  · have HR : Hid (dFails d = ({ d with left := d.left - 1 }, false)) := Lib.hid (if_pos h0)
    unfold devL at hst
    go_enter Tryz.func77, Tryz.ntmps77
    go_wp2_with (with_reducible first|refine x1 rfl rfl rfl hst ?_|(refine xsi rfl rfl rfl rfl hst ?_;clear hst;intro w' hst))
    go_ret
    rw [HR.out]
    have m := HM.out
    obtain ⟨F', h1, h2, h3⟩ := Sx.closeDev0 (d := { d with left := d.left - 1 }) (q := q) hst ⟨⟨m.ok.same, m.ok.min, m.ok.max, m.ok.acts, m.ok.adat, m.ok.bsure, m.ok.bnow, by unfold I64; simp only; omega, m.ok.keep⟩, m.sl, m.ss, m.st, m.nl, m.ns, m.nt, m.ac, m.al, m.kp⟩ rfl
    exact ⟨rfl, F', h1, h2, h3⟩
  · have HR : Hid (dFails d = (d, d.left == 0)) := Lib.hid (if_neg h0)
    unfold devL at hst
    go_enter Tryz.func77, Tryz.ntmps77
    go_wp2_with (with_reducible refine x1 rfl rfl rfl hst ?_)
    go_ret
    rw [HR.out]
    obtain ⟨F', h1, h2, h3⟩ := Sx.closeDev0 (d := d) (q := q) hst HM.out rfl
    exact ⟨rfl, F', h1, h2, h3⟩
end
def doneF : Ac → Bk
  | .write _ s => ⟨1, s⟩
  | .erase _ => ⟨2, noS⟩
instance zeroWr : ZeroT 114 #[.int .i64 0, .string ⟨#[]⟩] := .agg fun w => by kernel_rfl
instance aggWr : AggT 114 2 := ⟨fun w => by kernel_rfl, by kernel_rfl⟩
theorem done_calls (x : Ac) (w : World) : Calls Tryz.prog 44 #[acV x] w (Ret (.agg #[.int .i64 (doneF x).st, .string (doneF x).data]) w) := by
  have hst := Sx.startN w
  cases x with
  | write a s =>
    unfold acV
    go_enter Tryz.func44, Tryz.ntmps44
    go_wp2_with (first | (with_reducible first|refine x1 rfl rfl rfl hst ?_|(refine xsa rfl rfl rfl rfl hst ?_;clear hst;intro w' hst)|(refine xnw rfl rfl hst ?_;clear hst;intro bn w' hst)) | (with_reducible refine xval rfl 7 rfl (.tuple #[.agg #[.int .i64 a, .string s], .bool true]) (fun w => by kernel_rfl) ?_) | (with_reducible refine xval rfl 12 rfl (.agg #[.int .i64 1, .string s]) (fun w => by kernel_rfl) ?_))
    refine bodyPost_ret (results1 rfl (res_agg rfl hst.st.has)) rfl ⟨rfl, hst.end⟩
  | erase a =>
    unfold acV
    go_enter Tryz.func44, Tryz.ntmps44
    go_wp2_with (first | (with_reducible first|(refine xsa rfl rfl rfl rfl hst ?_;clear hst;intro w' hst)|(refine xnw rfl rfl hst ?_;clear hst;intro bn w' hst)) | (with_reducible refine xval rfl 7 rfl (.tuple #[.agg #[.int .i64 0, .string ⟨#[]⟩], .bool false]) (fun w => by kernel_rfl) ?_) | (with_reducible refine xval rfl 6 rfl (.agg #[.int .i64 2, .string ⟨#[]⟩]) (fun w => by kernel_rfl) ?_))
    refine bodyPost_ret (results1 rfl (res_agg rfl hst.st.has)) rfl ⟨rfl, hst.end⟩
theorem writeof_calls (a : Int) (s : ByteArray) (w : World) : Calls Tryz.prog 192 #[.agg #[.int .i64 a, .string s]] w (Ret (.int .i64 a) w) := by
  have hst := Sx.startN w
  go_enter Tryz.func192, Tryz.ntmps192
  go_wp2_with (with_reducible first|refine x1 rfl rfl rfl hst ?_|(refine xba rfl rfl hst rfl ?_;clear hst;intro bb w' hst))
  go_ret
  exact ⟨rfl, hst.end⟩
theorem eraseof_calls (a : Int) (w : World) : Calls Tryz.prog 194 #[.int .i64 a] w (Ret (.int .i64 a) w) := by
  have hst := Sx.startN w
  go_enter Tryz.func194, Tryz.ntmps194
  go_wp2_with fail
  go_ret
  exact ⟨rfl, hst.end⟩
end Go.Proofs.YtigihgbgdillpaaGreatDoor
namespace Go.Proofs.YtigihgbgdillpaaGreatDoor
open Go.RowKit

section
variable {ops : Array Oper} {rest : List Oper} {o : Oper} {a : Act} {w : World} {Q : Exit → Act → World → Prop} {S : List Nat} {w0 : World} {L : List Blk} {D : Dat} {F : List Nat}
/-- '[]byte(s)': a block with a mark behind its end. -/
theorem xs2b (hw : Region.wanted o (yielded ops a.tmps) = true) {x : Operand} (ho : o.op = .convert 9 115 x) {s : ByteArray} (hx : a.eval x = .string s) (h : Sx S w0 w L D F)
    (hk : ∀ (b cap : Nat) (C : Array Value) (w' : World), Sx S w0 w' L D F → (∀ p ∈ L, p.1 ≠ b) → (∀ p, D p → p.1 ≠ b) → (∀ x ∈ F, x ≠ b) → w0.heap.size ≤ b → s.size ≤ C.size → w'.heap[b]? = some (.cells C 5 (C.size, C.size + 1)) → (∀ j, j < s.size → C[j]? = some (.int .u8 ((ls s).getD j 0).toNat)) →
      wpList Tryz.prog ops Q rest (a.put o.dst (.slice (some ⟨b, 0, none⟩) s.size cap)) w') : wpList Tryz.prog ops Q (o :: rest) a w :=
  BigFrame.wpList_want hw fun K hK => by
    unfold Oper.wp execOp
    simp only [ho, hx, Sem.run_bind, Lib.run_convert_string_bytes w _ _ _ s Tryz.underlying9 Tryz.underlying115 Tryz.underlying5, Result.andThen_ok]
    have hg := Lib.bytesWorld_at_new w 5 s
    refine hK _ _ (hk _ _ _ _ (h.below (bytesWorld_below w _ s)) (fun p hp => ?_) (fun p hp => ?_) (fun x hx => ?_) h.size ?_ hg (fun j hj => ?_))
    · have := h.st.lt p hp; omega
    · have := h.data.lt hp; omega
    · have := h.flt x hx; omega
    · simp [Lib.bytesCells]
    · have := Lib.bytesWorld_cell w 5 s j hj
      rw [cell_of_row _ _ _ _ _ _ hg] at this
      exact this
/-- A store into it. -/
theorem xsF (hw : Region.wanted o (yielded ops a.tmps) = true) {T : TypeId} {x y : Operand} (ho : o.op = .store T x y) {b k : Nat} (hx : a.eval x = .pointer (some ⟨b, k, none⟩)) {kk : IntKind} {z : Int} (hy : a.eval y = .int kk z) (h : Sx S w0 w L D F) [t : OneT T] {C : Array Value} {U : TypeId} (hb : w.heap[b]? = some (.cells C U (C.size, C.size + 1))) (hkC : k < C.size) (hw0 : w0.heap.size ≤ b) (hL : ∀ p ∈ L, p.1 ≠ b) (hD : ∀ p, D p → p.1 ≠ b) (hF : ∀ x ∈ F, x ≠ b)
    (hk : ∀ w', Sx S w0 w' L D F → w'.heap[b]? = some (.cells (C.setIfInBounds k (.int kk z)) U (C.size, C.size + 1)) → wpList Tryz.prog ops Q rest (a.put o.dst undef) w') : wpList Tryz.prog ops Q (o :: rest) a w :=
  BigFrame.wpList_want hw fun K hK => by
    have hcell : w.cell? ⟨b, k, none⟩ = some C[k] := by simp [World.cell?, hb, hkC]
    have hfro : w.frozen? ⟨b, k, none⟩ = false := by simp [World.frozen?, hb]; omega
    have hst : (store (⟨b, k, none⟩ : Addr) (.int kk z)).run Tryz.prog w = .ok () (w.setRow b (C.setIfInBounds k (.int kk z))) := by
      rw [run_store Tryz.prog w _ _ _ rfl, hcell]
      simp [hfro, setCell_eq_setRow w b _ C U _ _ hb]
    have hr : (storeVar T ⟨b, k, none⟩ (.int kk z)).run Tryz.prog w = .ok () (w.setRow b (C.setIfInBounds k (.int kk z))) := by
      unfold storeVar
      rw [Sem.run_bind, run_size t.size, Result.andThen_ok]
      simp [Value.cells, storeCells, Addr.add, hst]
    have hsx : Sx S w0 (w.setRow b (C.setIfInBounds k (.int kk z))) L D F := by
      refine ⟨⟨h.st.os, h.st.tape, h.st.output, by rw [size_setRow]; exact h.st.size, fun j hj hs => ?_, h.st.own, h.st.nodup, fun p hp => ?_⟩, fun p hp => ?_, h.apart, fun x hx => by rw [size_setRow]; exact h.flt x hx, h.fL, h.fD, h.fS⟩
      · rw [heap_setRow_other _ _ _ _ (by omega)]; exact h.st.kept j hj hs
      · rw [heap_setRow_other _ _ _ _ (hL p hp)]; exact h.st.blk p hp
      · obtain ⟨zz, hz⟩ := h.data p hp
        exact ⟨zz, by rw [heap_setRow_other _ _ _ _ (hD p hp)]; exact hz⟩
    unfold Oper.wp execOp
    simp only [ho, hx, hy, Instr.storeAt, Instr.sureAddr, Sem.run_bind, Sem.run_pure, Result.andThen_ok, hr]
    exact hK _ _ (hk _ hsx (setRow_heap w b C _ U _ hb))
/-- An operation on numbers, by a lemma. -/
theorem xbin {p : BinOp} {T U : TypeId} {x y : Operand} (hw : Region.wanted o (yielded ops a.tmps) = true) (ho : o.op = .binOp p T x y U) {k k' : IntKind} {m n : Int} {v : Value} (hr : ∀ w, (binOp p T (.int k m) (.int k' n)).run Tryz.prog w = .ok v w) (hx : a.eval x = .int k m) (hy : a.eval y = .int k' n)
    (hk : wpList Tryz.prog ops Q rest (a.put o.dst v) w) : wpList Tryz.prog ops Q (o :: rest) a w :=
  BigFrame.wpList_want hw fun K hK => by
    unfold Oper.wp
    rw [Fx.e_bin ho hx hy hr]
    exact hK _ _ hk
/-- An operation that yields a value in this world. -/
theorem xnow (hw : Region.wanted o (yielded ops a.tmps) = true) (d : Nat) (hd : o.dst = some d) (v : Value) (hv : (execOp a.eval o).run Tryz.prog w = .ok (.value v) w)
    (hk : wpList Tryz.prog ops Q rest (a.put o.dst v) w) : wpList Tryz.prog ops Q (o :: rest) a w :=
  BigFrame.wpList_want hw fun K hK => by
    unfold Oper.wp
    rw [hv]
    exact hK _ _ hk
end
def keepsB (keep : Int) (k : Nat) : Bool := !(bits .and .i64 (keep.fdiv (2 ^ (min (k / 32) 64))) 1 == 0)
def tornL (keep : Int) (s : List UInt8) : List UInt8 := s.mapIdx fun k c => if keepsB keep k then c else 0
def tornF (x : Ac) (was : Bk) (keep : Int) : Bk := match x with
  | .write _ s => if bits .and .i64 keep 15 = 0 then was else ⟨1, mkS (tornL keep (ls s))⟩
  | .erase _ => if bits .and .i64 keep 1 = 0 then was else ⟨2, noS⟩
set_option maxHeartbeats 2000000 in
theorem torn_calls (x : Ac) (b : Bk) (keep : Int) (hx : ∀ a s, x = .write a s → s.size ≤ 100000000) (w : World) : Calls Tryz.prog 19 #[acV x, .agg #[.int .i64 b.st, .string b.data], .int .i64 keep] w (Ret (.agg #[.int .i64 (tornF x b keep).st, .string (tornF x b keep).data]) w) := by
  have hst := Sx.startN w
  cases x with
  | erase a =>
    have HR : Hid (tornF (.erase a) b keep = if bits .and .i64 keep 1 = 0 then b else ⟨2, noS⟩) := Lib.hid rfl
    generalize tornF (.erase a) b keep = res at *
    have HDn : Hid (∀ w, Calls Tryz.prog 44 #[.iface 184 (.int .i64 a)] w (Ret (.agg #[.int .i64 2, .string noS]) w)) := Lib.hid (done_calls (.erase a))
    unfold acV
    go_enter Tryz.func19, Tryz.ntmps19
    go_wp2_with (first | (with_reducible first|refine xa rfl rfl rfl hst ?_|(refine xsa rfl rfl rfl rfl hst ?_;clear hst;intro w' hst)|(refine xba rfl rfl hst rfl ?_;clear hst;intro bb w' hst)|(refine xnw rfl rfl hst ?_;clear hst;intro bn w' hst)) | (with_reducible refine xval rfl 18 rfl (.tuple #[.agg #[.int .i64 0, .string ⟨#[]⟩], .bool false]) (fun w => by kernel_rfl) ?_) | (with_reducible (refine callB (HDn.out _) hst ?_; clear hst; intro w' hst)))
    · have h1 : bits .and .i64 keep 1 = 0 := by simpa using ‹(bits .and .i64 keep 1 == 0) = true›
      obtain rfl : res = b := by rw [HR.out, if_pos h1]
      refine bodyPost_ret (results1 rfl (res_agg rfl hst.st.has)) rfl ⟨rfl, hst.end⟩
    · have h1 : ¬ bits .and .i64 keep 1 = 0 := by simpa using ‹(bits .and .i64 keep 1 == 0) = false›
      obtain rfl : res = ⟨2, noS⟩ := by rw [HR.out, if_neg h1]
      refine bodyPost_ret (results1 rfl (res_agg rfl hst.st.has)) rfl ⟨rfl, hst.end⟩
  | write a s =>
    have hsz := hx a s rfl
    have HR : Hid (tornF (.write a s) b keep = if bits .and .i64 keep 15 = 0 then b else ⟨1, mkS (tornL keep (ls s))⟩) := Lib.hid rfl
    generalize tornF (.write a s) b keep = res at *
    clear hx
    unfold acV
    go_enter Tryz.func19, Tryz.ntmps19
    go_wp2_with (first | (with_reducible refine xnw (T := 114) rfl rfl hst ?_; clear hst; intro b7 w' hst) | (with_reducible first|refine x1 rfl rfl rfl hst ?_|refine xa rfl rfl rfl hst ?_|(refine xsa rfl rfl rfl rfl hst ?_;clear hst;intro w' hst)|(refine xba rfl rfl hst rfl ?_;clear hst;intro bb w' hst)|(refine xnw rfl rfl hst ?_;clear hst;intro bn w' hst)) | (with_reducible refine xval rfl 18 rfl (.tuple #[.agg #[.int .i64 a, .string s], .bool true]) (fun w => by kernel_rfl) ?_) | (with_reducible refine xs2b rfl rfl rfl hst ?_; clear hst; intro b2 cap C w' hst hL hD hF hw0 hsC hg hC))
    · have h1 : bits .and .i64 keep 15 = 0 := by simpa using ‹(bits .and .i64 keep 15 == 0) = true›
      obtain rfl : res = b := by rw [HR.out, if_pos h1]
      refine bodyPost_ret (results1 rfl (res_agg rfl hst.st.has)) rfl ⟨rfl, hst.end⟩
    · have h1 : ¬ bits .and .i64 keep 15 = 0 := by simpa using ‹(bits .and .i64 keep 15 == 0) = false›
      obtain rfl : res = ⟨1, mkS (tornL keep (ls s))⟩ := by rw [HR.out, if_neg h1]
      have HL := Lib.hid hL
      have HD0 := Lib.hid hD
      have HF0 := Lib.hid hF
      have HC : Hid (∀ j, j < s.size → C[j]? = some (.int .u8 (if j < 0 then (tornL keep (ls s)).getD j 0 else (ls s).getD j 0).toNat)) := Lib.hid (fun j hj => by rw [if_neg (by omega)]; exact hC j hj)
      have HZ : Hid (C.size = C.size) := Lib.hid rfl
      clear hL hC hD hF h1 HR
      go_loopw [30] (fun iv wr => ∃ (k : Nat) (C' : Array Value), k ≤ s.size ∧ iv = .int .i64 k ∧ Sx [] w wr [(b7, #[.int .i64 a, .string s], 114), (bn, #[.int .i64 0, .string ⟨#[]⟩], 74), (bb, #[.int .i64 b.st, .string b.data], 74)] NoD [] ∧ C'.size = C.size ∧ wr.heap[b2]? = some (.cells C' 5 (C'.size, C'.size + 1)) ∧ Hid (∀ j, j < s.size → C'[j]? = some (.int .u8 (if j < k then (tornL keep (ls s)).getD j 0 else (ls s).getD j 0).toNat))) (fun iv _ => s.size - (intOf iv).toNat)
      case atStart => exact ⟨0, C, by omega, rfl, hst, rfl, hg, HC⟩
      case round =>
        obtain ⟨k, C', hk, rfl, hst, hsz', hg', HC'⟩ := hrel
        by_cases hlt : k < s.size
        · have hkl : k < (ls s).length := by rw [ls_length]; exact hlt
          have hshr : ∀ w : World, (binOp .shr 3 (.int .i64 keep) (.int .i64 ((k : Int) / 32))).run Tryz.prog w = .ok (.int .i64 (keep.fdiv (2 ^ (min (k / 32) 64)))) w := fun w => by
            have e : ((k : Int) / 32) = ((k / 32 : Nat) : Int) := by omega
            rw [e]
            show (Op.shift .shr .i64 keep .i64 ((k / 32 : Nat) : Int)).run Tryz.prog w = _
            unfold Op.shift
            rw [if_neg (by omega)]
            rfl
          have HK : Hid (keepsB keep k = !(bits .and .i64 (keep.fdiv (2 ^ (min (k / 32) 64))) 1 == 0)) := Lib.hid rfl
          have HTk : Hid ((tornL keep (ls s)).getD k 0 = if keepsB keep k then (ls s).getD k 0 else 0) := Lib.hid (by simp [tornL, hkl])
          have hkC : k < C'.size := by omega
          generalize hm0 : keep.fdiv (2 ^ (min (k / 32) 64)) = m at *
          clear hm0
          go_wp2_with (first | (with_reducible refine xbin rfl rfl hshr rfl rfl ?_) | fail | (with_reducible refine xsF rfl rfl rfl rfl hst hg' hkC hw0 HL.out HD0.out HF0.out ?_; clear hst; intro w2 hst hg2))
          · have hm : keepsB keep k = false := by rw [HK.out]; simpa using ‹(bits .and .i64 m 1 == 0) = true›
            go_roundw
            case rel => exact ⟨k + 1, C'.setIfInBounds k (.int .u8 0), by omega, by go_num, hst, by simpa using hsz', by rw [Array.size_setIfInBounds]; exact hg2, Lib.hid (fun j hj => by
              by_cases h1 : j = k
              · subst h1
                rw [if_pos (by omega), HTk.out, hm]
                simp [Array.getElem?_setIfInBounds, hkC]
              · rw [Array.getElem?_setIfInBounds_ne (by omega), HC'.out j hj]
                congr 3
                by_cases h2 : j < k
                · rw [if_pos h2, if_pos (by omega)]
                · rw [if_neg h2, if_neg (by omega)])⟩
            case measure => simp [intOf]; omega
          · have hm : keepsB keep k = true := by rw [HK.out]; simpa using ‹(bits .and .i64 m 1 == 0) = false›
            go_roundw
            case rel => exact ⟨k + 1, C', by omega, by go_num, hst, hsz', hg', Lib.hid (fun j hj => by
              rw [HC'.out j hj]
              congr 3
              by_cases h1 : j = k
              · subst h1
                rw [if_neg (by omega), if_pos (by omega), HTk.out, hm]
                rfl
              · by_cases h2 : j < k
                · rw [if_pos h2, if_pos (by omega)]
                · rw [if_neg h2, if_neg (by omega)])⟩
            case measure => simp [intOf]; omega
        · obtain rfl : k = s.size := by omega
          have hlen : (tornL keep (ls s)).length = s.size := by rw [tornL, List.length_mapIdx, ls_length]
          have hback := run_convert_bytes_back (P := Tryz.prog) wr 115 9 5 ⟨b2, 0, none⟩ cap (tornL keep (ls s)) Tryz.underlying115 Tryz.underlying5 Tryz.underlying9 (fun j hj => by
            rw [addr_add, cell_of_row wr b2 _ _ _ _ hg', Nat.zero_add, HC'.out j (by omega), if_pos (by omega)]
            simp [hj])
          rw [hlen] at hback
          go_wp2_with (first | (with_reducible (refine xsa rfl rfl rfl rfl hst ?_;clear hst;intro w' hst)) | (with_reducible refine xnow rfl 44 rfl (.string (mkS (tornL keep (ls s)))) (by unfold execOp; simp only [Sem.run_bind]; erw [hback]; rfl) ?_) | (with_reducible refine xval rfl 45 rfl (.agg #[.int .i64 1, .string (mkS (tornL keep (ls s)))]) (fun w => by kernel_rfl) ?_))
          refine bodyPost_ret (results1 rfl (res_agg rfl hst.st.has)) rfl ⟨rfl, hst.end⟩
end Go.Proofs.YtigihgbgdillpaaGreatDoor
