/- The rules on memory again, under short names with what the goal tells left out; boxes and stores of every kind; literal rows of cells · The contract of frames.check. -/
import Derived.Deep.Cut
import Derived.Test.YtigihgbgdillpaaGreatDoorP07
set_option linter.unusedVariables false
set_option linter.unusedSimpArgs false
set_option maxRecDepth 100000
namespace Go.Proofs.YtigihgbgdillpaaGreatDoor
open Go.RowKit

/-- A value of one cell. -/
class OneC (v : Value) : Prop where
  cells : v.cells = #[v]
  one : v.oneCell' = true
instance (k : IntKind) (x : Int) : OneC (.int k x) := ⟨rfl, rfl⟩
instance (x : ByteArray) : OneC (.string x) := ⟨rfl, rfl⟩
instance (x : Bool) : OneC (.bool x) := ⟨rfl, rfl⟩
instance (a : Option Addr) (l c : Nat) : OneC (.slice a l c) := ⟨rfl, rfl⟩
instance (a : Option Addr) : OneC (.pointer a) := ⟨rfl, rfl⟩
/-- What a new variable of a type holds. -/
class ZeroT (T : TypeId) (C : outParam (Array Value)) : Prop where run : ∀ w : World, ∃ v : Value, (zeroValue T).run Tryz.prog w = .ok v w ∧ v.cells = C
theorem ZeroT.agg {T : TypeId} {C : Array Value} (h : ∀ w : World, (zeroValue T).run Tryz.prog w = .ok (.agg C) w) : ZeroT T C := ⟨fun w => ⟨_, h w, rfl⟩⟩
theorem ZeroT.one {T : TypeId} {v : Value} [o : OneC v] (h : ∀ w : World, (zeroValue T).run Tryz.prog w = .ok v w) : ZeroT T #[v] := ⟨fun w => ⟨_, h w, o.cells⟩⟩
theorem newVar_one (T : TypeId) (v : Value) (w : World) : (newVar T v).run Tryz.prog w = .ok ⟨w.heap.size, 0, none⟩ (w.alloc (.cells v.cells T)) := by
  cases v <;> rfl

section
variable {ops : Array Oper} {rest : List Oper} {o : Oper} {a : Act} {w : World} {Q : Exit → Act → World → Prop} {S : List Nat} {w0 : World} {L : List Blk}
theorem l1 (hw : Region.wanted o (yielded ops a.tmps) = true) {T : TypeId} {x : Operand} (ho : o.op = .load T x) {g off : Nat} (hx : a.eval x = .pointer (some ⟨g, off, none⟩)) (h : St S w0 w L)
    {C : Array Value} {Tb : TypeId} {v : Value} [OneT T] [Has L g C Tb] [CellAt C off v] (hk : wpList Tryz.prog ops Q rest (a.put o.dst v) w) : wpList Tryz.prog ops Q (o :: rest) a w := wpList_ld hw _ _ ho _ _ hx h hk
theorem la (hw : Region.wanted o (yielded ops a.tmps) = true) {T : TypeId} {x : Operand} (ho : o.op = .load T x) {g off : Nat} (hx : a.eval x = .pointer (some ⟨g, off, none⟩)) (h : St S w0 w L)
    {C : Array Value} {Tb : TypeId} {n : Nat} {cs : List Value} [AggT T n] [Has L g C Tb] [PartAt C off n cs] (hk : wpList Tryz.prog ops Q rest (a.put o.dst (.agg cs.toArray)) w) : wpList Tryz.prog ops Q (o :: rest) a w := wpList_lda hw _ _ ho _ _ hx h hk
section
variable {T : TypeId} {x y : Operand} {g off : Nat} {C C' : Array Value} {Tb : TypeId} {n : Nat} {L' : List Blk}
theorem si (hw : Region.wanted o (yielded ops a.tmps) = true) (ho : o.op = .store T x y) (hx : a.eval x = .pointer (some ⟨g, off, none⟩)) {k : IntKind} {z : Int} (hy : a.eval y = .int k z) (h : St S w0 w L)
    [SizeT T n] [Has L g C Tb] [WrAt C off n (.int k z) C'] [Upd L g C Tb C' L'] (hk : ∀ w', St S w0 w' L' → wpList Tryz.prog ops Q rest (a.put o.dst undef) w') : wpList Tryz.prog ops Q (o :: rest) a w := wpList_st hw T x y ho g off hx _ hy h hk
theorem ss (hw : Region.wanted o (yielded ops a.tmps) = true) (ho : o.op = .store T x y) (hx : a.eval x = .pointer (some ⟨g, off, none⟩)) {z : ByteArray} (hy : a.eval y = .string z) (h : St S w0 w L)
    [SizeT T n] [Has L g C Tb] [WrAt C off n (.string z) C'] [Upd L g C Tb C' L'] (hk : ∀ w', St S w0 w' L' → wpList Tryz.prog ops Q rest (a.put o.dst undef) w') : wpList Tryz.prog ops Q (o :: rest) a w := wpList_st hw T x y ho g off hx _ hy h hk
theorem sb (hw : Region.wanted o (yielded ops a.tmps) = true) (ho : o.op = .store T x y) (hx : a.eval x = .pointer (some ⟨g, off, none⟩)) {z : Bool} (hy : a.eval y = .bool z) (h : St S w0 w L)
    [SizeT T n] [Has L g C Tb] [WrAt C off n (.bool z) C'] [Upd L g C Tb C' L'] (hk : ∀ w', St S w0 w' L' → wpList Tryz.prog ops Q rest (a.put o.dst undef) w') : wpList Tryz.prog ops Q (o :: rest) a w := wpList_st hw T x y ho g off hx _ hy h hk
theorem sl (hw : Region.wanted o (yielded ops a.tmps) = true) (ho : o.op = .store T x y) (hx : a.eval x = .pointer (some ⟨g, off, none⟩)) {z : Option Addr} {l c : Nat} (hy : a.eval y = .slice z l c) (h : St S w0 w L)
    [SizeT T n] [Has L g C Tb] [WrAt C off n (.slice z l c) C'] [Upd L g C Tb C' L'] (hk : ∀ w', St S w0 w' L' → wpList Tryz.prog ops Q rest (a.put o.dst undef) w') : wpList Tryz.prog ops Q (o :: rest) a w := wpList_st hw T x y ho g off hx _ hy h hk
theorem sp (hw : Region.wanted o (yielded ops a.tmps) = true) (ho : o.op = .store T x y) (hx : a.eval x = .pointer (some ⟨g, off, none⟩)) {z : Option Addr} (hy : a.eval y = .pointer z) (h : St S w0 w L)
    [SizeT T n] [Has L g C Tb] [WrAt C off n (.pointer z) C'] [Upd L g C Tb C' L'] (hk : ∀ w', St S w0 w' L' → wpList Tryz.prog ops Q rest (a.put o.dst undef) w') : wpList Tryz.prog ops Q (o :: rest) a w := wpList_st hw T x y ho g off hx _ hy h hk
theorem sa (hw : Region.wanted o (yielded ops a.tmps) = true) (ho : o.op = .store T x y) (hx : a.eval x = .pointer (some ⟨g, off, none⟩)) {z : Array Value} (hy : a.eval y = .agg z) (h : St S w0 w L)
    [SizeT T n] [Has L g C Tb] [WrAt C off n (.agg z) C'] [Upd L g C Tb C' L'] (hk : ∀ w', St S w0 w' L' → wpList Tryz.prog ops Q rest (a.put o.dst undef) w') : wpList Tryz.prog ops Q (o :: rest) a w := wpList_st hw T x y ho g off hx _ hy h hk
end
/-- A new variable. -/
theorem nw (hw : Region.wanted o (yielded ops a.tmps) = true) {T : TypeId} (ho : o.op = .alloc T) (h : St S w0 w L) {C : Array Value} [z : ZeroT T C]
    (hk : ∀ (b : Nat) (w' : World), St S w0 w' ((b, C, T) :: L) → wpList Tryz.prog ops Q rest (a.put o.dst (.pointer (some ⟨b, 0, none⟩))) w') : wpList Tryz.prog ops Q (o :: rest) a w :=
  BigFrame.wpList_want hw fun K hK => by
    obtain ⟨v, hz, rfl⟩ := z.run w
    have hr : (Instr.alloc T true (.tuple #[])).run Tryz.prog w = .ok (.pointer (some ⟨w.heap.size, 0, none⟩)) (w.alloc (.cells v.cells T)) := by
      unfold Instr.alloc
      simp only [Sem.run_bind, hz, Result.andThen_ok, newVar_one]
      rfl
    unfold Oper.wp execOp
    simp only [ho, Sem.run_bind, hr, Result.andThen_ok]
    exact hK _ _ (hk _ _ (h.alloc v.cells T))
theorem boxV (hw : Region.wanted o (yielded ops a.tmps) = true) {T : TypeId} {x : Operand} (ho : o.op = .box T x) (h : St S w0 w L) {v : Value} (hx : a.eval x = v) {C : Array Value} (hC : v.cells = C)
    (hk : ∀ (b : Nat) (w' : World), St S w0 w' ((b, C, T) :: L) → wpList Tryz.prog ops Q rest (a.put o.dst (.pointer (some ⟨b, 0, none⟩))) w') : wpList Tryz.prog ops Q (o :: rest) a w :=
  BigFrame.wpList_want hw fun K hK => by
    have hr : (Instr.box T v).run Tryz.prog w = .ok (.pointer (some ⟨w.heap.size, 0, none⟩)) (w.alloc (.cells v.cells T)) := by
      unfold Instr.box
      simp only [Sem.run_bind, newVar_one, Result.andThen_ok]
      rfl
    unfold Oper.wp execOp
    simp only [ho, hx, Sem.run_bind, hr, Result.andThen_ok]
    exact hK _ _ (hk _ _ (hC ▸ h.alloc v.cells T))
section
variable {T : TypeId} {x : Operand}
theorem bi (hw : Region.wanted o (yielded ops a.tmps) = true) (ho : o.op = .box T x) (h : St S w0 w L) {k : IntKind} {z : Int} (hx : a.eval x = .int k z)
    (hk : ∀ (b : Nat) (w' : World), St S w0 w' ((b, #[.int k z], T) :: L) → wpList Tryz.prog ops Q rest (a.put o.dst (.pointer (some ⟨b, 0, none⟩))) w') : wpList Tryz.prog ops Q (o :: rest) a w := boxV hw ho h hx rfl hk
theorem bs (hw : Region.wanted o (yielded ops a.tmps) = true) (ho : o.op = .box T x) (h : St S w0 w L) {z : ByteArray} (hx : a.eval x = .string z)
    (hk : ∀ (b : Nat) (w' : World), St S w0 w' ((b, #[.string z], T) :: L) → wpList Tryz.prog ops Q rest (a.put o.dst (.pointer (some ⟨b, 0, none⟩))) w') : wpList Tryz.prog ops Q (o :: rest) a w := boxV hw ho h hx rfl hk
theorem bl (hw : Region.wanted o (yielded ops a.tmps) = true) (ho : o.op = .box T x) (h : St S w0 w L) {z : Option Addr} {l c : Nat} (hx : a.eval x = .slice z l c)
    (hk : ∀ (b : Nat) (w' : World), St S w0 w' ((b, #[.slice z l c], T) :: L) → wpList Tryz.prog ops Q rest (a.put o.dst (.pointer (some ⟨b, 0, none⟩))) w') : wpList Tryz.prog ops Q (o :: rest) a w := boxV hw ho h hx rfl hk
theorem bp (hw : Region.wanted o (yielded ops a.tmps) = true) (ho : o.op = .box T x) (h : St S w0 w L) {z : Option Addr} (hx : a.eval x = .pointer z)
    (hk : ∀ (b : Nat) (w' : World), St S w0 w' ((b, #[.pointer z], T) :: L) → wpList Tryz.prog ops Q rest (a.put o.dst (.pointer (some ⟨b, 0, none⟩))) w') : wpList Tryz.prog ops Q (o :: rest) a w := boxV hw ho h hx rfl hk
theorem ba (hw : Region.wanted o (yielded ops a.tmps) = true) (ho : o.op = .box T x) (h : St S w0 w L) {C : Array Value} (hx : a.eval x = .agg C)
    (hk : ∀ (b : Nat) (w' : World), St S w0 w' ((b, C, T) :: L) → wpList Tryz.prog ops Q rest (a.put o.dst (.pointer (some ⟨b, 0, none⟩))) w') : wpList Tryz.prog ops Q (o :: rest) a w := boxV hw ho h hx rfl hk
end
end
section
variable {ops : Array Oper} {rest : List Oper} {o : Oper} {a : Act} {C : World → Prop} {Q : Act → Prop} {S : List Nat} {w0 : World} {L : List Blk}
theorem q1 (hw : Region.wanted o (yielded ops a.tmps) = true) {T : TypeId} {x : Operand} (ho : o.op = .load T x) {g off : Nat} (hx : a.eval x = .pointer (some ⟨g, off, none⟩)) (h : ∀ w, C w → St S w0 w L)
    {D : Array Value} {Tb : TypeId} {v : Value} [OneT T] [Has L g D Tb] [CellAt D off v] (hk : wpQuiet Tryz.prog ops C Q rest (a.put o.dst v)) : wpQuiet Tryz.prog ops C Q (o :: rest) a := wpQuiet_ld hw _ _ ho _ _ hx h hk
theorem qa (hw : Region.wanted o (yielded ops a.tmps) = true) {T : TypeId} {x : Operand} (ho : o.op = .load T x) {g off : Nat} (hx : a.eval x = .pointer (some ⟨g, off, none⟩)) (h : ∀ w, C w → St S w0 w L)
    {D : Array Value} {Tb : TypeId} {n : Nat} {cs : List Value} [AggT T n] [Has L g D Tb] [PartAt D off n cs] (hk : wpQuiet Tryz.prog ops C Q rest (a.put o.dst (.agg cs.toArray))) : wpQuiet Tryz.prog ops C Q (o :: rest) a := wpQuiet_lda hw _ _ ho _ _ hx h hk
end

/-! ### Results that lie in cells -/
def ResRun (w : World) (tmps : Array Value) : ResultVar → Value → Prop
  | .tmp t, v => v = tmps.getD t undef
  | .cell p T, v => ∃ g, tmps[p]?.getD undef = .pointer (some g) ∧ (loadVar T g).run Tryz.prog w = .ok v w
theorem res_tmp {w : World} {tmps : Array Value} {t : Tmp} : ResRun w tmps (.tmp t) (tmps.getD t undef) := rfl
theorem res_one {w : World} {tmps : Array Value} {p : Tmp} {T Tb : TypeId} {g : Nat} {C : Array Value} {v : Value} {z : Nat × Nat} (hp : tmps.getD p undef = .pointer (some ⟨g, 0, none⟩)) (hg : w.heap[g]? = some (.cells C Tb z)) [t : OneT T] [c : CellAt C 0 v] : ResRun w tmps (.cell p T) v :=
  ⟨_, (by simpa using hp), run_loadVar_one (t.agg w) hg c.eq⟩
theorem res_agg {w : World} {tmps : Array Value} {p : Tmp} {T Tb : TypeId} {g n : Nat} {C : Array Value} {cs : List Value} {z : Nat × Nat} (hp : tmps.getD p undef = .pointer (some ⟨g, 0, none⟩)) (hg : w.heap[g]? = some (.cells C Tb z)) [t : AggT T n] [c : PartAt C 0 n cs] : ResRun w tmps (.cell p T) (.agg cs.toArray) :=
  ⟨_, (by simpa using hp), run_loadVar_agg (t.agg w) (by rw [c.len]; exact t.size) hg c.eq⟩
theorem results1 {fn : Func} {w : World} {tmps : Array Value} {r1 : ResultVar} {v1 : Value} (hf : fn.results = #[r1]) (h1 : ResRun w tmps r1 v1) : (results fn tmps).run Tryz.prog w = .ok v1 w := by
  unfold results
  rw [hf]
  cases r1 <;> simp only [ResRun] at h1 <;> (try obtain ⟨g1, p1, q1⟩ := h1)  <;> simp [asAddr, *]
theorem results2 {fn : Func} {w : World} {tmps : Array Value} {r1 r2 : ResultVar} {v1 v2 : Value} (hf : fn.results = #[r1, r2]) (h1 : ResRun w tmps r1 v1) (h2 : ResRun w tmps r2 v2) : (results fn tmps).run Tryz.prog w = .ok (.tuple #[v1, v2]) w := by
  unfold results
  rw [hf]
  cases r1 <;> cases r2 <;> simp only [ResRun] at h1 h2 <;> (try obtain ⟨g1, p1, q1⟩ := h1) <;> (try obtain ⟨g2, p2, q2⟩ := h2) <;> simp [asAddr, *]
theorem results3 {fn : Func} {w : World} {tmps : Array Value} {r1 r2 r3 : ResultVar} {v1 v2 v3 : Value} (hf : fn.results = #[r1, r2, r3]) (h1 : ResRun w tmps r1 v1) (h2 : ResRun w tmps r2 v2) (h3 : ResRun w tmps r3 v3) : (results fn tmps).run Tryz.prog w = .ok (.tuple #[v1, v2, v3]) w := by
  unfold results
  rw [hf]
  cases r1 <;> cases r2 <;> cases r3 <;> simp only [ResRun] at h1 h2 h3 <;> (try obtain ⟨g1, p1, q1⟩ := h1) <;> (try obtain ⟨g2, p2, q2⟩ := h2) <;> (try obtain ⟨g3, p3, q3⟩ := h3) <;> simp [asAddr, *]

/-! ### Literal rows -/
instance {a : Value} : CellAt #[a] 0 a := ⟨rfl⟩
instance {a b : Value} : CellAt #[a, b] 0 a := ⟨rfl⟩
instance {a b : Value} : CellAt #[a, b] 1 b := ⟨rfl⟩
instance {a b c : Value} : CellAt #[a, b, c] 0 a := ⟨rfl⟩
instance {a b c : Value} : CellAt #[a, b, c] 1 b := ⟨rfl⟩
instance {a b c : Value} : CellAt #[a, b, c] 2 c := ⟨rfl⟩
instance {a b c d : Value} : CellAt #[a, b, c, d] 0 a := ⟨rfl⟩
instance {a b c d : Value} : CellAt #[a, b, c, d] 1 b := ⟨rfl⟩
instance {a b c d : Value} : CellAt #[a, b, c, d] 2 c := ⟨rfl⟩
instance {a b c d : Value} : CellAt #[a, b, c, d] 3 d := ⟨rfl⟩
theorem wrOne {C C' : Array Value} {off : Nat} {v : Value} [o : OneC v] (hf : off + 1 ≤ C.size) (he : C.setIfInBounds off v = C') : WrAt C off 1 v C' := wr_one _ _ _ _ o.one o.cells hf he
instance {a v : Value} [OneC v] : WrAt #[a] 0 1 v #[v] := wrOne (Nat.le_refl _) rfl
instance {a b v : Value} [OneC v] : WrAt #[a, b] 0 1 v #[v, b] := wrOne (Nat.le_of_ble_eq_true rfl) rfl
instance {a b v : Value} [OneC v] : WrAt #[a, b] 1 1 v #[a, v] := wrOne (Nat.le_of_ble_eq_true rfl) rfl
instance {a b c v : Value} [OneC v] : WrAt #[a, b, c] 0 1 v #[v, b, c] := wrOne (Nat.le_of_ble_eq_true rfl) rfl
instance {a b c v : Value} [OneC v] : WrAt #[a, b, c] 1 1 v #[a, v, c] := wrOne (Nat.le_of_ble_eq_true rfl) rfl
instance {a b c v : Value} [OneC v] : WrAt #[a, b, c] 2 1 v #[a, b, v] := wrOne (Nat.le_of_ble_eq_true rfl) rfl
instance {a b c d v : Value} [OneC v] : WrAt #[a, b, c, d] 0 1 v #[v, b, c, d] := wrOne (Nat.le_of_ble_eq_true rfl) rfl
instance {a b c d v : Value} [OneC v] : WrAt #[a, b, c, d] 1 1 v #[a, v, c, d] := wrOne (Nat.le_of_ble_eq_true rfl) rfl
instance {a b c d v : Value} [OneC v] : WrAt #[a, b, c, d] 2 1 v #[a, b, v, d] := wrOne (Nat.le_of_ble_eq_true rfl) rfl
instance {a b c d v : Value} [OneC v] : WrAt #[a, b, c, d] 3 1 v #[a, b, c, v] := wrOne (Nat.le_of_ble_eq_true rfl) rfl
/-- A whole literal row. -/
theorem partAll {l : List Value} : PartAt l.toArray 0 l.length l := ⟨rfl, fun j v h => by simpa using h⟩
instance {a b : Value} : PartAt #[a, b] 0 2 [a, b] := partAll (l := [a, b])
instance {a b c : Value} : PartAt #[a, b, c] 0 3 [a, b, c] := partAll (l := [a, b, c])
instance {a b c d : Value} : PartAt #[a, b, c, d] 0 4 [a, b, c, d] := partAll (l := [a, b, c, d])

instance oneByte : OneT 5 := ⟨fun w => by kernel_rfl, by kernel_rfl⟩
instance zeroInt : ZeroT 3 #[.int .i64 0] := .one fun w => by kernel_rfl
instance zeroBool : ZeroT 4 #[.bool false] := .one fun w => by kernel_rfl
instance zeroStr : ZeroT 9 #[.string ⟨#[]⟩] := .one fun w => by kernel_rfl
end Go.Proofs.YtigihgbgdillpaaGreatDoor
namespace Go.Proofs.YtigihgbgdillpaaGreatDoor
open Go.RowKit

structure Fr where
  kind : Int
  epoch : Int
  index : Int
  data : ByteArray
def frC (f : Fr) : Array Value := #[.int .u8 f.kind, .int .i64 f.epoch, .int .i64 f.index, .string f.data]
instance aggFrame : AggT 165 4 := ⟨fun w => by kernel_rfl, by kernel_rfl⟩
instance (f : Fr) : CellAt (frC f) 0 (.int .u8 f.kind) := ⟨rfl⟩
instance (f : Fr) : CellAt (frC f) 1 (.int .i64 f.epoch) := ⟨rfl⟩
instance (f : Fr) : CellAt (frC f) 2 (.int .i64 f.index) := ⟨rfl⟩
instance (f : Fr) : CellAt (frC f) 3 (.string f.data) := ⟨rfl⟩
instance (f : Fr) : PartAt (frC f) 0 4 [.int .u8 f.kind, .int .i64 f.epoch, .int .i64 f.index, .string f.data] := partAll (l := [.int .u8 f.kind, .int .i64 f.epoch, .int .i64 f.index, .string f.data])

def frCheck (f : Fr) : Int :=
  if f.kind = 68 ∨ f.kind = 80 ∨ f.kind = 83 then
    if f.epoch < 1 ∨ 1073741824 < f.epoch ∨ f.index < 0 ∨ 65535 < f.index then 2 else if (112 : Int) < f.data.size then 3 else 0
  else 2

set_option maxHeartbeats 8000000 in
theorem frCheck_calls (f : Fr) (w : World) :
    Calls Tryz.prog 106 #[.agg (frC f)] w fun e w' => e = .returned (.int .i64 (frCheck f)) ∧ Below w.heap.size w w' := by
  have hst := St.start w
  have key : ∀ (r : Int), Hid (frCheck f = r) → ∀ (k1 k2 k3 e1 e2 e3 e4 e5 : Bool), (f.kind == 68) = k1 → (f.kind == 80) = k2 → (f.kind == 83) = k3 → decide (f.epoch < 1) = e1 → decide (1073741824 < f.epoch) = e2 → decide (f.index < 0) = e3 → decide (65535 < f.index) = e4 →
      decide (112 < (f.data.size : Int)) = e5 → Hid (r = if k1 || k2 || k3 then if e1 || e2 || e3 || e4 then 2 else if e5 then 3 else 0 else 2) →
      Calls Tryz.prog 106 #[.agg (frC f)] w fun e w' => e = .returned (.int .i64 r) ∧ Below w.heap.size w w' := by
    intro r _ k1 k2 k3 e1 e2 e3 e4 e5 h1 h2 h3 g1 g2 g3 g4 g5 HR
    have hk : (k1 = false ∧ k2 = false ∧ k3 = false) ∨ (k1 = true) ∨ (k1 = false ∧ k2 = true) ∨ (k1 = false ∧ k2 = false ∧ k3 = true) := by cases k1 <;> cases k2 <;> cases k3 <;> simp
    go_enter Tryz.func106, Tryz.ntmps106
    rcases hk with ⟨rfl, rfl, rfl⟩ | rfl | ⟨rfl, rfl⟩ | ⟨rfl, rfl, rfl⟩
    · go_wp2_with (with_reducible first|refine l1 rfl rfl rfl ‹_› ?_|(refine ba rfl rfl ‹_› rfl ?_;intro bb w' hst))
      go_ret
      refine ⟨?_, hst.end⟩
      rw [HR.out]; rfl
    all_goals
      cases e1
      · cases e2
        · cases e3
          · cases e4
            · cases e5
              · go_wp2_with (with_reducible first|refine l1 rfl rfl rfl ‹_› ?_|(refine ba rfl rfl ‹_› rfl ?_;intro bb w' hst))
                go_ret
                refine ⟨?_, hst.end⟩
                rw [HR.out]; rfl
              · go_wp2_with (with_reducible first|refine l1 rfl rfl rfl ‹_› ?_|(refine ba rfl rfl ‹_› rfl ?_;intro bb w' hst))
                go_ret
                refine ⟨?_, hst.end⟩
                rw [HR.out]; rfl
            · go_wp2_with (with_reducible first|refine l1 rfl rfl rfl ‹_› ?_|(refine ba rfl rfl ‹_› rfl ?_;intro bb w' hst))
              go_ret
              refine ⟨?_, hst.end⟩
              rw [HR.out]; rfl
          · go_wp2_with (with_reducible first|refine l1 rfl rfl rfl ‹_› ?_|(refine ba rfl rfl ‹_› rfl ?_;intro bb w' hst))
            go_ret
            refine ⟨?_, hst.end⟩
            rw [HR.out]; rfl
        · go_wp2_with (with_reducible first|refine l1 rfl rfl rfl ‹_› ?_|(refine ba rfl rfl ‹_› rfl ?_;intro bb w' hst))
          go_ret
          refine ⟨?_, hst.end⟩
          rw [HR.out]; rfl
      · go_wp2_with (with_reducible first|refine l1 rfl rfl rfl ‹_› ?_|(refine ba rfl rfl ‹_› rfl ?_;intro bb w' hst))
        go_ret
        refine ⟨?_, hst.end⟩
        rw [HR.out]; rfl
  exact key _ (Lib.hid rfl) _ _ _ _ _ _ _ _ rfl rfl rfl rfl rfl rfl rfl rfl (Lib.hid (by unfold frCheck; simp only [Bool.or_eq_true, beq_iff_eq, decide_eq_true_eq, or_assoc]))
end Go.Proofs.YtigihgbgdillpaaGreatDoor
