/- The state of a walk: what a call owns (blocks in a list), what lies still (data), and the objects in play (their blocks); rows of elements, read and appended to. -/
import Derived.Test.YtigihgbgdillpaaGreatDoorP18
set_option linter.unusedVariables false
set_option linter.unusedSimpArgs false
set_option maxRecDepth 100000
namespace Go.Proofs.YtigihgbgdillpaaGreatDoor
open Go.RowKit

/-- Data that lie still. -/
abbrev Dat := Blk → Prop
def Holds (D : Dat) (w : World) : Prop := ∀ p, D p → ∃ z, w.heap[p.1]? = some (.cells p.2.1 p.2.2 z)
/-- Since w0 nothing has turned but new blocks and those of S; L is owned, D lies still, F are the blocks of the objects in play. -/
structure Sx (S : List Nat) (w0 w : World) (L : List Blk) (D : Dat) (F : List Nat) : Prop where
  st : St S w0 w L
  data : Holds D w
  apart : ∀ p, D p → ∀ q ∈ L, p.1 ≠ q.1
  flt : ∀ x ∈ F, x < w.heap.size
  fL : ∀ x ∈ F, ∀ q ∈ L, q.1 ≠ x
  fD : ∀ x ∈ F, ∀ p, D p → p.1 ≠ x
  fS : ∀ x ∈ F, x ∈ S ∨ w0.heap.size ≤ x
theorem Holds.lt {D : Dat} {w : World} (h : Holds D w) {p : Blk} (hp : D p) : p.1 < w.heap.size := by
  obtain ⟨z, hz⟩ := h p hp
  exact lt_of_heap' hz
/-- All blocks of cells of a world. -/
def snap (w : World) : Dat := fun p => ∃ z, w.heap[p.1]? = some (.cells p.2.1 p.2.2 z)
theorem snap_holds (w : World) : Holds (snap w) w := fun p h => h
/-- Bigger data. -/
structure Ext (w : World) (D D' : Dat) : Prop where
  sub : ∀ p, D p → D' p
  new : ∀ p, D' p → D p ∨ w.heap.size ≤ p.1
theorem Ext.refl (w : World) (D : Dat) : Ext w D D := ⟨fun _ h => h, fun _ h => Or.inl h⟩
def NoD : Dat := fun _ => False
theorem Holds.none (w : World) : Holds NoD w := fun _ h => h.elim
theorem Sx.start (w : World) {D : Dat} {F : List Nat} (hD : Holds D w) (hF : ∀ x ∈ F, x < w.heap.size) (hd : ∀ x ∈ F, ∀ p, D p → p.1 ≠ x) : Sx F w w [] D F :=
  ⟨⟨rfl, rfl, rfl, Nat.le_refl _, fun _ _ _ => rfl, fun _ h => by simp at h, by simp, fun _ h => by simp at h⟩, hD, fun _ _ _ h => by simp at h, hF, fun _ _ _ h => by simp at h, hd, fun x h => Or.inl h⟩
theorem Sx.start0 (w : World) {D : Dat} (hD : Holds D w) : Sx [] w w [] D [] := Sx.start w hD (fun _ h => by simp at h) (fun _ h => by simp at h)
theorem Sx.startN (w : World) : Sx [] w w [] NoD [] := Sx.start0 w (Holds.none w)
section
variable {S : List Nat} {w0 w : World} {L : List Blk} {D : Dat} {F : List Nat}
theorem Sx.size (h : Sx S w0 w L D F) : w0.heap.size ≤ w.heap.size := h.st.size
/-- Behind a callee that turns the objects' blocks at most, and makes new blocks. -/
theorem Sx.obj (h : Sx S w0 w L D F) {w' : World} {F' : List Nat} {D' : Dat} (k : St F w w' []) (hF : ∀ x ∈ F', x ∈ F ∨ w.heap.size ≤ x) (hlt : ∀ x ∈ F', x < w'.heap.size) (e : Ext w D D') (hD : Holds D' w') (hd : ∀ x ∈ F', ∀ p, D' p → p.1 ≠ x) : Sx S w0 w' L D' F' where
  st := by
    refine ⟨k.os.trans h.st.os, k.tape.trans h.st.tape, k.output.trans h.st.output, Nat.le_trans h.st.size k.size, fun j hj hs => ?_, h.st.own, h.st.nodup, fun p hp => ?_⟩
    · refine (k.kept j (Nat.lt_of_lt_of_le hj h.st.size) (fun hm => ?_)).trans (h.st.kept j hj hs)
      rcases h.fS j hm with h1 | h1
      · exact hs h1
      · omega
    · exact (k.kept p.1 (h.st.lt p hp) (fun hm => h.fL _ hm p hp rfl)).trans (h.st.blk p hp)
  data := hD
  apart p hp q hq := by
    rcases e.new p hp with h1 | h1
    · exact h.apart p h1 q hq
    · have := h.st.lt q hq; omega
  flt := hlt
  fL x hx q hq := by
    rcases hF x hx with h1 | h1
    · exact h.fL x h1 q hq
    · have := h.st.lt q hq; omega
  fD := hd
  fS x hx := by
    rcases hF x hx with h1 | h1
    · exact h.fS x h1
    · exact Or.inr (Nat.le_trans h.st.size h1)
/-- The same, and no new data. -/
theorem Sx.obj0 (h : Sx S w0 w L D F) {w' : World} {F' : List Nat} (k : St F w w' []) (hF : ∀ x ∈ F', x ∈ F ∨ w.heap.size ≤ x) (hlt : ∀ x ∈ F', x < w'.heap.size) : Sx S w0 w' L D F' := by
  have hD : Holds D w' := fun p hp => by
    obtain ⟨z, hz⟩ := h.data p hp
    exact ⟨z, (k.kept p.1 (lt_of_heap' hz) (fun hm => h.fD _ hm p hp rfl)).trans hz⟩
  refine h.obj k hF hlt (Ext.refl _ _) hD (fun x hx p hp => ?_)
  rcases hF x hx with h1 | h1
  · exact h.fD x h1 p hp
  · have := h.data.lt hp; omega
theorem St.of_below {w w' : World} (hb : Below w.heap.size w w') (F : List Nat) : St F w w' [] := ⟨hb.os, hb.tape, hb.output, hb.size, fun k hk _ => hb.block k hk, fun p h => by simp at h, by simp, fun p h => by simp at h⟩
/-- Behind a callee that makes new blocks at most. -/
theorem Sx.below (h : Sx S w0 w L D F) {w' : World} (hb : Below w.heap.size w w') : Sx S w0 w' L D F :=
  h.obj0 (St.of_below hb F) (fun x hx => Or.inl hx) (fun x hx => Nat.lt_of_lt_of_le (h.flt x hx) hb.size)
/-- .. and leaves data. -/
theorem Sx.ext (h : Sx S w0 w L D F) {w' : World} {D' : Dat} (hb : Below w.heap.size w w') (e : Ext w D D') (hD : Holds D' w') : Sx S w0 w' L D' F :=
  h.obj (St.of_below hb F) (fun x hx => Or.inl hx) (fun x hx => Nat.lt_of_lt_of_le (h.flt x hx) hb.size) e hD (fun x hx p hp => by
    rcases e.new p hp with h1 | h1
    · exact h.fD x hx p h1
    · have := h.flt x hx; omega)
theorem Sx.alloc (h : Sx S w0 w L D F) (C : Array Value) (T : TypeId) : Sx S w0 (w.alloc (.cells C T)) ((w.heap.size, C, T) :: L) D F where
  st := h.st.alloc C T
  data p hp := by
    obtain ⟨z, hz⟩ := h.data p hp
    exact ⟨z, (Below.heap_alloc _ _ _ (lt_of_heap' hz)).trans hz⟩
  apart p hp q hq := by
    rcases List.mem_cons.1 hq with rfl | hq
    · have := h.data.lt hp; simp; omega
    · exact h.apart p hp q hq
  flt x hx := by have := h.flt x hx; simp; omega
  fL x hx q hq := by
    rcases List.mem_cons.1 hq with rfl | hq
    · have := h.flt x hx; simp; omega
    · exact h.fL x hx q hq
  fD := h.fD
  fS := h.fS
theorem Sx.upd (h : Sx S w0 w L D F) {w' : World} {L' : List Blk} {g : Nat} {C C' : Array Value} {T : TypeId} [u : Upd L g C T C' L'] (k : St [g] w w' [(g, C', T)]) : Sx S w0 w' L' D F where
  st := h.st.upd k
  data p hp := by
    obtain ⟨z, hz⟩ := h.data p hp
    exact ⟨z, (k.kept p.1 (lt_of_heap' hz) (by simpa using h.apart p hp _ u.mem)).trans hz⟩
  apart p hp q hq := by
    have : q.1 ∈ L'.map (·.1) := List.mem_map.2 ⟨q, hq, rfl⟩
    rw [u.keys] at this
    obtain ⟨r, hr, e⟩ := List.mem_map.1 this
    rw [← e]
    exact h.apart p hp r hr
  flt x hx := Nat.lt_of_lt_of_le (h.flt x hx) k.size
  fL x hx q hq := by
    have : q.1 ∈ L'.map (·.1) := List.mem_map.2 ⟨q, hq, rfl⟩
    rw [u.keys] at this
    obtain ⟨r, hr, e⟩ := List.mem_map.1 this
    rw [← e]
    exact h.fL x hx r hr
  fD := h.fD
  fS := h.fS
theorem Sx.sub (h : Sx S w0 w L D F) {L' : List Blk} (hs : ∀ p ∈ L', p ∈ L) (hn : (L'.map (·.1)).Nodup) : Sx S w0 w L' D F :=
  ⟨⟨h.st.os, h.st.tape, h.st.output, h.st.size, h.st.kept, fun p hp => h.st.own p (hs p hp), hn, fun p hp => h.st.blk p (hs p hp)⟩, h.data, fun p hp q hq => h.apart p hp q (hs q hq), h.flt, fun x hx q hq => h.fL x hx q (hs q hq), h.fD, h.fS⟩
theorem Sx.drop {p : Blk} (h : Sx S w0 w (p :: L) D F) : Sx S w0 w L D F := h.sub (fun q hq => by simp [hq]) (List.nodup_cons.1 h.st.nodup).2
theorem Sx.drop2 {p q : Blk} (h : Sx S w0 w (p :: q :: L) D F) : Sx S w0 w (p :: L) D F :=
  h.sub (fun r hr => by rcases List.mem_cons.1 hr with h | h <;> simp [h]) (by have := h.st.nodup; simp at this ⊢; exact ⟨this.1.2, this.2.2⟩)
theorem Sx.swap {p q : Blk} (h : Sx S w0 w (p :: q :: L) D F) : Sx S w0 w (q :: p :: L) D F :=
  h.sub (fun r hr => by simp at hr ⊢; rcases hr with h | h | h <;> simp [h]) (by have := h.st.nodup; simp at this ⊢; exact ⟨⟨fun e => this.1.1 e.symm, this.2.1⟩, this.1.2, this.2.2⟩)
theorem Sx.clear (h : Sx S w0 w L D F) : Sx S w0 w [] D F := h.sub (fun p hp => by simp at hp) (by simp)
theorem Sx.dropL {L1 L2 : List Blk} (h : Sx S w0 w (L1 ++ L2) D F) : Sx S w0 w L2 D F :=
  h.sub (fun p hp => by simp [hp]) (by have := h.st.nodup; rw [List.map_append] at this; exact (List.nodup_append.1 this).2.1)
theorem Sx.end (h : Sx [] w0 w L D F) : Below w0.heap.size w0 w := h.st.end
theorem Sx.endF (h : Sx S w0 w L D F) : St S w0 w [] := h.clear.st
/-- Blocks that are owned, laid down as data. -/
theorem Sx.lay {L1 L2 : List Blk} (h : Sx S w0 w (L1 ++ L2) D F) : Sx S w0 w L2 (fun p => D p ∨ p ∈ L1) F where
  st := h.dropL.st
  data p hp := by
    rcases hp with hp | hp
    · exact h.data p hp
    · exact ⟨_, h.st.blk p (by simp [hp])⟩
  apart p hp q hq := by
    rcases hp with hp | hp
    · exact h.apart p hp q (by simp [hq])
    · have := h.st.nodup
      rw [List.map_append, List.nodup_append] at this
      exact this.2.2 _ (List.mem_map.2 ⟨p, hp, rfl⟩) _ (List.mem_map.2 ⟨q, hq, rfl⟩)
  flt := h.flt
  fL x hx q hq := h.fL x hx q (by simp [hq])
  fD x hx p hp := by
    rcases hp with hp | hp
    · exact h.fD x hx p hp
    · exact h.fL x hx p (by simp [hp])
  fS := h.fS
theorem Sx.ext0 {L1 : List Blk} (h : Sx [] w0 w (L1 ++ L) D F) : Ext w0 D (fun p => D p ∨ p ∈ L1) :=
  ⟨fun p hp => Or.inl hp, fun p hp => hp.imp id (fun hp => by rcases h.st.own p (by simp [hp]) with h1 | h1; exact h1; simp at h1)⟩
end

/-! ### Addresses -/
class AdrIs (ad : Addr) (g off : outParam Nat) : Prop where eq : ad = ⟨g, off, none⟩
instance adrLit {g off : Nat} : AdrIs ⟨g, off, none⟩ g off := ⟨rfl⟩
class SumIs (a b : Nat) (c : outParam Nat) : Prop where eq : a + b = c
instance (priority := low) sumAny {a b : Nat} : SumIs a b (a + b) := ⟨rfl⟩
instance sumZeroR {a : Nat} : SumIs a 0 a := ⟨rfl⟩
instance sumZero {b : Nat} : SumIs 0 b b := ⟨Nat.zero_add b⟩
instance adrAdd {ad : Addr} {g off n m : Nat} [h : AdrIs ad g off] [s : SumIs off n m] : AdrIs (ad.add n) g m := ⟨by rw [h.eq, addr_add, s.eq]⟩
/-- What a load out of the data gives. -/
class LdD (D : Dat) (T : TypeId) (ad : Addr) (v : outParam Value) : Prop where run : ∀ w, Holds D w → (loadVar T ad).run Tryz.prog w = .ok v w
theorem run_loadVar_z {w : World} {g off : Nat} {T Tb : TypeId} {C : Array Value} {v : Value} {z : Nat × Nat} (ha : (isAgg T).run Tryz.prog w = .ok false w) (hg : w.heap[g]? = some (.cells C Tb z)) (hv : C[off]? = some v) : (loadVar T ⟨g, off, none⟩).run Tryz.prog w = .ok v w := run_loadVar_one ha hg hv
theorem LdD.one {D : Dat} {T Tb : TypeId} {g off : Nat} {C : Array Value} {v : Value} [t : OneT T] (hD : D (g, C, Tb)) (hv : C[off]? = some v) : LdD D T ⟨g, off, none⟩ v :=
  ⟨fun w hw => by obtain ⟨z, hz⟩ := hw _ hD; exact run_loadVar_one (t.agg w) hz hv⟩
theorem LdD.agg {D : Dat} {T Tb : TypeId} {g off n : Nat} {C : Array Value} {cs : List Value} [t : AggT T n] (hD : D (g, C, Tb)) (hv : PartAt C off n cs) : LdD D T ⟨g, off, none⟩ (.agg cs.toArray) :=
  ⟨fun w hw => by obtain ⟨z, hz⟩ := hw _ hD; exact run_loadVar_agg (t.agg w) (by rw [hv.len]; exact t.size) hz hv.eq⟩
theorem LdD.mono {D D' : Dat} {T : TypeId} {ad : Addr} {v : Value} (h : LdD D T ad v) (hs : ∀ p, D p → D' p) : LdD D' T ad v := ⟨fun w hw => h.run w (fun p hp => hw p (hs p hp))⟩

/-! ### The rules -/
instance (priority := low) hasApp {L1 L2 : List Blk} {g : Nat} {C : Array Value} {T : TypeId} [h : Has L2 g C T] : Has (L1 ++ L2) g C T := ⟨by simp [h.mem]⟩
instance (priority := low) updApp {L1 L2 L2' : List Blk} {g : Nat} {C C' : Array Value} {T : TypeId} [h : Upd L2 g C T C' L2'] : Upd (L1 ++ L2) g C T C' (L1 ++ L2') where
  mem := by simp [h.mem]
  keys := by simp [h.keys]
  upd _ hn p hp := by
    rw [List.map_append, List.nodup_append] at hn
    rcases List.mem_append.1 hp with hp | hp
    · refine Or.inr ⟨by simp [hp], fun e => ?_⟩
      exact hn.2.2 _ (List.mem_map.2 ⟨p, hp, rfl⟩) _ (List.mem_map.2 ⟨_, h.mem, rfl⟩) e
    · rcases h.upd rfl hn.2.1 p hp with h1 | h1
      · exact Or.inl h1
      · exact Or.inr ⟨by simp [h1.1], h1.2⟩
section
variable {ops : Array Oper} {rest : List Oper} {o : Oper} {a : Act} {w : World} {Q : Exit → Act → World → Prop} {S : List Nat} {w0 : World} {L : List Blk} {D : Dat} {F : List Nat}
theorem x1 (hw : Region.wanted o (yielded ops a.tmps) = true) {T : TypeId} {x : Operand} (ho : o.op = .load T x) {ad : Addr} (hx : a.eval x = .pointer (some ad)) (h : Sx S w0 w L D F)
    {g off : Nat} [e : AdrIs ad g off] {C : Array Value} {Tb : TypeId} {v : Value} [t : OneT T] [k : Has L g C Tb] [c : CellAt C off v] (hk : wpList Tryz.prog ops Q rest (a.put o.dst v) w) : wpList Tryz.prog ops Q (o :: rest) a w := by
  obtain rfl := e.eq
  exact wpList_ld hw T x ho g off hx h.st hk
theorem xa (hw : Region.wanted o (yielded ops a.tmps) = true) {T : TypeId} {x : Operand} (ho : o.op = .load T x) {ad : Addr} (hx : a.eval x = .pointer (some ad)) (h : Sx S w0 w L D F)
    {g off : Nat} [e : AdrIs ad g off] {C : Array Value} {Tb : TypeId} {n : Nat} {cs : List Value} [t : AggT T n] [k : Has L g C Tb] [c : PartAt C off n cs] (hk : wpList Tryz.prog ops Q rest (a.put o.dst (.agg cs.toArray)) w) : wpList Tryz.prog ops Q (o :: rest) a w := by
  obtain rfl := e.eq
  exact wpList_lda hw T x ho g off hx h.st hk
theorem xd (hw : Region.wanted o (yielded ops a.tmps) = true) {T : TypeId} {x : Operand} (ho : o.op = .load T x) {ad : Addr} (hx : a.eval x = .pointer (some ad)) (h : Sx S w0 w L D F) {v : Value} [c : LdD D T ad v]
    (hk : wpList Tryz.prog ops Q rest (a.put o.dst v) w) : wpList Tryz.prog ops Q (o :: rest) a w :=
  BigFrame.wpList_want hw fun K hK => by
    unfold Oper.wp execOp
    simp only [ho, hx, Instr.loadAt, Instr.sureAddr, Sem.run_bind, Sem.run_pure, Result.andThen_ok, c.run w h.data]
    exact hK _ _ hk
theorem xs (hw : Region.wanted o (yielded ops a.tmps) = true) {T : TypeId} {x y : Operand} (ho : o.op = .store T x y) {ad : Addr} (hx : a.eval x = .pointer (some ad)) {v : Value} (hy : a.eval y = v) (h : Sx S w0 w L D F)
    {g off : Nat} [e : AdrIs ad g off] {C C' : Array Value} {Tb : TypeId} {n : Nat} {L' : List Blk} [t : SizeT T n] [k : Has L g C Tb] [c : WrAt C off n v C'] [u : Upd L g C Tb C' L']
    (hk : ∀ w', Sx S w0 w' L' D F → wpList Tryz.prog ops Q rest (a.put o.dst undef) w') : wpList Tryz.prog ops Q (o :: rest) a w :=
  BigFrame.wpList_want hw fun K hK => by
    obtain rfl := e.eq
    unfold Oper.wp execOp
    simp only [ho, hx, hy, Instr.storeAt, Instr.sureAddr, Sem.run_bind, Sem.run_pure, Result.andThen_ok, run_storeVar_at t.size h.st.has c]
    exact hK _ _ (hk _ (h.upd (St.write1 h.st.has)))
section
variable {T : TypeId} {x y : Operand} {ad : Addr} {g off : Nat} {C C' : Array Value} {Tb : TypeId} {n : Nat} {L' : List Blk}
theorem xsi (hw : Region.wanted o (yielded ops a.tmps) = true) (ho : o.op = .store T x y) (hx : a.eval x = .pointer (some ad)) {k : IntKind} {z : Int} (hy : a.eval y = .int k z) (h : Sx S w0 w L D F)
    [AdrIs ad g off] [SizeT T n] [Has L g C Tb] [WrAt C off n (.int k z) C'] [Upd L g C Tb C' L'] (hk : ∀ w', Sx S w0 w' L' D F → wpList Tryz.prog ops Q rest (a.put o.dst undef) w') : wpList Tryz.prog ops Q (o :: rest) a w := xs hw ho hx hy h hk
theorem xss (hw : Region.wanted o (yielded ops a.tmps) = true) (ho : o.op = .store T x y) (hx : a.eval x = .pointer (some ad)) {z : ByteArray} (hy : a.eval y = .string z) (h : Sx S w0 w L D F)
    [AdrIs ad g off] [SizeT T n] [Has L g C Tb] [WrAt C off n (.string z) C'] [Upd L g C Tb C' L'] (hk : ∀ w', Sx S w0 w' L' D F → wpList Tryz.prog ops Q rest (a.put o.dst undef) w') : wpList Tryz.prog ops Q (o :: rest) a w := xs hw ho hx hy h hk
theorem xsb (hw : Region.wanted o (yielded ops a.tmps) = true) (ho : o.op = .store T x y) (hx : a.eval x = .pointer (some ad)) {z : Bool} (hy : a.eval y = .bool z) (h : Sx S w0 w L D F)
    [AdrIs ad g off] [SizeT T n] [Has L g C Tb] [WrAt C off n (.bool z) C'] [Upd L g C Tb C' L'] (hk : ∀ w', Sx S w0 w' L' D F → wpList Tryz.prog ops Q rest (a.put o.dst undef) w') : wpList Tryz.prog ops Q (o :: rest) a w := xs hw ho hx hy h hk
theorem xsl (hw : Region.wanted o (yielded ops a.tmps) = true) (ho : o.op = .store T x y) (hx : a.eval x = .pointer (some ad)) {z : Option Addr} {l c : Nat} (hy : a.eval y = .slice z l c) (h : Sx S w0 w L D F)
    [AdrIs ad g off] [SizeT T n] [Has L g C Tb] [WrAt C off n (.slice z l c) C'] [Upd L g C Tb C' L'] (hk : ∀ w', Sx S w0 w' L' D F → wpList Tryz.prog ops Q rest (a.put o.dst undef) w') : wpList Tryz.prog ops Q (o :: rest) a w := xs hw ho hx hy h hk
theorem xsp (hw : Region.wanted o (yielded ops a.tmps) = true) (ho : o.op = .store T x y) (hx : a.eval x = .pointer (some ad)) {z : Option Addr} (hy : a.eval y = .pointer z) (h : Sx S w0 w L D F)
    [AdrIs ad g off] [SizeT T n] [Has L g C Tb] [WrAt C off n (.pointer z) C'] [Upd L g C Tb C' L'] (hk : ∀ w', Sx S w0 w' L' D F → wpList Tryz.prog ops Q rest (a.put o.dst undef) w') : wpList Tryz.prog ops Q (o :: rest) a w := xs hw ho hx hy h hk
theorem xsa (hw : Region.wanted o (yielded ops a.tmps) = true) (ho : o.op = .store T x y) (hx : a.eval x = .pointer (some ad)) {z : Array Value} (hy : a.eval y = .agg z) (h : Sx S w0 w L D F)
    [AdrIs ad g off] [SizeT T n] [Has L g C Tb] [WrAt C off n (.agg z) C'] [Upd L g C Tb C' L'] (hk : ∀ w', Sx S w0 w' L' D F → wpList Tryz.prog ops Q rest (a.put o.dst undef) w') : wpList Tryz.prog ops Q (o :: rest) a w := xs hw ho hx hy h hk
end
theorem xnw (hw : Region.wanted o (yielded ops a.tmps) = true) {T : TypeId} (ho : o.op = .alloc T) (h : Sx S w0 w L D F) {C : Array Value} [z : ZeroT T C]
    (hk : ∀ (b : Nat) (w' : World), Sx S w0 w' ((b, C, T) :: L) D F → wpList Tryz.prog ops Q rest (a.put o.dst (.pointer (some ⟨b, 0, none⟩))) w') : wpList Tryz.prog ops Q (o :: rest) a w :=
  BigFrame.wpList_want hw fun K hK => by
    obtain ⟨v, hz, rfl⟩ := z.run w
    have hr : (Instr.alloc T true (.tuple #[])).run Tryz.prog w = .ok (.pointer (some ⟨w.heap.size, 0, none⟩)) (w.alloc (.cells v.cells T)) := by
      unfold Instr.alloc
      simp only [Sem.run_bind, hz, Result.andThen_ok, newVar_one]
      rfl
    unfold Oper.wp execOp
    simp only [ho, Sem.run_bind, hr, Result.andThen_ok]
    exact hK _ _ (hk _ _ (h.alloc v.cells T))
theorem xbV (hw : Region.wanted o (yielded ops a.tmps) = true) {T : TypeId} {x : Operand} (ho : o.op = .box T x) (h : Sx S w0 w L D F) {v : Value} (hx : a.eval x = v) {C : Array Value} (hC : v.cells = C)
    (hk : ∀ (b : Nat) (w' : World), Sx S w0 w' ((b, C, T) :: L) D F → wpList Tryz.prog ops Q rest (a.put o.dst (.pointer (some ⟨b, 0, none⟩))) w') : wpList Tryz.prog ops Q (o :: rest) a w :=
  BigFrame.wpList_want hw fun K hK => by
    have hr : (Instr.box T v).run Tryz.prog w = .ok (.pointer (some ⟨w.heap.size, 0, none⟩)) (w.alloc (.cells v.cells T)) := by
      unfold Instr.box
      simp only [Sem.run_bind, newVar_one, Result.andThen_ok]
      rfl
    unfold Oper.wp execOp
    simp only [ho, hx, Sem.run_bind, hr, Result.andThen_ok]
    exact hK _ _ (hk _ _ (hC ▸ h.alloc v.cells T))
section
variable {T : TypeId} {x : Operand}
theorem xbi (hw : Region.wanted o (yielded ops a.tmps) = true) (ho : o.op = .box T x) (h : Sx S w0 w L D F) {k : IntKind} {z : Int} (hx : a.eval x = .int k z)
    (hk : ∀ (b : Nat) (w' : World), Sx S w0 w' ((b, #[.int k z], T) :: L) D F → wpList Tryz.prog ops Q rest (a.put o.dst (.pointer (some ⟨b, 0, none⟩))) w') : wpList Tryz.prog ops Q (o :: rest) a w := xbV hw ho h hx rfl hk
theorem xbs (hw : Region.wanted o (yielded ops a.tmps) = true) (ho : o.op = .box T x) (h : Sx S w0 w L D F) {z : ByteArray} (hx : a.eval x = .string z)
    (hk : ∀ (b : Nat) (w' : World), Sx S w0 w' ((b, #[.string z], T) :: L) D F → wpList Tryz.prog ops Q rest (a.put o.dst (.pointer (some ⟨b, 0, none⟩))) w') : wpList Tryz.prog ops Q (o :: rest) a w := xbV hw ho h hx rfl hk
theorem xbl (hw : Region.wanted o (yielded ops a.tmps) = true) (ho : o.op = .box T x) (h : Sx S w0 w L D F) {z : Option Addr} {l c : Nat} (hx : a.eval x = .slice z l c)
    (hk : ∀ (b : Nat) (w' : World), Sx S w0 w' ((b, #[.slice z l c], T) :: L) D F → wpList Tryz.prog ops Q rest (a.put o.dst (.pointer (some ⟨b, 0, none⟩))) w') : wpList Tryz.prog ops Q (o :: rest) a w := xbV hw ho h hx rfl hk
theorem xbp (hw : Region.wanted o (yielded ops a.tmps) = true) (ho : o.op = .box T x) (h : Sx S w0 w L D F) {z : Option Addr} (hx : a.eval x = .pointer z)
    (hk : ∀ (b : Nat) (w' : World), Sx S w0 w' ((b, #[.pointer z], T) :: L) D F → wpList Tryz.prog ops Q rest (a.put o.dst (.pointer (some ⟨b, 0, none⟩))) w') : wpList Tryz.prog ops Q (o :: rest) a w := xbV hw ho h hx rfl hk
theorem xba (hw : Region.wanted o (yielded ops a.tmps) = true) (ho : o.op = .box T x) (h : Sx S w0 w L D F) {C : Array Value} (hx : a.eval x = .agg C)
    (hk : ∀ (b : Nat) (w' : World), Sx S w0 w' ((b, C, T) :: L) D F → wpList Tryz.prog ops Q rest (a.put o.dst (.pointer (some ⟨b, 0, none⟩))) w') : wpList Tryz.prog ops Q (o :: rest) a w := xbV hw ho h hx rfl hk
end
/-- An operation that makes one block of cells, in whatever world. -/
theorem xmk (hw : Region.wanted o (yielded ops a.tmps) = true) (d : Nat) (hd : o.dst = some d) (h : Sx S w0 w L D F) (C : Array Value) (T : TypeId) (f : Nat → Value) (hv : ∀ w, (execOp a.eval o).run Tryz.prog w = .ok (.value (f w.heap.size)) (w.alloc (.cells C T)))
    (hk : ∀ (b : Nat) (w' : World), Sx S w0 w' ((b, C, T) :: L) D F → wpList Tryz.prog ops Q rest (a.put o.dst (f b)) w') : wpList Tryz.prog ops Q (o :: rest) a w :=
  BigFrame.wpList_want hw fun K hK => by
    unfold Oper.wp
    rw [hv]
    exact hK _ _ (hk _ _ (h.alloc C T))
/-- An operation that yields a value in whatever world. -/
theorem xval (hw : Region.wanted o (yielded ops a.tmps) = true) (d : Nat) (hd : o.dst = some d) (v : Value) (hv : ∀ w, (execOp a.eval o).run Tryz.prog w = .ok (.value v) w)
    (hk : wpList Tryz.prog ops Q rest (a.put o.dst v) w) : wpList Tryz.prog ops Q (o :: rest) a w :=
  BigFrame.wpList_want hw fun K hK => by
    unfold Oper.wp
    rw [hv]
    exact hK _ _ hk
end
end Go.Proofs.YtigihgbgdillpaaGreatDoor
