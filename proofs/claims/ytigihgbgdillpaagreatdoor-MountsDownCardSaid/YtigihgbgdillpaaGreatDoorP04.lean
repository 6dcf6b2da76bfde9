/- Memory by blocks: what a call owns, told of a world without a form; loads, stores and new blocks by rules that keep the world without a form. -/
import Derived.BigFrame
import Derived.Test.YtigihgbgdillpaaGreatDoorP02
set_option linter.unusedVariables false
set_option linter.unusedSimpArgs false
set_option maxRecDepth 100000
namespace Go.Proofs.YtigihgbgdillpaaGreatDoor
open Go.RowKit

/-- A block that is owned: its number, its cells, its type. -/
abbrev Blk := Nat × Array Value × TypeId

/-- Since w0 nothing has turned but new blocks and those of S; the blocks of L hold what L says. -/
structure St (S : List Nat) (w0 w : World) (L : List Blk) : Prop where
  os : w.os = w0.os
  tape : w.tape = w0.tape
  output : w.output = w0.output
  size : w0.heap.size ≤ w.heap.size
  kept : ∀ k, k < w0.heap.size → k ∉ S → w.heap[k]? = w0.heap[k]?
  own : ∀ p ∈ L, w0.heap.size ≤ p.1 ∨ p.1 ∈ S
  nodup : (L.map (·.1)).Nodup
  blk : ∀ p ∈ L, w.heap[p.1]? = some (.cells p.2.1 p.2.2 (0, 0))

theorem lt_of_heap' {w : World} {g : Nat} {o : Obj} (h : w.heap[g]? = some o) : g < w.heap.size := (Array.getElem?_eq_some_iff.1 h).1

theorem St.start (w : World) : St [] w w [] := ⟨rfl, rfl, rfl, Nat.le_refl _, fun _ _ _ => rfl, fun _ h => by simp at h, by simp, fun _ h => by simp at h⟩
theorem St.lt {S : List Nat} {w0 w : World} {L : List Blk} (h : St S w0 w L) : ∀ p ∈ L, p.1 < w.heap.size := fun p hp => lt_of_heap' (h.blk p hp)
/-- Behind a callee that makes new blocks at most. -/
theorem St.below {S : List Nat} {w0 w w' : World} {L : List Blk} (h : St S w0 w L) (hb : Below w.heap.size w w') : St S w0 w' L :=
  ⟨hb.os.trans h.os, hb.tape.trans h.tape, hb.output.trans h.output, Nat.le_trans h.size hb.size,
   fun k hk hs => (hb.block k (Nat.lt_of_lt_of_le hk h.size)).trans (h.kept k hk hs), h.own, h.nodup, fun p hp => (hb.block _ (h.lt p hp)).trans (h.blk p hp)⟩
theorem St.end {w0 w : World} {L : List Blk} (h : St [] w0 w L) : Below w0.heap.size w0 w := ⟨h.os, h.tape, h.output, h.size, fun k hk => h.kept k hk (by simp)⟩
/-- A callee's new block, taken over. -/
theorem St.belowNew {S : List Nat} {w0 w w' : World} {L : List Blk} {b : Nat} {C : Array Value} {T : TypeId} (h : St S w0 w L) (hb : Below w.heap.size w w') (hs : w.heap.size ≤ b) (hg : w'.heap[b]? = some (.cells C T (0, 0))) : St S w0 w' ((b, C, T) :: L) where
  os := (h.below hb).os
  tape := (h.below hb).tape
  output := (h.below hb).output
  size := (h.below hb).size
  kept := (h.below hb).kept
  own p hp := by
    rcases List.mem_cons.1 hp with rfl | h2
    · exact Or.inl (Nat.le_trans h.size hs)
    · exact h.own p h2
  nodup := by
    simp only [List.map_cons, List.nodup_cons]
    refine ⟨fun hm => ?_, h.nodup⟩
    obtain ⟨p, hp, he⟩ := List.mem_map.1 hm
    have := h.lt p hp
    omega
  blk p hp := by
    rcases List.mem_cons.1 hp with rfl | h2
    · exact hg
    · exact (h.below hb).blk p h2
theorem St.drop {S : List Nat} {w0 w : World} {p : Blk} {L : List Blk} (h : St S w0 w (p :: L)) : St S w0 w L :=
  ⟨h.os, h.tape, h.output, h.size, h.kept, fun q hq => h.own q (by simp [hq]), (List.nodup_cons.1 h.nodup).2, fun q hq => h.blk q (by simp [hq])⟩
theorem St.drop2 {S : List Nat} {w0 w : World} {p q : Blk} {L : List Blk} (h : St S w0 w (p :: q :: L)) : St S w0 w (p :: L) :=
  ⟨h.os, h.tape, h.output, h.size, h.kept, fun r hr => h.own r (by rcases List.mem_cons.1 hr with h | h <;> simp [h]),
   (by have := h.nodup; simp at this ⊢; exact ⟨this.1.2, this.2.2⟩), fun r hr => h.blk r (by rcases List.mem_cons.1 hr with h | h <;> simp [h])⟩
theorem St.swap {S : List Nat} {w0 w : World} {p q : Blk} {L : List Blk} (h : St S w0 w (p :: q :: L)) : St S w0 w (q :: p :: L) :=
  ⟨h.os, h.tape, h.output, h.size, h.kept, fun r hr => h.own r (by simp at hr ⊢; rcases hr with h | h | h <;> simp [h]),
   (by have := h.nodup; simp at this ⊢; exact ⟨⟨fun e => this.1.1 e.symm, this.2.1⟩, this.1.2, this.2.2⟩), fun r hr => h.blk r (by simp at hr ⊢; rcases hr with h | h | h <;> simp [h])⟩
/-- A new block. -/
theorem St.alloc {S : List Nat} {w0 w : World} {L : List Blk} (h : St S w0 w L) (C : Array Value) (T : TypeId) : St S w0 (w.alloc (.cells C T)) ((w.heap.size, C, T) :: L) where
  os := h.os
  tape := h.tape
  output := h.output
  size := by have := h.size; simp; omega
  kept k hk hs := (Below.heap_alloc _ _ _ (by have := h.size; omega)).trans (h.kept k hk hs)
  own p hp := by
    rcases List.mem_cons.1 hp with rfl | hp
    · exact Or.inl h.size
    · exact h.own p hp
  nodup := by
    simp only [List.map_cons, List.nodup_cons]
    refine ⟨fun hm => ?_, h.nodup⟩
    obtain ⟨p, hp, he⟩ := List.mem_map.1 hm
    have := h.lt p hp
    omega
  blk p hp := by
    rcases List.mem_cons.1 hp with rfl | hp
    · exact heap_alloc_new _ _
    · exact (Below.heap_alloc _ _ _ (h.lt p hp)).trans (h.blk p hp)
theorem heap_setRow_other (w : World) (g k : Nat) (cs : Array Value) (h : k ≠ g) : (w.setRow g cs).heap[k]? = w.heap[k]? := by
  simp only [World.setRow, Array.getElem?_modify]
  rw [if_neg (by omega)]
/-- A write of the first block. -/
theorem St.write {S : List Nat} {w0 w : World} {g : Nat} {C C' : Array Value} {T : TypeId} {L : List Blk} (h : St S w0 w ((g, C, T) :: L)) : St S w0 (w.setRow g C') ((g, C', T) :: L) where
  os := h.os
  tape := h.tape
  output := h.output
  size := by rw [size_setRow]; exact h.size
  kept k hk hs := by
    rw [heap_setRow_other]
    · exact h.kept k hk hs
    · rintro rfl
      rcases h.own (k, C, T) (by simp) with h1 | h1
      · simp at h1; omega
      · exact hs h1
  own p hp := by
    rcases List.mem_cons.1 hp with rfl | hp
    · exact h.own (g, C, T) (by simp)
    · exact h.own p (by simp [hp])
  nodup := by simpa using h.nodup
  blk p hp := by
    rcases List.mem_cons.1 hp with rfl | h2
    · exact setRow_heap w g C C' T (0, 0) (h.blk (g, C, T) (by simp))
    · rw [heap_setRow_other]
      · exact h.blk p (List.mem_cons_of_mem _ h2)
      · intro e
        have := h.nodup
        simp only [List.map_cons, List.nodup_cons] at this
        exact this.1 (List.mem_map.2 ⟨p, h2, e⟩)

/-- Where a block stands in the list, and the list with other cells in it. -/
class Upd (L : List Blk) (g : Nat) (C : outParam (Array Value)) (T : outParam TypeId) (C' : Array Value) (L' : outParam (List Blk)) : Prop where
  mem : (g, C, T) ∈ L
  keys : L'.map (·.1) = L.map (·.1)
  upd : L.map (·.1) = L.map (·.1) → (L.map (·.1)).Nodup → ∀ p ∈ L', (p = (g, C', T)) ∨ (p ∈ L ∧ p.1 ≠ g)
class Has (L : List Blk) (g : Nat) (C : outParam (Array Value)) (T : outParam TypeId) : Prop where
  mem : (g, C, T) ∈ L
instance Has.head {g : Nat} {C : Array Value} {T : TypeId} {L : List Blk} : Has ((g, C, T) :: L) g C T := ⟨by simp⟩
instance (priority := low) Has.tail {g : Nat} {C : Array Value} {T : TypeId} {p : Blk} {L : List Blk} [h : Has L g C T] : Has (p :: L) g C T := ⟨by simp [h.mem]⟩
instance Upd.head {g : Nat} {C C' : Array Value} {T : TypeId} {L : List Blk} : Upd ((g, C, T) :: L) g C T C' ((g, C', T) :: L) where
  mem := by simp
  keys := by simp
  upd _ hn p hp := by
    rcases List.mem_cons.1 hp with rfl | h2
    · exact Or.inl rfl
    · refine Or.inr ⟨List.mem_cons_of_mem _ h2, ?_⟩
      intro e
      simp only [List.map_cons, List.nodup_cons] at hn
      exact hn.1 (List.mem_map.2 ⟨p, h2, e⟩)
instance (priority := low) Upd.tail {g : Nat} {C C' : Array Value} {T : TypeId} {q : Blk} {L L' : List Blk} [h : Upd L g C T C' L'] : Upd (q :: L) g C T C' (q :: L') where
  mem := by simp [h.mem]
  keys := by simp [h.keys]
  upd _ hn p hp := by
    rcases List.mem_cons.1 hp with rfl | hp
    · refine Or.inr ⟨by simp, ?_⟩
      intro e
      simp only [List.map_cons, List.nodup_cons] at hn
      exact hn.1 (List.mem_map.2 ⟨_, h.mem, e.symm⟩)
    · rcases h.upd rfl (List.nodup_cons.1 hn).2 p hp with h1 | h1
      · exact Or.inl h1
      · exact Or.inr ⟨by simp [h1.1], h1.2⟩
theorem St.has {S : List Nat} {w0 w : World} {L : List Blk} (h : St S w0 w L) {g : Nat} {C : Array Value} {T : TypeId} [k : Has L g C T] : w.heap[g]? = some (.cells C T (0, 0)) := h.blk _ k.mem
theorem St.has_lt {S : List Nat} {w0 w : World} {L : List Blk} (h : St S w0 w L) {g : Nat} {C : Array Value} {T : TypeId} (k : (g, C, T) ∈ L) : g < w.heap.size := h.lt _ k
/-- Behind what turns one block of the list at most, and makes new ones. -/
theorem St.upd {S : List Nat} {w0 w w' : World} {L L' : List Blk} {g : Nat} {C C' : Array Value} {T : TypeId} (h : St S w0 w L) [u : Upd L g C T C' L'] (k : St [g] w w' [(g, C', T)]) : St S w0 w' L' where
  os := k.os.trans h.os
  tape := k.tape.trans h.tape
  output := k.output.trans h.output
  size := Nat.le_trans h.size k.size
  kept j hj hs := by
    refine (k.kept j (Nat.lt_of_lt_of_le hj h.size) ?_).trans (h.kept j hj hs)
    intro hm
    obtain rfl : j = g := by simpa using hm
    rcases h.own _ u.mem with h1 | h1
    · simp at h1; omega
    · exact hs h1
  own p hp := by
    rcases u.upd rfl h.nodup p hp with rfl | ⟨h1, _⟩
    · exact h.own (g, C, T) u.mem
    · exact h.own p h1
  nodup := by rw [u.keys]; exact h.nodup
  blk p hp := by
    rcases u.upd rfl h.nodup p hp with rfl | ⟨h1, h2⟩
    · exact k.blk _ (by simp)
    · rw [k.kept _ (h.lt p h1) (by simpa using h2)]
      exact h.blk p h1
/-- A block that stands in the caller's hands, at the callee's door. -/
theorem St.enter {S : List Nat} {w0 w : World} {L : List Blk} {g : Nat} {C : Array Value} {T : TypeId} (h : St S w0 w L) [k : Has L g C T] : St [g] w w [(g, C, T)] :=
  ⟨rfl, rfl, rfl, Nat.le_refl _, fun _ _ _ => rfl, fun p hp => by simp at hp; subst hp; exact Or.inr (by simp), by simp, fun p hp => by simp at hp; subst hp; exact h.has⟩
theorem St.write1 {w : World} {g : Nat} {C C' : Array Value} {T : TypeId} (h : w.heap[g]? = some (.cells C T (0, 0))) : St [g] w (w.setRow g C') [(g, C', T)] :=
  (St.write (C := C) ⟨rfl, rfl, rfl, Nat.le_refl _, fun _ _ _ => rfl, fun p hp => by simp at hp; subst hp; exact Or.inr (by simp), by simp, fun p hp => by simp at hp; subst hp; exact h⟩)

/-! ### Parts of a row of cells -/
def wr : Array Value → Nat → List Value → Array Value
  | C, _, [] => C
  | C, off, v :: vs => wr (C.setIfInBounds off v) (off + 1) vs
class CellAt (C : Array Value) (i : Nat) (v : outParam Value) : Prop where eq : C[i]? = some v
class PartAt (C : Array Value) (off n : Nat) (cs : outParam (List Value)) : Prop where
  len : cs.length = n
  eq : ∀ j v, cs[j]? = some v → C[off + j]? = some v
class WrAt (C : Array Value) (off : Nat) (n : Nat) (v : Value) (C' : outParam (Array Value)) : Prop where
  len : v.cells.size = n
  fits : off + v.cells.size ≤ C.size
  one : ∀ x ∈ v.cells.toList, x.oneCell' = true
  eq : wr C off v.cells.toList = C'
/-- A type of one cell; one of n cells. -/
class OneT (T : TypeId) : Prop where
  agg : ∀ w, (isAgg T).run Tryz.prog w = .ok false w
  size : (Tryz.prog.info? T).map (·.size) = some 1
class AggT (T : TypeId) (n : outParam Nat) : Prop where
  agg : ∀ w, (isAgg T).run Tryz.prog w = .ok true w
  size : (Tryz.prog.info? T).map (·.size) = some n
class SizeT (T : TypeId) (n : outParam Nat) : Prop where size : (Tryz.prog.info? T).map (·.size) = some n
instance {T : TypeId} [h : OneT T] : SizeT T 1 := ⟨h.size⟩
instance {T : TypeId} {n : Nat} [h : AggT T n] : SizeT T n := ⟨h.size⟩
theorem run_size {T : TypeId} {n : Nat} (h : (Tryz.prog.info? T).map (·.size) = some n) (w : World) : (sizeOf T).run Tryz.prog w = .ok n w := by
  cases hq : Tryz.prog.info? T with
  | none => simp [hq] at h
  | some i =>
    have : i.size = n := by simpa [hq] using h
    simp [sizeOf, typeInfo, hq, this]

theorem addr_add (g off j : Nat) : (⟨g, off, none⟩ : Addr).add j = ⟨g, off + j, none⟩ := by
  unfold Addr.add
  split
  · rename_i h; subst h; rfl
  · rfl
theorem run_loadVar_one {w : World} {g off : Nat} {T Tb : TypeId} {C : Array Value} {v : Value} {fz : Nat × Nat} (ha : (isAgg T).run Tryz.prog w = .ok false w) (hg : w.heap[g]? = some (.cells C Tb fz)) (hv : C[off]? = some v) :
    (loadVar T ⟨g, off, none⟩).run Tryz.prog w = .ok v w := by
  have hc : w.cell? ⟨g, off, none⟩ = some v := by rw [cell_of_row w g off C Tb fz hg]; exact hv
  simp [loadVar, Sem.run_bind, ha, hc]
theorem run_loadVar_agg {w : World} {g off : Nat} {T Tb : TypeId} {C : Array Value} {cs : List Value} {fz : Nat × Nat} (ha : (isAgg T).run Tryz.prog w = .ok true w) (hs : (Tryz.prog.info? T).map (·.size) = some cs.length)
    (hg : w.heap[g]? = some (.cells C Tb fz)) (hv : ∀ j v, cs[j]? = some v → C[off + j]? = some v) :
    (loadVar T ⟨g, off, none⟩).run Tryz.prog w = .ok (.agg cs.toArray) w := by
  have hl := run_loadCells_list (P := Tryz.prog) w ⟨g, off, none⟩ cs (fun j v hj => by
    rw [addr_add, cell_of_row w g _ C Tb fz hg]
    exact hv j v hj)
  simp [loadVar, Sem.run_bind, ha, run_size hs, hl]
theorem setRow_self (w : World) (g : Nat) (C : Array Value) (T : TypeId) (hg : w.heap[g]? = some (.cells C T (0, 0))) : w.setRow g C = w := by
  have hlt := lt_of_heap' hg
  have hv : w.heap[g] = .cells C T (0, 0) := (Array.getElem?_eq_some_iff.1 hg).2
  unfold World.setRow
  cases w with
  | mk heap tape drawn os output =>
    congr 1
    apply Array.ext
    · simp
    · intro k h1 h2
      simp only [Array.getElem_modify]
      split
      · rename_i hk; subst hk; simp at hv; simp [hv]
      · rfl
theorem run_storeCells_at (g off : Nat) (T : TypeId) : ∀ (vs : List Value) (i : Nat) (C : Array Value) (w : World), w.heap[g]? = some (.cells C T (0, 0)) → off + i + vs.length ≤ C.size → (∀ v ∈ vs, v.oneCell' = true) →
    (storeCells ⟨g, off, none⟩ vs i).run Tryz.prog w = .ok () (w.setRow g (wr C (off + i) vs))
  | [], i, C, w, hg, _, _ => by
    simp only [storeCells, wr, setRow_self w g C T hg]
    rfl
  | v :: vs, i, C, w, hg, hl, h1 => by
    have hi : off + i < C.size := by simp at hl; omega
    have hcell : w.cell? ⟨g, off + i, none⟩ = some C[off + i] := by simp [World.cell?, hg, hi]
    have hfro : w.frozen? ⟨g, off + i, none⟩ = false := by simp [World.frozen?, hg]
    have hst : (store ((⟨g, off, none⟩ : Addr).add i) v).run Tryz.prog w = .ok () (w.setRow g (C.setIfInBounds (off + i) v)) := by
      rw [addr_add, run_store Tryz.prog w _ v _ (h1 v (by simp)), hcell]
      simp [hfro, setCell_eq_setRow w g _ C T (0, 0) v hg]
    have ih := run_storeCells_at g off T vs (i + 1) (C.setIfInBounds (off + i) v) (w.setRow g (C.setIfInBounds (off + i) v)) (setRow_heap w g C _ T _ hg) (by simp at hl ⊢; omega) (fun x hx => h1 x (by simp [hx]))
    simp only [storeCells, Sem.run_bind, hst, Result.andThen_ok, ih, setRow_setRow, wr, Nat.add_assoc]
theorem run_storeVar_at {w : World} {g off n : Nat} {T Tb : TypeId} {C C' : Array Value} {v : Value} (hs : (Tryz.prog.info? T).map (·.size) = some n) (hg : w.heap[g]? = some (.cells C Tb (0, 0))) (hw : WrAt C off n v C') :
    (storeVar T ⟨g, off, none⟩ v).run Tryz.prog w = .ok () (w.setRow g C') := by
  have h := run_storeCells_at g off Tb v.cells.toList 0 C w hg (by have := hw.fits; simp; omega) hw.one
  rw [Nat.add_zero, hw.eq] at h
  have hn : ¬ v.cells.size ≠ n := fun h => h hw.len
  unfold storeVar
  rw [Sem.run_bind, run_size hs, Result.andThen_ok, if_neg hn]
  exact h

/-! ### The rules -/
section
variable {ops : Array Oper} {rest : List Oper} {o : Oper} {a : Act} {w : World} {Q : Exit → Act → World → Prop} {S : List Nat} {w0 : World} {L : List Blk}
theorem wpList_ld (hw : Region.wanted o (yielded ops a.tmps) = true) (T : TypeId) (x : Operand) (ho : o.op = .load T x) (g off : Nat) (hx : a.eval x = .pointer (some ⟨g, off, none⟩)) (h : St S w0 w L)
    {C : Array Value} {Tb : TypeId} {v : Value} [t : OneT T] [k : Has L g C Tb] [c : CellAt C off v]
    (hk : wpList Tryz.prog ops Q rest (a.put o.dst v) w) : wpList Tryz.prog ops Q (o :: rest) a w :=
  BigFrame.wpList_want hw fun K hK => by
    unfold Oper.wp execOp
    simp only [ho, hx, Instr.loadAt, Instr.sureAddr, Sem.run_bind, Sem.run_pure, Result.andThen_ok, run_loadVar_one (t.agg w) h.has c.eq]
    exact hK _ _ hk
theorem wpList_lda (hw : Region.wanted o (yielded ops a.tmps) = true) (T : TypeId) (x : Operand) (ho : o.op = .load T x) (g off : Nat) (hx : a.eval x = .pointer (some ⟨g, off, none⟩)) (h : St S w0 w L)
    {C : Array Value} {Tb : TypeId} {n : Nat} {cs : List Value} [t : AggT T n] [k : Has L g C Tb] [c : PartAt C off n cs]
    (hk : wpList Tryz.prog ops Q rest (a.put o.dst (.agg cs.toArray)) w) : wpList Tryz.prog ops Q (o :: rest) a w :=
  BigFrame.wpList_want hw fun K hK => by
    unfold Oper.wp execOp
    simp only [ho, hx, Instr.loadAt, Instr.sureAddr, Sem.run_bind, Sem.run_pure, Result.andThen_ok, run_loadVar_agg (t.agg w) (by rw [c.len]; exact t.size) h.has c.eq]
    exact hK _ _ hk
theorem wpList_st (hw : Region.wanted o (yielded ops a.tmps) = true) (T : TypeId) (x y : Operand) (ho : o.op = .store T x y) (g off : Nat) (hx : a.eval x = .pointer (some ⟨g, off, none⟩)) (v : Value) (hy : a.eval y = v) (h : St S w0 w L)
    {C C' : Array Value} {Tb : TypeId} {n : Nat} {L' : List Blk} [t : SizeT T n] [k : Has L g C Tb] [c : WrAt C off n v C'] [u : Upd L g C Tb C' L']
    (hk : ∀ w', St S w0 w' L' → wpList Tryz.prog ops Q rest (a.put o.dst undef) w') : wpList Tryz.prog ops Q (o :: rest) a w :=
  BigFrame.wpList_want hw fun K hK => by
    unfold Oper.wp execOp
    simp only [ho, hx, hy, Instr.storeAt, Instr.sureAddr, Sem.run_bind, Sem.run_pure, Result.andThen_ok, run_storeVar_at t.size h.has c]
    exact hK _ _ (hk _ (h.upd (St.write1 h.has)))
theorem wpList_stI (hw : Region.wanted o (yielded ops a.tmps) = true) (T : TypeId) (x y : Operand) (ho : o.op = .store T x y) (g off : Nat) (hx : a.eval x = .pointer (some ⟨g, off, none⟩)) (kk : IntKind) (xx : Int) (hy : a.eval y = .int kk xx) (h : St S w0 w L)
    {C C' : Array Value} {Tb : TypeId} {n : Nat} {L' : List Blk} [t : SizeT T n] [k : Has L g C Tb] [c : WrAt C off n (.int kk xx) C'] [u : Upd L g C Tb C' L']
    (hk : ∀ w', St S w0 w' L' → wpList Tryz.prog ops Q rest (a.put o.dst undef) w') : wpList Tryz.prog ops Q (o :: rest) a w := wpList_st hw T x y ho g off hx _ hy h hk
theorem wpList_stS (hw : Region.wanted o (yielded ops a.tmps) = true) (T : TypeId) (x y : Operand) (ho : o.op = .store T x y) (g off : Nat) (hx : a.eval x = .pointer (some ⟨g, off, none⟩)) (xx : ByteArray) (hy : a.eval y = .string xx) (h : St S w0 w L)
    {C C' : Array Value} {Tb : TypeId} {n : Nat} {L' : List Blk} [t : SizeT T n] [k : Has L g C Tb] [c : WrAt C off n (.string xx) C'] [u : Upd L g C Tb C' L']
    (hk : ∀ w', St S w0 w' L' → wpList Tryz.prog ops Q rest (a.put o.dst undef) w') : wpList Tryz.prog ops Q (o :: rest) a w := wpList_st hw T x y ho g off hx _ hy h hk
theorem wpList_stB (hw : Region.wanted o (yielded ops a.tmps) = true) (T : TypeId) (x y : Operand) (ho : o.op = .store T x y) (g off : Nat) (hx : a.eval x = .pointer (some ⟨g, off, none⟩)) (xx : Bool) (hy : a.eval y = .bool xx) (h : St S w0 w L)
    {C C' : Array Value} {Tb : TypeId} {n : Nat} {L' : List Blk} [t : SizeT T n] [k : Has L g C Tb] [c : WrAt C off n (.bool xx) C'] [u : Upd L g C Tb C' L']
    (hk : ∀ w', St S w0 w' L' → wpList Tryz.prog ops Q rest (a.put o.dst undef) w') : wpList Tryz.prog ops Q (o :: rest) a w := wpList_st hw T x y ho g off hx _ hy h hk
theorem wpList_stA (hw : Region.wanted o (yielded ops a.tmps) = true) (T : TypeId) (x y : Operand) (ho : o.op = .store T x y) (g off : Nat) (hx : a.eval x = .pointer (some ⟨g, off, none⟩)) (xx : Array Value) (hy : a.eval y = .agg xx) (h : St S w0 w L)
    {C C' : Array Value} {Tb : TypeId} {n : Nat} {L' : List Blk} [t : SizeT T n] [k : Has L g C Tb] [c : WrAt C off n (.agg xx) C'] [u : Upd L g C Tb C' L']
    (hk : ∀ w', St S w0 w' L' → wpList Tryz.prog ops Q rest (a.put o.dst undef) w') : wpList Tryz.prog ops Q (o :: rest) a w := wpList_st hw T x y ho g off hx _ hy h hk
theorem wpList_new (hw : Region.wanted o (yielded ops a.tmps) = true) (T : TypeId) (ho : o.op = .alloc T) (h : St S w0 w L) (z : Array Value) (hz : ∀ w : World, (zeroValue T).run Tryz.prog w = .ok (.agg z) w)
    (hk : ∀ (b : Nat) (w' : World), St S w0 w' ((b, z, T) :: L) → wpList Tryz.prog ops Q rest (a.put o.dst (.pointer (some ⟨b, 0, none⟩))) w') : wpList Tryz.prog ops Q (o :: rest) a w :=
  BigFrame.wpList_want hw fun K hK => by
    have hr : (Instr.alloc T true (.tuple #[])).run Tryz.prog w = .ok (.pointer (some ⟨w.heap.size, 0, none⟩)) (w.alloc (.cells z T)) := by
      unfold Instr.alloc
      rw [Sem.run_bind, hz]
      rfl
    unfold Oper.wp execOp
    simp only [ho, Sem.run_bind, hr, Result.andThen_ok]
    exact hK _ _ (hk _ _ (h.alloc z T))
theorem wpList_box (hw : Region.wanted o (yielded ops a.tmps) = true) (T : TypeId) (x : Operand) (ho : o.op = .box T x) (h : St S w0 w L) (C : Array Value) (hx : a.eval x = .agg C)
    (hk : ∀ (b : Nat) (w' : World), St S w0 w' ((b, C, T) :: L) → wpList Tryz.prog ops Q rest (a.put o.dst (.pointer (some ⟨b, 0, none⟩))) w') : wpList Tryz.prog ops Q (o :: rest) a w :=
  BigFrame.wpList_want hw fun K hK => by
    have hr : (Instr.box T (.agg C)).run Tryz.prog w = .ok (.pointer (some ⟨w.heap.size, 0, none⟩)) (w.alloc (.cells C T)) := rfl
    unfold Oper.wp execOp
    simp only [ho, hx, Sem.run_bind, hr, Result.andThen_ok]
    exact hK _ _ (hk _ _ (h.alloc C T))
end
section
variable {ops : Array Oper} {rest : List Oper} {o : Oper} {a : Act} {C : World → Prop} {Q : Act → Prop} {S : List Nat} {w0 : World} {L : List Blk}
theorem wpQuiet_ld (hw : Region.wanted o (yielded ops a.tmps) = true) (T : TypeId) (x : Operand) (ho : o.op = .load T x) (g off : Nat) (hx : a.eval x = .pointer (some ⟨g, off, none⟩)) (h : ∀ w, C w → St S w0 w L)
    {D : Array Value} {Tb : TypeId} {v : Value} [t : OneT T] [k : Has L g D Tb] [c : CellAt D off v]
    (hk : wpQuiet Tryz.prog ops C Q rest (a.put o.dst v)) : wpQuiet Tryz.prog ops C Q (o :: rest) a :=
  BigFrame.wpQuiet_want hw fun K hK => ⟨v, fun w hC => by
    unfold Oper.quietAt execOp
    simp only [ho, hx, Instr.loadAt, Instr.sureAddr, Sem.run_bind, Sem.run_pure, Result.andThen_ok, run_loadVar_one (t.agg w) (h w hC).has c.eq]
    exact ⟨rfl, rfl⟩, hK _ hk⟩
theorem wpQuiet_lda (hw : Region.wanted o (yielded ops a.tmps) = true) (T : TypeId) (x : Operand) (ho : o.op = .load T x) (g off : Nat) (hx : a.eval x = .pointer (some ⟨g, off, none⟩)) (h : ∀ w, C w → St S w0 w L)
    {D : Array Value} {Tb : TypeId} {n : Nat} {cs : List Value} [t : AggT T n] [k : Has L g D Tb] [c : PartAt D off n cs]
    (hk : wpQuiet Tryz.prog ops C Q rest (a.put o.dst (.agg cs.toArray))) : wpQuiet Tryz.prog ops C Q (o :: rest) a :=
  BigFrame.wpQuiet_want hw fun K hK => ⟨.agg cs.toArray, fun w hC => by
    unfold Oper.quietAt execOp
    simp only [ho, hx, Instr.loadAt, Instr.sureAddr, Sem.run_bind, Sem.run_pure, Result.andThen_ok, run_loadVar_agg (t.agg w) (by rw [c.len]; exact t.size) (h w hC).has c.eq]
    exact ⟨rfl, rfl⟩, hK _ hk⟩
end
/-- In all worlds of a drawn region the blocks are as they were. -/
theorem St.quiet {S : List Nat} {w0 w : World} {L : List Blk} (h : St S w0 w L) : ∀ x, (∃ n : Ix w, x = n.1) → St S w0 x L := fun x ⟨n, e⟩ => by rw [e]; exact h.below n.2

instance : OneT 3 := ⟨fun w => by kernel_rfl, by kernel_rfl⟩
instance : OneT 4 := ⟨fun w => by kernel_rfl, by kernel_rfl⟩
instance : OneT 9 := ⟨fun w => by kernel_rfl, by kernel_rfl⟩
instance : AggT 34 32 := ⟨fun w => by kernel_rfl, by kernel_rfl⟩
end Go.Proofs.YtigihgbgdillpaaGreatDoor
