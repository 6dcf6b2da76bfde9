/- The contract of entries.Encode. -/
import Derived.Test.YtgjgjhikimnknaaFieldPut
import Derived.Test.YtgjgjhikimnknaaBuilder
set_option linter.unusedVariables false
set_option linter.unusedSimpArgs false
namespace Go.Proofs.Ytgjgjhikimnknaa
open Go.RowKit

/-- A slice of entries that was read. -/
def EntRow (w : World) (v : Value) (l : List Ent) : Prop :=
  ∃ a cap, v = .slice a l.length cap ∧ (∀ e ∈ l, e.Wf) ∧ l.length ≤ maxLen ∧
    (l ≠ [] → ∃ x, a = some x ∧ ∀ i (h : i < l.length) j (hj : j < 39), w.cell? (x.add (i * 39 + j)) = (entC l[i])[j]?)
def entBytes (e : Ent) : List UInt8 := putL e.kind 1 ++ (fieldsL e.kind).flatMap (fieldBytes e)
def encBytes (l : List Ent) : List UInt8 := putL l.length 2 ++ l.flatMap entBytes
/-- What Encode tells. -/
def encF (l : List Ent) : List UInt8 × Int := if l.all checkB then (if l.length ≤ 200 then (encBytes l, 0) else ([], 3)) else ([], 2)

theorem add_add2 (x : Addr) (a b : Nat) : (x.add a).add b = x.add (a + b) := by
  unfold Addr.add
  by_cases h1 : a = 0
  · subst h1
    by_cases h2 : b = 0
    · subst h2; rfl
    · rw [if_pos rfl, if_neg h2, if_neg (by omega), Nat.zero_add]
  · by_cases h2 : b = 0
    · subst h2
      rw [if_neg h1, if_pos rfl, if_neg (by omega)]
      rfl
    · rw [if_neg h1, if_neg h2, if_neg (by omega), Nat.add_assoc]
theorem add_block (x : Addr) (a : Nat) : (x.add a).block = x.block := by unfold Addr.add; split <;> rfl

theorem run_load_ent_at (w : World) (ad : Addr) (e : Ent) (hc : ∀ j, j < 39 → w.cell? (ad.add j) = (entC e)[j]?) : (loadVar 27 ad).run Try.prog w = .ok (.agg (entL e).toArray) w := by
  have hl := run_loadCells_list (P := Try.prog) w ad (entL e) (fun j v hv => by
    have hj : j < 39 := (List.getElem?_eq_some_iff.1 hv).1
    rw [hc j hj]
    simpa [entC] using hv)
  have ha := AggT.agg (T := 27) (n := 39) w
  have hs := run_size (AggT.size (T := 27) (n := 39)) w
  have h39 : (entL e).length = 39 := rfl
  rw [h39] at hl
  simp only [loadVar, Sem.run_bind, ha, Result.andThen_ok, if_true, hs, hl, Sem.run_pure]
section
variable {ops : Array Oper} {rest : List Oper} {o : Oper} {a : Act} {w : World} {Q : Exit → Act → World → Prop}
theorem wpList_lde (hw : Region.wanted o (yielded ops a.tmps) = true) (x : Operand) (ho : o.op = .load 27 x) (ad : Addr) (hx : a.eval x = .pointer (some ad)) (e : Ent) (hc : ∀ j, j < 39 → w.cell? (ad.add j) = (entC e)[j]?)
    (hk : wpList Try.prog ops Q rest (a.put o.dst (.agg (entL e).toArray)) w) : wpList Try.prog ops Q (o :: rest) a w :=
  BigFrame.wpList_want hw fun K hK => by
    unfold Oper.wp execOp
    simp only [ho, hx, Instr.loadAt, Instr.sureAddr, Sem.run_bind, Sem.run_pure, Result.andThen_ok, run_load_ent_at w ad e hc]
    exact hK _ _ hk
end

/-! ### A builder beside blocks of other kinds -/
theorem belw {w0 w w' : World} (h : Below w0.heap.size w0 w) (h' : Below w.heap.size w w') : Below w0.heap.size w0 w' := h.trans (h'.mono h.size)
theorem IsB.old {B b : Nat} {bs : List Value} {w w' : World} (h : IsB B b bs w) (hb : Below w.heap.size w w') : IsB B b bs w' := by
  have key : ∀ p, Lib.BuilderAtF 50 5 B b p bs w → Lib.BuilderAtF 50 5 B b p bs w' := by
    rintro p ⟨hB, v, hbk, ⟨hl, hown⟩, hne⟩
    refine ⟨hB, v, (hb.block _ (lt_of_heap' hbk)).trans hbk, ⟨hl, ?_⟩, hne⟩
    rcases hown with h1 | ⟨g, cap, cur, fz, h1, h2, h3, h4⟩
    · exact Or.inl h1
    · exact Or.inr ⟨g, cap, cur, fz, h1, h2, (hb.block _ (lt_of_heap' h3)).trans h3, h4⟩
  rcases h with h | h
  · exact Or.inl (key _ h)
  · exact Or.inr (key _ h)
theorem IsB.block {B b : Nat} {bs : List Value} {w : World} (h : IsB B b bs w) : ∃ cs, w.heap[b]? = some (.cells cs 50 (0, 0)) := by
  rcases h with ⟨_, v, h, _⟩ | ⟨_, v, h, _⟩ <;> exact ⟨_, h⟩
theorem zero_builder (w : World) : (zeroValue 50).run Try.prog w = .ok (.agg #[.pointer none, .slice none 0 0]) w := by kernel_rfl
theorem IsB.fresh {w0 w : World} {b : Nat} (h : St [] w0 w [(b, #[.pointer none, .slice none 0 0], 50)]) : IsB w0.heap.size b (Lib.byteCells []) w :=
  Or.inl ⟨by rcases h.own _ (List.mem_cons_self) with h1 | h1 <;> simp at h1; exact h1, .slice none 0 0, h.blk _ (List.mem_cons_self), World.ownsRowF_nil _ _ _ _, by simp [Value.ownBlock]⟩
def keys (L : List Blk) : List Nat := L.map (·.1)
theorem St.rebase {S : List Nat} {w0 w : World} {L : List Blk} (h : St S w0 w L) : St (keys L) w w L :=
  ⟨rfl, rfl, rfl, Nat.le_refl _, fun _ _ _ => rfl, fun p hp => Or.inr (List.mem_map.2 ⟨p, hp, rfl⟩), h.nodup, h.blk⟩
/-- What stands in the list as it stood is as it was. -/
theorem St.still {w w' : World} {L : List Blk} (h0 : St (keys L) w w L) (h : St (keys L) w w' L) : Below w.heap.size w w' :=
  ⟨h.os, h.tape, h.output, h.size, fun k hk => by
    by_cases hm : k ∈ keys L
    · obtain ⟨p, hp, rfl⟩ := List.mem_map.1 hm
      rw [h.blk p hp, h0.blk p hp]
    · exact h.kept k hk hm⟩
/-- Behind a write of the builder. -/
theorem St.beside {S : List Nat} {B b : Nat} {w0 w w' : World} {L : List Blk} (h : St S w0 w L) (hk : KeptB B b w w') (hb : ∃ cs, w.heap[b]? = some (.cells cs 50 (0, 0))) (hT : ∀ p ∈ L, p.2.2 ≠ 5 ∧ p.2.2 ≠ 50) : St (keys L) w' w' L :=
  ⟨rfl, rfl, rfl, Nat.le_refl _, fun _ _ _ => rfl, fun p hp => Or.inr (List.mem_map.2 ⟨p, hp, rfl⟩), h.nodup, fun p hp => by
    refine hk.2 _ _ (h.blk p hp) ?_ ?_
    · intro e
      obtain ⟨cs, hc⟩ := hb
      have e' : p.1 = b := Option.some.inj e
      rw [← e', h.blk p hp] at hc
      injection hc with hc
      injection hc with _ h2
      exact (hT p hp).2 h2
    · intro c fz e
      injection e with _ h2
      exact (hT p hp).1 h2⟩
theorem write_calls (B b : Nat) (bs : List UInt8) (s : ByteArray) (w : World) (h : IsB B b (Lib.byteCells bs) w) (hlen : bs.length + s.size ≤ 140737488355328) (hBw : B ≤ w.heap.size) :
    Calls Try.prog 20 #[.pointer (some ⟨b, 0, none⟩), .string s] w fun e w' => e = .returned (.tuple #[.int .i64 s.size, .nilIface]) ∧ (IsB B b (Lib.byteCells (bs ++ ls s)) w' ∧ KeptB B b w w') := by
  have e : Lib.byteCells (bs ++ ls s) = Lib.byteCells bs ++ Lib.strCells s := by simp [Lib.byteCells, Lib.strCells, ls]
  rw [e]
  exact write_string_calls B b _ s w h (by simpa [Lib.byteCells] using hlen) hBw

theorem putL_len (n b : Int) : (putL n b).length ≤ 8 := by have := putF_size n b; unfold putL; rw [ls_length]; exact this
theorem textL_len (t : ByteArray) : (textL t).length ≤ 65537 := by
  unfold textL putTextF
  split
  · rename_i l h
    split at h
    · injection h with h
      subst h
      simp [be_length, ls_length]
      omega
    · cases h
  · simp
theorem fieldBytes_len (e : Ent) (he : e.hash.length = 32) (f : Int) : (fieldBytes e f).length ≤ 65537 := by
  have h1 := putL_len e.stream 1
  have h2 := putL_len e.n 4
  have h3 := textL_len e.name
  have h4 := putL_len e.len 2
  have h5 := putL_len e.start 2
  have h6 := putL_len e.count 2
  unfold fieldBytes
  split
  · omega
  · split
    · omega
    · split
      · omega
      · simp; omega
theorem flat_len {l : List Int} {e : Ent} (he : e.hash.length = 32) : (l.flatMap (fieldBytes e)).length ≤ l.length * 65537 := by
  induction l with
  | nil => simp
  | cons f l ih =>
    have := fieldBytes_len e he f
    rw [List.flatMap_cons, List.length_append, List.length_cons]
    omega
theorem entBytes_len (e : Ent) (he : e.hash.length = 32) : (entBytes e).length ≤ 196619 := by
  have h1 := putL_len e.kind 1
  have h2 := flat_len (l := fieldsL e.kind) he
  have h3 := fieldsL_len e.kind
  unfold entBytes
  rw [List.length_append]
  omega
theorem ents_len {l : List Ent} (he : ∀ e ∈ l, e.hash.length = 32) : (l.flatMap entBytes).length ≤ l.length * 196619 := by
  induction l with
  | nil => simp
  | cons e l ih =>
    have h1 := entBytes_len e (he e (by simp))
    have h2 := ih (fun x hx => he x (by simp [hx]))
    rw [List.flatMap_cons, List.length_append, List.length_cons]
    omega
end Go.Proofs.Ytgjgjhikimnknaa
