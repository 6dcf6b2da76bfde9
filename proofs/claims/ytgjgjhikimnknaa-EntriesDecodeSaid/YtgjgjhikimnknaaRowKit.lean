/- Slices of entries: as they are read, and carried on; blocks that hold entries one behind the other; values that do not ask the world. -/
import Derived.Test.YtgjgjhikimnknaaSame
import Derived.Test.YtgjgjhikimnknaaDecodeWalk
import Derived.Test.YtgjgjhikimnknaaEncodeWalk
set_option linter.unusedVariables false
set_option linter.unusedSimpArgs false
namespace Go.Proofs.Ytgjgjhikimnknaa
open Go.RowKit

theorem EntRow.old {w w' : World} {v : Value} {l : List Ent} (h : EntRow w v l) (hb : Below w.heap.size w w') : EntRow w' v l := by
  obtain ⟨a, cap, rfl, h1, h2, h3⟩ := h
  refine ⟨a, cap, rfl, h1, h2, fun hne => ?_⟩
  obtain ⟨x, rfl, hc⟩ := h3 hne
  refine ⟨x, rfl, fun i hi j hj => ?_⟩
  have := EntRow.cells hc hb i hi j hj
  rwa [add_add2] at this
theorem ents_at (l : List Ent) (i : Nat) (hi : i < l.length) (j : Nat) (hj : j < 39) : (l.flatMap entL)[i * 39 + j]? = (entC l[i])[j]? := by
  induction l generalizing i with
  | nil => simp at hi
  | cons e l ih =>
    rw [List.flatMap_cons]
    cases i with
    | zero =>
      rw [Nat.zero_mul, Nat.zero_add, List.getElem?_append_left (by rw [show (entL e).length = 39 from rfl]; exact hj)]
      simp [entC]
    | succ i =>
      rw [List.getElem?_append_right (by rw [show (entL e).length = 39 from rfl]; omega), show (entL e).length = 39 from rfl, show (i + 1) * 39 + j - 39 = i * 39 + j from by omega]
      exact ih i (by simpa using hi)
theorem entRow_cells {w : World} {g n cap off : Nat} {C : Array Value} {T : TypeId} {l : List Ent} (hg : w.heap[g]? = some (.cells C T (0, 0))) (hn : n = l.length) (hwf : ∀ e ∈ l, e.Wf) (hl : l.length ≤ maxLen)
    (hc : ∀ i (h : i < l.length) j, j < 39 → C[off + (i * 39 + j)]? = (entC l[i])[j]?) : EntRow w (.slice (some ⟨g, off, none⟩) n cap) l := by
  subst hn
  exact ⟨some ⟨g, off, none⟩, cap, rfl, hwf, hl, fun _ => ⟨_, rfl, fun i hi j hj => by rw [addr_add, cell_of_row w g _ C T (0, 0) hg]; exact hc i hi j hj⟩⟩
theorem entRow_block {w : World} {g cap : Nat} {T : TypeId} {l m : List Ent} (hg : w.heap[g]? = some (.cells ((l ++ m).flatMap entL).toArray T (0, 0))) (hwf : ∀ e ∈ l, e.Wf) (hl : l.length ≤ maxLen) : EntRow w (.slice (some ⟨g, 0, none⟩) l.length cap) l :=
  entRow_cells hg rfl hwf hl (fun i hi j hj => by
    rw [Nat.zero_add, List.getElem?_toArray, List.flatMap_append, List.getElem?_append_left (by rw [entsL_length]; omega)]
    exact ents_at l i hi j hj)
theorem entRow_nil (w : World) : EntRow w (.slice none 0 0) [] := ⟨none, 0, rfl, by simp, by simp, by simp⟩
theorem entRow_owns {w : World} {base : Nat} {T : TypeId} {v : Value} {l : List Ent} (h : w.ownsRow base T 39 v l.length (l.flatMap entL)) (hwf : ∀ e ∈ l, e.Wf) (hl : l.length ≤ maxLen) : EntRow w v l := by
  rcases h.2 with ⟨rfl, h0⟩ | ⟨g, cap, cur, rfl, _, hg, h1, h2, h3, h4⟩
  · obtain rfl : l = [] := List.length_eq_zero_iff.1 h0
    exact entRow_nil w
  · refine entRow_cells hg rfl hwf hl (fun i hi j hj => ?_)
    rw [Nat.zero_add, ← ents_at l i hi j hj, ← h4]
    have hlt : i * 39 + j < l.length * 39 := by omega
    rw [List.getElem?_take, if_pos hlt]
    simp
section
variable {ops : Array Oper} {rest : List Oper} {o : Oper} {a : Act} {w : World} {Q : Exit → Act → World → Prop} {S : List Nat} {w0 : World} {L : List Blk}
/-- An operation that yields a value in whatever world. -/
theorem wpList_val (hw : Region.wanted o (yielded ops a.tmps) = true) (d : Nat) (hd : o.dst = some d) (v : Value) (hv : ∀ w, (execOp a.eval o).run Try.prog w = .ok (.value v) w)
    (hk : wpList Try.prog ops Q rest (a.put o.dst v) w) : wpList Try.prog ops Q (o :: rest) a w :=
  BigFrame.wpList_want hw fun K hK => by
    unfold Oper.wp
    rw [hv]
    exact hK _ _ hk
/-- An operation that makes a block. -/
theorem wpList_blk (hw : Region.wanted o (yielded ops a.tmps) = true) (d : Nat) (hd : o.dst = some d) (h : St S w0 w L) (C : Array Value) (T : TypeId) (f : Nat → Value) (hv : ∀ w, (execOp a.eval o).run Try.prog w = .ok (.value (f w.heap.size)) (w.alloc (.cells C T)))
    (hk : ∀ (b : Nat) (w' : World), Below w.heap.size w w' → St S w0 w' ((b, C, T) :: L) → wpList Try.prog ops Q rest (a.put o.dst (f b)) w') : wpList Try.prog ops Q (o :: rest) a w :=
  BigFrame.wpList_want hw fun K hK => by
    unfold Oper.wp
    rw [hv]
    exact hK _ _ (hk _ _ ((Below.refl _ _).alloc (Nat.le_refl _) _) (h.alloc C T))
end
theorem entN_wf {k s n len st c : Int} {nm : ByteArray} {h : List UInt8} (h1 : I64 k) (h2 : I64 s) (h3 : I64 n) (h4 : I64 len) (h5 : nm.size ≤ 9223372036854775807) (h6 : h.length = 32) (h7 : I64 st) (h8 : I64 c) : (⟨k, s, n, len, nm, h, st, c⟩ : Ent).Wf := ⟨h1, h2, h3, h4, h5, h6, h7, h8⟩
theorem i64_small {n : Int} (h0 : -1000000 ≤ n) (h1 : n ≤ 1000000) : I64 n := by unfold I64; omega
theorem enc_len (l : List Ent) (hl : l.length ≤ 100000) (hwf : ∀ e ∈ l, e.hash.length = 32) : (encF l).1.length ≤ 40000000000 := by
  unfold encF
  split
  · split
    · have h1 := ents_len hwf
      have h2 := putL_len l.length 2
      show (encBytes l).length ≤ _
      unfold encBytes
      rw [List.length_append]
      omega
    · simp
  · simp
end Go.Proofs.Ytgjgjhikimnknaa
