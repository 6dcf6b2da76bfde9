/- Slices of entries that are made, appended to, written. -/
import Derived.Test.YtgjgjhikimnknaaEntLaw
import Derived.OwnWalk
import Derived.Laws.MakeOwn
set_option linter.unusedVariables false
set_option linter.unusedSimpArgs false
namespace Go.Proofs.Ytgjgjhikimnknaa
open Go.RowKit

theorem wr_mid (A N B : List Value) : ∀ (M : List Value), M.length = N.length → wr (A ++ (M ++ B)).toArray A.length N = (A ++ (N ++ B)).toArray := by
  induction N generalizing A with
  | nil => intro M h; have : M = [] := List.length_eq_zero_iff.1 (by simpa using h); subst this; rfl
  | cons v N ih =>
    intro M h
    cases M with
    | nil => simp at h
    | cons u M =>
      have e : ((A ++ (u :: M ++ B)).toArray.setIfInBounds A.length v) = ((A ++ [v]) ++ (M ++ B)).toArray := by
        apply Array.ext'
        simp [List.set_append]
      unfold wr
      rw [e]
      have := ih (A ++ [v]) M (by simpa using h)
      rw [List.length_append, List.length_singleton] at this
      rw [this]
      simp
theorem partEnts (l : List Ent) (rest : List Value) (i : Nat) (hi : i < l.length) : PartAt (l.flatMap entL ++ rest).toArray (i * 39) 39 (entL l[i]) :=
  ⟨rfl, fun j v h => by
    have hj : j < 39 := (List.getElem?_eq_some_iff.1 h).1
    rw [List.getElem?_toArray, List.getElem?_append_left (by rw [entsL_length]; omega), ents_at l i hi j hj]
    simpa [entC] using h⟩
theorem wrEnts (l : List Ent) (rest : List Value) (i : Nat) (hi : i < l.length) (e : Ent) : WrAt (l.flatMap entL ++ rest).toArray (i * 39) 39 (.agg (entL e).toArray) ((l.set i e).flatMap entL ++ rest).toArray := by
  have hl : l = l.take i ++ (l[i] :: l.drop (i + 1)) := by rw [List.getElem_cons_drop, List.take_append_drop]
  have hh : ∀ (A B : List Ent) (x : Ent), (A ++ (x :: B)).flatMap entL ++ rest = A.flatMap entL ++ (entL x ++ (B.flatMap entL ++ rest)) := fun A B x => by simp
  have h1 : l.flatMap entL ++ rest = (l.take i).flatMap entL ++ (entL l[i] ++ ((l.drop (i + 1)).flatMap entL ++ rest)) := (congrArg (fun z => List.flatMap entL z ++ rest) hl).trans (hh _ _ _)
  have h2 : (l.set i e).flatMap entL ++ rest = (l.take i).flatMap entL ++ (entL e ++ ((l.drop (i + 1)).flatMap entL ++ rest)) := by
    rw [List.set_eq_take_append_cons_drop, if_pos hi]
    exact hh _ _ _
  have hlen : ((l.take i).flatMap entL).length = i * 39 := by rw [entsL_length, List.length_take]; congr 1; omega
  refine wr_row _ _ _ _ _ rfl rfl ?_ ?_
  · rw [List.size_toArray, List.length_append, entsL_length]
    omega
  · rw [h1, h2, ← hlen]
    exact wr_mid _ _ _ _ rfl
/-- A row that is owned, and has something, as a block of the list. -/
theorem St.ofOwn {w wr : World} {n cap g : Nat} {l : List Ent} (hb : Below w.heap.size w wr) (h : wr.ownsRow w.heap.size 27 39 (.slice (some ⟨g, 0, none⟩) n cap) n (l.flatMap entL)) :
    ∃ rest : List Value, St [] w wr [(g, (l.flatMap entL ++ rest).toArray, 27)] ∧ n ≤ cap ∧ (l.flatMap entL ++ rest).length = cap * 39 ∧ cap ≤ maxLen := by
  rcases h.2 with ⟨h1, _⟩ | ⟨g', cap', cur, he, hg, hh, h1, h2, h3, h4⟩
  · cases h1
  · injection he with e1 e2 e3
    injection e1 with e1
    injection e1 with e1
    subst e1 e3
    have e : cur = (l.flatMap entL ++ cur.toList.drop (n * 39)).toArray := by
      apply Array.ext'
      rw [← h4]
      simp
    rw [e] at hh
    refine ⟨cur.toList.drop (n * 39), ⟨hb.os, hb.tape, hb.output, hb.size, fun k hk _ => hb.block k hk, fun p hp => ?_, by simp, fun p hp => ?_⟩, h1, ?_, h2⟩
    · simp at hp; subst hp; exact Or.inl hg
    · simp at hp; subst hp; exact hh
    · rw [← List.size_toArray, ← e]
      exact h3
theorem entRow_pre {w : World} {g cap n : Nat} {T : TypeId} {l : List Ent} {rest : List Value} (hg : w.heap[g]? = some (.cells (l.flatMap entL ++ rest).toArray T (0, 0))) (hn : n = l.length) (hwf : ∀ e ∈ l, e.Wf) (hl : l.length ≤ maxLen) : EntRow w (.slice (some ⟨g, 0, none⟩) n cap) l :=
  entRow_cells hg hn hwf hl (fun i hi j hj => by
    rw [Nat.zero_add, List.getElem?_toArray, List.getElem?_append_left (by rw [entsL_length]; omega)]
    exact ents_at l i hi j hj)
theorem own_some {w : World} {base n size : Nat} {e : TypeId} {v : Value} {xs : List Value} (h : w.ownsRow base e size v n xs) (hn : 0 < n) : ∃ g cap, v = .slice (some ⟨g, 0, none⟩) n cap := by
  rcases h.2 with ⟨_, h0⟩ | ⟨g, cap, cur, rfl, _⟩
  · omega
  · exact ⟨g, cap, rfl⟩
theorem madeEnts (n : Nat) : madeCells (Value.agg (entC ent0)).cells (n * 39) = ((List.replicate n ent0).flatMap entL).toArray := by
  apply Array.ext
  · rw [size_madeCells, List.size_toArray, entsL_length, List.length_replicate]
  · intro k h1 h2
    rw [size_madeCells] at h1
    have hz : (Value.agg (entC ent0)).cells.size = 39 := rfl
    have hk : k = k / 39 * 39 + k % 39 := by omega
    have hq : k / 39 < n := by omega
    have := ents_at (List.replicate n ent0) (k / 39) (by simpa using hq) (k % 39) (by omega)
    rw [← hk] at this
    have h3 : ((List.replicate n ent0).flatMap entL)[k]? = some (((List.replicate n ent0).flatMap entL).toArray[k]'h2) := by simp
    rw [h3] at this
    have hm : k % 39 < (entC ent0).size := by show k % 39 < 39; omega
    rw [List.getElem_replicate, Array.getElem?_eq_getElem hm] at this
    injection this with this
    rw [this]
    simp only [madeCells, Array.getElem_map, Array.getElem_range, hz]
    show (entC ent0)[k % 39]! = _
    rw [getElem!_pos (entC ent0) (k % 39) hm]
section
variable {ops : Array Oper} {rest : List Oper} {o : Oper} {a : Act} {w : World} {Q : Exit → Act → World → Prop}
theorem run_append_none (v : Value) (ty : TypeId) (w : World) {base n : Nat} {l : List Value} (h : w.ownsRow base 27 39 v n l) : (Builtin.append_ #[22, 22] ty #[v, .slice none 0 0]).run Try.prog w = .ok v w := by
  rcases h.2 with ⟨rfl, rfl⟩ | ⟨g, cap, cur, rfl, _, hg, h1, _⟩
  · kernel_rfl
  · have hs := run_size (AggT.size (T := 27) (n := 39)) w
    simp [Builtin.append_, run_underlying Try.underlying22, hs, Builtin.lenOf, Builtin.firstCells, h1, storeCells]
/-- Appending a slice of entries to one that is owned. -/
theorem wpList_appE (hgd : o.guard = none) (s x : Operand) (ho : o.op = .call { callee := .builtin .append, args := #[s, x], argTypes := #[22, 22] })
    (base : Nat) (v u : Value) (l m : List Ent) (hs : a.eval s = v) (hx : a.eval x = u) (hown : w.ownsRow base 27 39 v l.length (l.flatMap entL)) (hm : EntRow w u m) (hlen : l.length + m.length ≤ 1000000) (hbase : base ≤ w.heap.size)
    (hk : ∀ v' w', w'.ownsRow base 27 39 v' (l ++ m).length ((l ++ m).flatMap entL) → w.grownBy w' v.ownBlock → wpList Try.prog ops Q rest (a.put o.dst v') w') : wpList Try.prog ops Q (o :: rest) a w := by
  obtain ⟨ad, cap, rfl, hwf, hl, hc⟩ := hm
  rw [List.length_append, List.flatMap_append] at hk
  obtain ⟨i0, hi0, hz0, hz1, hz2⟩ := info_parts infoEnt
  cases hm0 : m with
  | nil =>
    subst hm0
    cases ad with
    | none =>
      refine wpList_plain hgd fun _ hK => ?_
      have hcap : cap = 0 ∨ cap ≠ 0 := by omega
      have hr : (Builtin.append_ #[22, 22] o.type #[v, .slice none 0 cap]).run Try.prog w = .ok v w := by
        rcases hown.2 with ⟨rfl, h0⟩ | ⟨g, cap', cur, rfl, _, hg, h1, _⟩
        · have hs := run_size (AggT.size (T := 27) (n := 39)) w
          simp [Builtin.append_, run_underlying Try.underlying22, hs, Builtin.lenOf, Builtin.firstCells, storeCells]
        · have hs := run_size (AggT.size (T := 27) (n := 39)) w
          simp [Builtin.append_, run_underlying Try.underlying22, hs, Builtin.lenOf, Builtin.firstCells, h1, storeCells]
      unfold Oper.wp execOp
      simp only [ho, resolve, invoke, builtin, Sem.run_bind, Sem.run_pure, Result.andThen_ok, List.map_toArray, List.map_cons, List.map_nil, hs, hx]
      have hx' : a.eval x = .slice none 0 cap := hx
      simp only [List.length_nil, hr, Result.andThen_ok]
      exact hK _ _ (hk v w (by simpa using hown) ⟨rfl, rfl, rfl, Nat.le_refl _, fun _ _ _ => rfl⟩)
    | some ad =>
      exact wpList_append_own w hgd s x _ ho base 27 i0 (.agg (entC ent0)) 39 96 Try.underlying22 hi0 hz0 hz1 hz2 rfl (by omega) v _ _ hs hown ad 0 cap [] hx rfl (by simp) (by simp) (by unfold maxLen; omega) (by have := hlen; simp at *; omega) hbase (fun v' w' h1 h2 _ => hk v' w' h1 h2)
  | cons e0 m' =>
    obtain ⟨y, rfl, hcy⟩ := hc (by simp [hm0])
    clear hm0
    refine wpList_append_own w hgd s x _ ho base 27 i0 (.agg (entC ent0)) 39 96 Try.underlying22 hi0 hz0 hz1 hz2 rfl (by omega) v _ _ hs hown y m.length cap (m.flatMap entL) hx (entsL_length m) (fun j u hj => ?_) (fun u hu => ?_) (by unfold maxLen; omega) (by omega) hbase (fun v' w' h1 h2 _ => hk v' w' h1 h2)
    · have hjl : j < m.length * 39 := by rw [← entsL_length]; exact (List.getElem?_eq_some_iff.1 hj).1
      have hq : j / 39 < m.length := by omega
      have h1 := hcy (j / 39) hq (j % 39) (by omega)
      have h2 := ents_at m (j / 39) hq (j % 39) (by omega)
      rw [show j / 39 * 39 + j % 39 = j by omega] at h1 h2
      rw [h1, ← h2, hj]
    · obtain ⟨e, _, he⟩ := List.mem_flatMap.1 hu
      exact entL_one e u he
end
theorem ownsRow_zero (w : World) {base : Nat} (hb : base ≤ w.heap.size) : (w.alloc (.cells #[] 27)).ownsRow base 27 39 (.slice (some ⟨w.heap.size, 0, none⟩) 0 0) 0 [] :=
  ⟨by simp, Or.inr ⟨w.heap.size, 0, #[], rfl, hb, heap_alloc_new w _, Nat.le_refl _, by simp, by simp, by simp⟩⟩
theorem run_bs0 (w : World) : (Instr.buildSlice 22 0 #[]).run Try.prog w = .ok (.slice (some ⟨w.heap.size, 0, none⟩) 0 0) (w.alloc (.cells #[] 27)) := by kernel_rfl
section
variable {ops : Array Oper} {rest : List Oper} {o : Oper} {a : Act} {w : World} {Q : Exit → Act → World → Prop}
/-- The empty slice of entries. -/
theorem wpList_bs0 (hw : Region.wanted o (yielded ops a.tmps) = true) (ho : o.op = .buildSlice 22 0 #[]) (base : Nat) (hb : base ≤ w.heap.size)
    (hk : ∀ v w', w'.ownsRow base 27 39 v 0 [] → Below w.heap.size w w' → base ≤ w'.heap.size → wpList Try.prog ops Q rest (a.put o.dst v) w') : wpList Try.prog ops Q (o :: rest) a w :=
  BigFrame.wpList_want hw fun K hK => by
    unfold Oper.wp execOp
    simp only [ho, Array.map_empty, List.map_toArray, List.map_nil, Sem.run_bind, run_bs0, Result.andThen_ok]
    exact hK _ _ (hk _ _ (ownsRow_zero w hb) ((Below.refl _ _).alloc (Nat.le_refl _) _) (by simp; omega))
/-- make([]api.Entry, 0, cap). -/
theorem wpList_mkE (hw : Region.wanted o (yielded ops a.tmps) = true) (x y : Operand) (ho : o.op = .makeSlice 22 x y) (base cap : Nat) (hx : a.eval x = .int .i64 0) (hy : a.eval y = .int .i64 (cap : Int)) (hc : cap ≤ 1000000) (hb : base ≤ w.heap.size)
    (hk : ∀ v w', w'.ownsRow base 27 39 v 0 [] → Below w.heap.size w w' → base ≤ w'.heap.size → wpList Try.prog ops Q rest (a.put o.dst v) w') : wpList Try.prog ops Q (o :: rest) a w :=
  BigFrame.wpList_want hw fun K hK => by
    obtain ⟨i0, hi0, hz0, hz1, hz2⟩ := info_parts infoEnt
    obtain ⟨w', hr, h1, h2⟩ := run_make_own (P := Try.prog) w base 22 27 i0 (.agg (entC ent0)) 39 Try.underlying22 hi0 hz0 hz1 .i64 .i64 cap (by rw [hz2]; omega) (by unfold maxLen; omega) hb
    unfold Oper.wp execOp
    simp only [ho, hx, hy, Sem.run_bind, hr, Result.andThen_ok]
    exact hK _ _ (hk _ _ h1 ((Below.refl _ _).grown h2 (Nat.le_refl _) (by intro k hk; cases hk)) (Nat.le_trans hb h2.size))
/-- make([]api.Entry, n). -/
theorem wpList_mkEn {S : List Nat} {w0 : World} {L : List Blk} (hw : Region.wanted o (yielded ops a.tmps) = true) (x y : Operand) (ho : o.op = .makeSlice 22 x y) (n : Nat) (hx : a.eval x = .int .i64 (n : Int)) (hy : a.eval y = .int .i64 (n : Int)) (hc : n ≤ 1000000) (h : St S w0 w L)
    (hk : ∀ (b : Nat) w', St S w0 w' ((b, ((List.replicate n ent0).flatMap entL).toArray, 27) :: L) → wpList Try.prog ops Q rest (a.put o.dst (.slice (some ⟨b, 0, none⟩) n n)) w') : wpList Try.prog ops Q (o :: rest) a w :=
  BigFrame.wpList_want hw fun K hK => by
    obtain ⟨i0, hi0, hz0, hz1, hz2⟩ := info_parts infoEnt
    have hr := run_make (P := Try.prog) w 22 27 i0 (.agg (entC ent0)) Try.underlying22 hi0 hz0 .i64 .i64 n n (by omega) (by omega) (by rw [hz2]; omega) (by omega)
    rw [hz1, show ((n : Int)).toNat = n from rfl, madeEnts] at hr
    unfold Oper.wp execOp
    simp only [ho, hx, hy, Sem.run_bind, hr, Result.andThen_ok]
    exact hK _ _ (hk _ _ (h.alloc _ _))
end
end Go.Proofs.Ytgjgjhikimnknaa
