/- The contracts of runs: first, Delete (that it stays within its row), Take. -/
import Derived.Test.YtigihgbgdillpaaGreatDoorP22
set_option linter.unusedVariables false
set_option linter.unusedSimpArgs false
set_option maxRecDepth 100000
namespace Go.Proofs.YtigihgbgdillpaaGreatDoor
open Go.RowKit

instance fldRun0 : Fx.FldT 36 0 0 := ⟨fun ad w => by kernel_rfl⟩
instance fldRun1 : Fx.FldT 36 1 1 := ⟨fun ad w => by kernel_rfl⟩
theorem OwnR.cells {k : Nat} {α : Type} {enc : α → List Value} {C : Array Value} {l : List α} [e : Enc enc k] (ht : C.toList.take (l.length * k) = l.flatMap enc) {i : Nat} (hi : i < l.length) {j : Nat} (hj : j < k) : C[i * k + j]? = (enc l[i])[j]? := by
  have h1 := rows_at (enc := enc) l i hi j hj
  have h2 : i * k + j < l.length * k := by
    have : (i + 1) * k ≤ l.length * k := Nat.mul_le_mul_right k hi
    rw [Nat.add_mul] at this
    omega
  rw [← h1, ← ht, List.getElem?_take, if_pos h2, Array.getElem?_toList]
theorem first_calls {D : Dat} {p : Option Addr} {c : Nat} {l : List Rn} (h : RowAt D 36 2 rnL p c l) (w : World) (hD : Holds D w) (f : FuncId) (cap : Array Value) (P : Rn → Bool) (hen : ∀ args w, (callFunc f args).run Tryz.prog w = .ok (.enter f args) w)
    (hP : ∀ i (hi : i < l.length) w', Below w.heap.size w w' → Calls Tryz.prog f (#[.agg (rnL l[i]).toArray] ++ cap) w' (Ret (.bool (P l[i])) w')) : Calls Tryz.prog 64 #[.slice p l.length c, .func (.func f) #[] cap] w (Ret (.int .i64 (l.findIdx P : Nat)) w) := by
  have hst := Sx.start0 w hD
  have HI := Lib.hid (indexRun_calls h w hD f cap P hen hP)
  have HF : Hid (idxF P l = if l.findIdx P < l.length then ((l.findIdx P : Nat) : Int) else -1) := Lib.hid (by
    unfold idxF
    cases hf : l.findIdx? P with
    | none =>
      have := List.findIdx?_eq_none_iff_findIdx_eq.1 hf
      rw [if_neg (by omega)]
    | some i =>
      obtain ⟨h1, h2⟩ := List.findIdx?_eq_some_iff_findIdx_eq.1 hf
      rw [if_pos (by omega)]
      simp only
      omega)
  have hle : l.findIdx P ≤ l.length := List.findIdx_le_length
  generalize idxF P l = z at *
  generalize l.findIdx P = q at *
  clear hP
  by_cases hq : q < l.length
  · have hz : z = q := by rw [HF.out, if_pos hq]
    subst hz
    clear HF
    go_enter Tryz.func64, Tryz.ntmps64
    go_wp2_with (with_reducible (refine callB HI.out hst ?_; clear hst; intro w' hst))
    go_ret
    exact ⟨rfl, hst.end⟩
  · have hz : z = -1 := by rw [HF.out, if_neg hq]
    obtain rfl : q = l.length := by omega
    subst hz
    clear HF
    go_enter Tryz.func64, Tryz.ntmps64
    go_wp2_with (with_reducible (refine callB HI.out hst ?_; clear hst; intro w' hst))
    go_ret
    exact ⟨rfl, hst.end⟩
/-- One block that lies still. -/
def One (b : Nat) (C : Array Value) (T : TypeId) : Dat := fun p => p = (b, C, T)
theorem One.holds {b : Nat} {C : Array Value} {T : TypeId} {w : World} {z : Nat × Nat} (h : w.heap[b]? = some (.cells C T z)) : Holds (One b C T) w := fun p hp => by cases hp; exact ⟨z, h⟩
instance oneLd {b : Nat} {v : Value} {T U : TypeId} [t : OneT U] : LdD (One b #[v] T) U ⟨b, 0, none⟩ v := LdD.one (D := One b #[v] T) rfl rfl
theorem take1_calls (r : Rn) (n : Int) (b : Nat) (w : World) (hb : w.heap[b]? = some (.cells #[.int .i64 n] 3 (0, 0))) : Calls Tryz.prog 65 #[.agg #[.int .i64 r.s, .int .i64 r.c], .pointer (some ⟨b, 0, none⟩)] w (Ret (.bool (decide (n ≤ r.c))) w) := by
  have hst := Sx.start0 w (One.holds hb)
  go_enter Tryz.func65, Tryz.ntmps65
  go_wp2_with (with_reducible first|refine x1 rfl rfl rfl hst ?_|refine xd rfl rfl rfl hst ?_|(refine xba rfl rfl hst rfl ?_;clear hst;intro bb w' hst))
  go_ret
  exact ⟨rfl, hst.end⟩
/-- Appending over the rest of a row of one's own, within its room. -/
theorem append_over {w : World} {α : Type} {enc : α → List Value} {k : Nat} {T TS : TypeId} (ty : TypeId) {g n c : Nat} {C : Array Value} {u : Value} {m : List α} (hg : w.heap[g]? = some (.cells C T (0, 0))) (hC : C.size = c * k) [sl : SlT TS T] [e : Elt T k] [en : Enc enc k] (hs : Src w enc u m) (hroom : n + m.length ≤ c) :
    ∃ C', (Builtin.append_ #[TS, TS] ty #[.slice (some ⟨g, 0, none⟩) n c, u]).run Tryz.prog w = .ok (.slice (some ⟨g, 0, none⟩) (n + m.length) c) (w.setRow g C') ∧ C'.size = C.size ∧ C'.toList.take (n * k) = C.toList.take (n * k) ∧ (C'.toList.drop (n * k)).take (m.length * k) = m.flatMap enc := by
  obtain ⟨i, z, hi, hz, hsz, hby, hzs, hk⟩ := elt_info T k
  obtain ⟨pa, cu, rfl, hc⟩ := hs
  by_cases hm : m = []
  · subst hm
    refine ⟨C, ?_, rfl, rfl, by simp⟩
    rw [setRow_self w g C T hg]
    simpa using run_append_zero (k := k) ty (some ⟨g, 0, none⟩) pa n c cu (by simpa using hroom) w
  obtain ⟨ad, rfl, hcells⟩ := hc hm
  have hlm : (m.flatMap enc).length = m.length * i.size := by rw [rows_length (k := k), hsz]
  have hle : n * k + m.length * k ≤ c * k := by rw [← Nat.add_mul]; exact Nat.mul_le_mul_right _ hroom
  have hr := run_append_room (P := Tryz.prog) w TS ty T i sl.under hi g n c C hg ad m.length cu (m.flatMap enc) hlm hcells (rows_one (k := k) m) hroom (by rw [hlm, hsz]; omega)
  refine ⟨_, hr, ?_, ?_, ?_⟩
  · simp only [List.size_toArray, List.length_append, List.length_take, List.length_drop, Array.length_toList, hsz, hlm]
    omega
  · rw [hsz]
    simp only [List.append_assoc]
    rw [List.take_left' (by simp; omega)]
  · rw [hsz]
    simp only [List.append_assoc]
    rw [List.drop_left' (by simp; omega), List.take_left' (by rw [hlm, hsz])]
section
variable {ρ : Operand → Value} {o : Oper} {x y z : Operand} {v : Value} {TS T : TypeId} {k : Nat}
/-- Slices of a slice. -/
theorem e_slH (ho : o.op = .slice TS x none (some y) none) {p : Option Addr} {n c : Nat} (hx : ρ x = .slice p n c) {kk : IntKind} {j : Nat} (hy : ρ y = .int kk (j : Int)) [sl : SlT TS T] [e : Elt T k] (hj : j ≤ c) (w : World) : (execOp ρ o).run Tryz.prog w = .ok (.value (.slice p j c)) w := by
  obtain ⟨i, z, hi, hz, hs, hb, hzs, hk⟩ := elt_info T k
  unfold execOp
  rw [ho]
  have h1 : (0 : Int) ≤ (j : Int) ∧ (j : Int) ≤ (c : Int) := by omega
  simp [hx, hy, Instr.sliceAt, Instr.slice, Instr.sliceBounds, Instr.sliceBound, asIntOf, run_underlying sl.under, h1, hj, sizeOf, typeInfo, hi, hs]
  cases p <;> simp [Addr.add]
theorem e_slL (ho : o.op = .slice TS x (some y) none none) {p : Option Addr} {n c : Nat} (hx : ρ x = .slice p n c) {kk : IntKind} {j : Nat} (hy : ρ y = .int kk (j : Int)) [sl : SlT TS T] [e : Elt T k] (hj : j ≤ n) (w : World) : (execOp ρ o).run Tryz.prog w = .ok (.value (.slice (if c = j then p else p.map (·.add (j * k))) (n - j) (c - j))) w := by
  obtain ⟨i, z, hi, hz, hs, hb, hzs, hk⟩ := elt_info T k
  unfold execOp
  rw [ho]
  have h1 : (0 : Int) ≤ (j : Int) ∧ (j : Int) ≤ (n : Int) := by omega
  simp [hx, hy, Instr.sliceAt, Instr.slice, Instr.sliceBounds, Instr.sliceBound, asIntOf, run_underlying sl.under, h1, hj, sizeOf, typeInfo, hi, hs]
end
theorem Fx.apo {α : Type} {enc : α → List Value} {k' : Nat} {T TS : TypeId} {ops : Array Oper} {F : Fx.Flow} {Qf : List Blk → Act → Prop} {l : List Nat} {k : Nat} {o : Oper} {L : List Blk} {a : Act} {r : List (Nat × Value)} (h0 : Fx.nthO ops.toList k = some o) (hs : F.special k = true) {x y : Operand} (ho : o.op = .call { callee := .builtin .append, args := #[x, y], argTypes := #[TS, TS] })
    {g n c : Nat} {C : Array Value} {u : Value} (m : List α) (hx : Fx.evO r a x = .slice (some ⟨g, 0, none⟩) n c) (hy : Fx.evO r a y = u) (hC : C.size = c * k') [sl : SlT TS T] [e : Elt T k'] [en : Enc enc k'] (hsrc : ∀ w : World, w.heap[g]? = some (.cells C T (0, 0)) → Src w enc u m) (hroom : n + m.length ≤ c) (hl : F.late k = true)
    (hk : ∀ C', C'.size = C.size → C'.toList.take (n * k') = C.toList.take (n * k') → (C'.toList.drop (n * k')).take (m.length * k') = m.flatMap enc → Fx.wpLX ops F Qf l ((g, C', T) :: L) (Fx.mkO (Fx.nxt o.dst (.slice (some ⟨g, 0, none⟩) (n + m.length) c) r) a)) : Fx.wpLX ops F Qf (k :: l) ((g, C, T) :: L) (Fx.mkO r a) := by
  refine Fx.spec h0 hs (fun L' u => ∃ C', L' = (g, C', T) :: L ∧ u = .slice (some ⟨g, 0, none⟩) (n + m.length) c ∧ C'.size = C.size ∧ C'.toList.take (n * k') = C.toList.take (n * k') ∧ (C'.toList.drop (n * k')).take (m.length * k') = m.flatMap enc) (fun w hw => Or.inl ?_) ?_
  · have hg := hw.st.blk (g, C, T) (by simp)
    obtain ⟨C', hr, h1, h2, h3⟩ := append_over (TS := TS) o.type hg hC (hsrc w hg) hroom
    refine ⟨_, _, (g, C', T) :: L, ?_, ⟨C', rfl, rfl, h1, h2, h3⟩, hw.upd (u := Upd.head) (St.write1 hg)⟩
    unfold execOp
    simp only [ho, resolve, invoke, builtin, Sem.run_bind, Sem.run_pure, Result.andThen_ok, List.map_toArray, List.map_cons, List.map_nil, hx, hy, hr]
  · rintro L' u ⟨C', rfl, rfl, h1, h2, h3⟩
    exact ⟨Or.inl hl, hk C' h1 h2 h3⟩
section
variable {ops : Array Oper} {rest : List Oper} {o : Oper} {a : Act} {w : World} {Q : Exit → Act → World → Prop} {S : List Nat} {w0 : World} {L : List Blk} {D : Dat} {F : List Nat}
theorem xclr (hw : Region.wanted o (yielded ops a.tmps) = true) {x : Operand} {T TS : TypeId} (ho : o.op = .call { callee := .builtin .clear, args := #[x], argTypes := #[TS] }) {g off n c : Nat} {C : Array Value} (hx : a.eval x = .slice (some ⟨g, off, none⟩) n c) (h : Sx S w0 w ((g, C, T) :: L) D F) [sl : SlT TS T] {i : TypeInfo} {z : Value} (hi : Tryz.prog.info? T = some i) (hz : i.zero = some z) (h1 : ∀ v ∈ (Builtin.zeroCells z.cells n).toList, v.oneCell' = true) (hfit : off + (Builtin.zeroCells z.cells n).size ≤ C.size)
    (hk : ∀ C' w', C'.size = C.size → Sx S w0 w' ((g, C', T) :: L) D F → wpList Tryz.prog ops Q rest (a.put o.dst (.tuple #[])) w') : wpList Tryz.prog ops Q (o :: rest) a w :=
  BigFrame.wpList_want hw fun K hK => by
    have hg := h.st.blk (g, C, T) (by simp)
    have hst := run_storeCells_at g off T (Builtin.zeroCells z.cells n).toList 0 C w hg (by simpa using hfit) h1
    rw [Nat.add_zero] at hst
    by_cases hn : n = 0
    · subst hn
      unfold Oper.wp execOp
      simp [ho, resolve, invoke, builtin, hx, Builtin.clear_, run_underlying sl.under]
      exact hK _ _ (hk C w rfl h)
    · have hr : (Builtin.clear_ #[TS] o.type #[.slice (some ⟨g, off, none⟩) n c]).run Tryz.prog w = .ok (.tuple #[]) (w.setRow g (wr C off (Builtin.zeroCells z.cells n).toList)) := by
        cases n with
        | zero => exact absurd rfl hn
        | succ n => simp [Builtin.clear_, run_underlying sl.under, zeroValue, typeInfo, hi, hz, hst]
      unfold Oper.wp execOp
      simp only [ho, resolve, invoke, builtin, Sem.run_bind, Sem.run_pure, Result.andThen_ok, List.map_toArray, List.map_cons, List.map_nil, hx, hr]
      exact hK _ _ (hk _ _ (wr_size _ _ _) (h.upd (L' := (g, _, T) :: L) (u := Upd.head) (St.write1 hg)))
end
/-- A part of a row of one's own, to be appended. -/
theorem src_part {w : World} {α : Type} {enc : α → List Value} {k : Nat} {T : TypeId} {g n c j : Nat} {C : Array Value} {l : List α} [e : Enc enc k] (hg : w.heap[g]? = some (.cells C T (0, 0))) (hn : n = l.length) (ht : C.toList.take (l.length * k) = l.flatMap enc) (hc : n ≤ c) :
    Src w enc (.slice (if c = j then some ⟨g, 0, none⟩ else (some (⟨g, 0, none⟩ : Addr)).map (·.add (j * k))) (n - j) (c - j)) (l.drop j) := by
  refine ⟨_, _, by rw [List.length_drop, hn], fun hne => ?_⟩
  have hj : j < l.length := by
    rcases Nat.lt_or_ge j l.length with h | h
    · exact h
    · exact absurd (List.drop_eq_nil_of_le h) hne
  rw [if_neg (by omega)]
  refine ⟨_, rfl, fun q v hq => ?_⟩
  show w.cell? (((⟨g, 0, none⟩ : Addr).add (j * k)).add q) = _
  rw [addr_add, addr_add, cell_of_row w g _ _ _ _ hg, Nat.zero_add, ← Array.getElem?_toList]
  have h1 : l.flatMap enc = (l.take j).flatMap enc ++ (l.drop j).flatMap enc := by rw [← List.flatMap_append, List.take_append_drop]
  have h2 : ((l.take j).flatMap enc).length = j * k := by rw [rows_length (k := k), List.length_take]; congr 1; omega
  have hql := (List.getElem?_eq_some_iff.1 hq).1
  have h3 : (l.flatMap enc)[j * k + q]? = some v := by rw [h1, List.getElem?_append_right (by omega), h2, show j * k + q - j * k = q by omega]; exact hq
  rw [← ht, List.getElem?_take] at h3
  split at h3
  · exact h3
  · cases h3
set_option maxHeartbeats 1000000 in
theorem delete_calls {g c i : Nat} {C : Array Value} {l : List Rn} (w : World) (hg : w.heap[g]? = some (.cells C 36 (0, 0))) (hi : i < l.length) (hc : l.length ≤ c) (hb : l.length ≤ 1000000000) (hC : C.size = c * 2) (ht : C.toList.take (l.length * 2) = l.flatMap rnL) :
    Calls Tryz.prog 68 #[.slice (some ⟨g, 0, none⟩) l.length c, .int .i64 (i : Int), .int .i64 ((i : Int) + 1)] w fun e w' => (∃ p m c', e = .returned (.slice p m c')) ∧ St [g] w w' [] := by
  have hst : Sx [g] w w [(g, C, 36)] NoD [] := ⟨St.at1 hg, Holds.none w, fun _ h => h.elim, fun _ h => by simp at h, fun _ h => by simp at h, fun _ h => by simp at h, fun _ h => by simp at h⟩
  have hne : ((i : Int) == (i : Int) + 1) = false := by simp; omega
  obtain ⟨j, hj⟩ : ∃ j : Nat, (i : Int) + 1 = (j : Int) := ⟨i + 1, by omega⟩
  have HJ : Hid (j = i + 1) := Lib.hid (by omega)
  have h1 : (i : Int) ≤ (j : Int) := by omega
  have h2 : j ≤ l.length := by omega
  have h3 : i ≤ j := by omega
  rw [hj] at hne ⊢
  clear hj
  go_enter Tryz.func68, Tryz.ntmps68
  go_wp2_with fail
  have hcn : ¬ c = i + (l.length - j) := by have := HJ.out; omega
  have hl1 : i + (l.length - j) ≤ l.length := by omega
  obtain ⟨i0, z0, hi0, hz0⟩ : ∃ i0 z0, Tryz.prog.info? 36 = some i0 ∧ i0.zero = some z0 ∧ z0.cells = #[.int .i64 0, .int .i64 0] := by
    obtain ⟨i0, h1, h2, _⟩ := info_parts (P := Tryz.prog) (e := 36) (z := .agg #[.int .i64 0, .int .i64 0]) (size := 2) (bytes := 16) (by kernel_rfl)
    exact ⟨i0, _, h1, h2, rfl⟩
  refine Fx.go (fun i => i == 6) (fun _ => true) (fun i => i == 6) (List.range 8) rfl hst (by kernel_rfl) (by kernel_rfl) (by kernel_rfl) (by kernel_rfl) (by kernel_rfl) ?_
  refine Fx.val rfl rfl rfl rfl (Fx.e_mv rfl rfl) ?_
  refine Fx.val rfl rfl rfl rfl (Fx.e_mv rfl rfl) ?_
  refine Fx.val rfl rfl rfl rfl (e_slH rfl rfl rfl (by omega)) ?_
  refine Fx.val rfl rfl rfl rfl (Fx.e_mv rfl rfl) ?_
  refine Fx.val rfl rfl rfl rfl (Fx.e_mv rfl rfl) ?_
  refine Fx.val rfl rfl rfl rfl (e_slL rfl rfl rfl (by omega)) ?_
  refine Fx.apo rfl rfl rfl (l.drop j) rfl rfl hC (fun w hw => src_part hw rfl ht hc) (by rw [List.length_drop]; omega) rfl ?_
  intro C' h4 _ _
  refine Fx.val rfl rfl rfl rfl (Fx.e_as rfl rfl) ?_
  clear hst
  intro w' hst
  simp only [Fx.nxt_some, Fx.nxt_none, Fx.mkO_cons, Fx.mkO_nil, Fx.evO_eq, List.length_drop]
  generalize hn1 : i + (l.length - j) = n1 at *
  have HZ : Hid (∀ v ∈ (Builtin.zeroCells z0.cells (l.length - n1)).toList, v.oneCell' = true) := Lib.hid (by
    rw [hz0.2]
    intro v hv
    simp only [Builtin.zeroCells, Array.toList_map, List.mem_map] at hv
    obtain ⟨q, _, rfl⟩ := hv
    have : q % 2 = 0 ∨ q % 2 = 1 := by omega
    show (#[Value.int .i64 0, .int .i64 0][q % 2]!).oneCell' = true
    rcases this with e | e <;> rw [e] <;> rfl)
  have hnc : n1 ≤ c := by omega
  have HS : Hid (n1 * 2 + (Builtin.zeroCells z0.cells (l.length - n1)).size ≤ C'.size) := Lib.hid (by rw [size_zeroCells, hz0.2, h4, hC]; show n1 * 2 + (l.length - n1) * 2 ≤ c * 2; omega)
  have HZ0 := Lib.hid hz0
  have HI0 := Lib.hid hi0
  clear hz0 hi0 h4 hC ht hne
  go_wp2_with (with_reducible refine xclr (T := 36) (TS := 84) (g := g) (off := n1 * 2) (n := l.length - n1) rfl rfl rfl hst HI0.out HZ0.out.1 HZ.out HS.out ?_; clear hst; intro C2 w2 h5 hst)
  all_goals
    go_ret
    exact ⟨⟨_, _, _, rfl⟩, hst.endF⟩
def rTake (l : List Rn) (n : Int) : Rn × Bool :=
  if n < 1 ∨ rCheck l = false then (⟨0, 0⟩, false) else
  match l.findIdx? fun r => decide (n ≤ r.c) with
  | none => (⟨0, 0⟩, false)
  | some i => (⟨(l.getD i ⟨0, 0⟩).s, n⟩, true)
theorem rTake_bad {l : List Rn} {n : Int} (h : n < 1 ∨ rCheck l = false) : rTake l n = (⟨0, 0⟩, false) := if_pos h
theorem rTake_none {l : List Rn} {n : Int} (h : l.findIdx (fun r => decide (n ≤ r.c)) = l.length) : rTake l n = (⟨0, 0⟩, false) := by
  unfold rTake
  split
  · rfl
  · rw [List.findIdx?_eq_none_iff_findIdx_eq.2 h]
theorem rTake_at {l : List Rn} {n : Int} {i : Nat} (h1 : ¬ n < 1) (h2 : rCheck l = true) (hi : i < l.length) (h : l.findIdx (fun r => decide (n ≤ r.c)) = i) : rTake l n = (⟨l[i].s, n⟩, true) := by
  unfold rTake
  rw [if_neg (by simp [h1, h2]), List.findIdx?_eq_some_iff_findIdx_eq.2 ⟨hi, h⟩]
  simp [hi]
theorem hen65 (args : Array Value) (w : World) : (callFunc 65 args).run Tryz.prog w = .ok (.enter 65 args) w := by kernel_rfl
theorem run_build_run (s c : Int) (w : World) : (Instr.build 36 #[(0, .int .i64 s), (1, .int .i64 c)]).run Tryz.prog w = .ok (.agg #[.int .i64 s, .int .i64 c]) w := by kernel_rfl
def TakePost (res : Rn × Bool) (w : World) (e : Ending) (w' : World) : Prop := ∃ v, e = .returned (.tuple #[.agg #[.int .i64 res.1.s, .int .i64 res.1.c], v, .bool res.2]) ∧ Below w.heap.size w w'
/-- Behind a callee that turns the first block of the list, which is let go. -/
theorem Sx.callee {S : List Nat} {w0 w w' : World} {g : Nat} {C : Array Value} {T : TypeId} {L : List Blk} {D : Dat} {F : List Nat} (h : Sx S w0 w ((g, C, T) :: L) D F) (k : St [g] w w' []) : Sx S w0 w' L D F where
  st := by
    refine ⟨k.os.trans h.st.os, k.tape.trans h.st.tape, k.output.trans h.st.output, Nat.le_trans h.st.size k.size, fun j hj hs => ?_, fun p hp => h.st.own p (by simp [hp]), (List.nodup_cons.1 h.st.nodup).2, fun p hp => ?_⟩
    · refine (k.kept j (Nat.lt_of_lt_of_le hj h.st.size) (fun hm => ?_)).trans (h.st.kept j hj hs)
      obtain rfl : j = g := by simpa using hm
      rcases h.st.own (j, C, T) (by simp) with h1 | h1
      · simp at h1; omega
      · exact hs h1
    · refine (k.kept p.1 (h.st.lt p (by simp [hp])) (fun hm => ?_)).trans (h.st.blk p (by simp [hp]))
      have e : p.1 = g := by simpa using hm
      exact (List.nodup_cons.1 h.st.nodup).1 (List.mem_map.2 ⟨p, hp, e⟩)
  data p hp := by
    obtain ⟨z, hz⟩ := h.data p hp
    exact ⟨z, (k.kept p.1 (lt_of_heap' hz) (fun hm => h.apart p hp (g, C, T) (by simp) (by simpa using hm))).trans hz⟩
  apart p hp q hq := h.apart p hp q (by simp [hq])
  flt x hx := Nat.lt_of_lt_of_le (h.flt x hx) k.size
  fL x hx q hq := h.fL x hx q (by simp [hq])
  fD := h.fD
  fS := h.fS
set_option maxHeartbeats 1000000 in
theorem rtake_calls {D : Dat} {p : Option Addr} {c : Nat} {l : List Rn} (h : RowAt D 36 2 rnL p c l) (n : Int) (hn : I64 n) (hwf : ∀ r ∈ l, r.Wf) (w : World) (hD : Holds D w) :
    Calls Tryz.prog 33 #[.slice p l.length c, .int .i64 n] w (TakePost (rTake l n) w) := by
  have hst := Sx.start0 w hD
  have HC := Lib.hid (rcheck_calls h)
  have HB := Lib.hid (fun h => rTake_bad (l := l) (n := n) h)
  have HN := Lib.hid (rTake_none (l := l) (n := n))
  have HA : Hid (∀ (i : Nat) (_ : ¬ n < 1) (_ : rCheck l = true) (hi : i < l.length) (_ : l.findIdx (fun r => decide (n ≤ r.c)) = i), rTake l n = (⟨l[i].s, n⟩, true)) := Lib.hid (fun i h1 h2 hi h => rTake_at h1 h2 hi h)
  have HW := Lib.hid hwf
  clear hwf
  generalize rTake l n = res at *
  go_enter Tryz.func33, Tryz.ntmps33
  go_wp2_with (first | (with_reducible first|refine x1 rfl rfl rfl hst ?_|refine xa rfl rfl rfl hst ?_|(refine xsa rfl rfl rfl rfl hst ?_;clear hst;intro w' hst)|(refine xbi rfl rfl hst rfl ?_;clear hst;intro bb w' hst)|(refine xnw rfl rfl hst ?_;clear hst;intro bn w' hst)) | (with_reducible (refine callB (HC.out _ hst.data) hst ?_; clear hst; intro w' hst)))
  · obtain rfl := HB.out (by simp_all)
    refine bodyPost_ret (results3 rfl (res_agg rfl hst.st.has) res_tmp res_tmp) rfl ⟨_, rfl, hst.end⟩
  rotate_left
  · obtain rfl := HB.out (by simp_all)
    refine bodyPost_ret (results3 rfl (res_agg rfl hst.st.has) res_tmp res_tmp) rfl ⟨_, rfl, hst.end⟩
  · have hok : 1 ≤ n ∧ rCheck l = true := by simp_all
    obtain ⟨hok1, hok2⟩ := hok
    have hbb := hst.st.has (g := bb)
    have HI := Lib.hid (first_calls h w' hst.data 65 #[.pointer (some ⟨bb, 0, none⟩)] (fun r => decide (n ≤ r.c)) hen65 (fun i hi w2 hb => take1_calls l[i] n bb w2 ((hb.block bb (lt_of_heap' hbb)).trans hbb)))
    have hle : l.findIdx (fun r => decide (n ≤ r.c)) ≤ l.length := List.findIdx_le_length
    generalize hq : l.findIdx (fun r => decide (n ≤ r.c)) = q at *
    have HQ := Lib.hid hq
    clear hq
    by_cases hql : q = l.length
    · subst hql
      obtain rfl := HN.out rfl
      go_wp2_with (first | (with_reducible first|refine xa rfl rfl rfl hst ?_|(refine xsa rfl rfl rfl rfl hst ?_;clear hst;intro w' hst)) | (with_reducible (refine callB HI.out hst ?_; clear hst; intro w' hst)))
      refine bodyPost_ret (results3 rfl (res_agg rfl hst.st.has) res_tmp res_tmp) rfl ⟨_, rfl, hst.end⟩
    · have hlt : q < l.length := by omega
      obtain rfl := HA.out q (by omega) hok2 hlt rfl
      have hne : ((q : Int) == (l.length : Int)) = false := by simp; omega
      obtain ⟨g, off, rfl⟩ := h.at_some hlt
      go_wp2_with (first | fail | (with_reducible (refine callB HI.out hst ?_; clear hst; intro w' hst)))
      have e0 : LdD D 3 ⟨g, off + q * 2, none⟩ (.int .i64 l[q].s) := h.ldf hlt 0 rfl rfl
      have e1 : LdD D 3 ⟨g, off + q * 2 + 1, none⟩ (.int .i64 l[q].c) := h.ldf hlt 1 rfl rfl
      refine Fx.go (fun i => i == 7) (fun i => !(i == 4 || i == 5)) (fun i => i == 7) (List.range 8) rfl hst (by kernel_rfl) (by kernel_rfl) (by kernel_rfl) (by kernel_rfl) (by kernel_rfl) ?_
      repeat (first|refine Fx.val rfl rfl rfl rfl (Fx.e_mv rfl rfl) ?_|refine Fx.fa rfl rfl rfl rfl rfl rfl ?_|refine Fx.l1 rfl rfl rfl rfl rfl rfl ?_|refine Fx.lD rfl rfl rfl rfl rfl rfl ?_|refine Fx.ix rfl rfl rfl rfl rfl rfl rfl (by omega) ?_)
      refine Fx.val rfl rfl rfl rfl (v := .agg #[.int .i64 l[q].s, .int .i64 n]) (fun w => by kernel_rfl) ?_
      repeat (refine Fx.stA rfl rfl rfl rfl rfl (Or.inl rfl) ?_)
      clear hst
      intro w' hst
      simp only [Fx.nxt_some, Fx.nxt_none, Fx.mkO_cons, Fx.mkO_nil, Fx.evO_eq]
      go_wp2_with fail
      refine (cloneRun_calls h _ hst.data).mono ?_
      rintro e w2 ⟨v, Lo, rfl, hown, hsL⟩
      have hs2 := hst.take hsL
      rcases hown with ⟨_, _, h0⟩ | ⟨g2, c2, C2, rfl, rfl, hc1, hc2, hc3, hc4⟩
      · rw [h0] at hlt; simp at hlt
      clear hst hsL
      have hst : Sx [] w w2 ((g2, C2, 36) :: (bn, #[.int .i64 l[q].s, .int .i64 n], 36) :: (bb, #[.int .i64 n], 3) :: []) D [] := hs2
      clear hs2
      have hqc : n ≤ l[q].c := by
        have := List.findIdx_getElem (xs := l) (p := fun r => decide (n ≤ r.c)) (w := by rw [HQ.out]; exact hlt)
        simp only [HQ.out] at this
        simpa using this
      have hqw := (HW.out l[q] (List.getElem_mem hlt)).2
      unfold I64 at hqw
      have HS := Lib.hid (own_set (enc := rnL) (by decide) hc4 hlt ⟨rEnd ⟨l[q].s, n⟩, l[q].c - n⟩)
      have HG := Lib.hid (fun j => wr_get (rnL ⟨rEnd ⟨l[q].s, n⟩, l[q].c - n⟩) C2 (q * 2) j (by simp; omega))
      have hW : WrAt C2 (q * 2) 2 (.agg #[.int .i64 (rEnd ⟨l[q].s, n⟩), .int .i64 (l[q].c - n)]) (wr C2 (q * 2) (rnL ⟨rEnd ⟨l[q].s, n⟩, l[q].c - n⟩)) := wrRow _ _ _ _ rfl (encRn.one ⟨rEnd ⟨l[q].s, n⟩, l[q].c - n⟩) (by omega)
      generalize hC3 : wr C2 (q * 2) (rnL ⟨rEnd ⟨l[q].s, n⟩, l[q].c - n⟩) = C3 at *
      have hc11 : CellAt C3 (q * 2 + 1) (.int .i64 (l[q].c - n)) := ⟨by rw [HG.out, if_pos ⟨by omega, by show q * 2 + 1 < q * 2 + 2; omega⟩, show q * 2 + 1 - q * 2 = 1 by omega]; rfl⟩
      have HS3 : Hid (C3.size = C2.size) := Lib.hid (by rw [← hC3, wr_size])
      clear hC3
      go_wp2_with fail
      refine Fx.go (fun i => i == 13) (fun i => !(i == 2 || i == 8 || i == 9)) (fun i => i == 13) (List.range 14) rfl hst (by kernel_rfl) (by kernel_rfl) (by kernel_rfl) (by kernel_rfl) (by kernel_rfl) ?_
      repeat (first|refine Fx.val rfl rfl rfl rfl (Fx.e_mv rfl rfl) ?_|refine Fx.lA rfl rfl rfl rfl rfl rfl ?_)
      refine Fx.call rfl rfl (end_calls ⟨l[q].s, n⟩) rfl rfl (fun w => by kernel_rfl) ?_
      repeat (first|refine Fx.val rfl rfl rfl rfl (Fx.e_mv rfl rfl) ?_|refine Fx.fa rfl rfl rfl rfl rfl rfl ?_|refine Fx.l1 rfl rfl rfl rfl rfl rfl ?_|refine Fx.lD rfl rfl rfl rfl rfl rfl ?_|refine Fx.ix rfl rfl rfl rfl rfl rfl rfl (by omega) ?_|refine Fx.val rfl rfl rfl rfl (Fx.e_sub rfl rfl rfl (by omega)) ?_)
      refine Fx.val rfl rfl rfl rfl (v := .agg #[.int .i64 (rEnd ⟨l[q].s, n⟩), .int .i64 (l[q].c - n)]) (fun w => by kernel_rfl) ?_
      repeat (first|refine Fx.ix rfl rfl rfl rfl rfl rfl rfl (by omega) ?_|refine Fx.stA rfl rfl rfl rfl rfl (Or.inl rfl) ?_)
      clear hst
      intro w' hst
      simp only [Fx.nxt_some, Fx.nxt_none, Fx.mkO_cons, Fx.mkO_nil, Fx.evO_eq]
      go_wp2_with (with_reducible first|refine x1 rfl rfl rfl hst ?_|refine xa rfl rfl rfl hst ?_|(refine xsa rfl rfl rfl rfl hst ?_;clear hst;intro w' hst))
      · have hw1 : wrap64 ((q : Int) + 1) = (q : Int) + 1 := by have := h.big; unfold wrap64; omega
        rw [hw1]
        have hst2 := hst.st.has (g := g2)
        have HD := delete_calls (l := l.set q ⟨rEnd ⟨l[q].s, n⟩, l[q].c - n⟩) w' hst2 (by simpa using hlt) (by simpa using hc1) (by simpa using h.big) (by rw [HS3.out]; exact hc3) (by rw [List.length_set]; exact HS.out)
        rw [List.length_set] at HD
        refine HD.mono ?_
        rintro e w5 ⟨⟨p5, m5, c5, rfl⟩, hs5⟩
        have hst := hst.callee hs5
        go_wp2_with (with_reducible first|refine xa rfl rfl rfl hst ?_|(refine xsa rfl rfl rfl rfl hst ?_;clear hst;intro w' hst))
        refine bodyPost_ret (results3 rfl (res_agg rfl hst.st.has) res_tmp res_tmp) rfl ⟨_, rfl, hst.end⟩
      · refine bodyPost_ret (results3 rfl (res_agg rfl hst.st.has) res_tmp res_tmp) rfl ⟨_, rfl, hst.end⟩
end Go.Proofs.YtigihgbgdillpaaGreatDoor
