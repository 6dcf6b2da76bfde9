/- What entries.Decode tells; lemmas for its walk. -/
import Derived.Test.YtgjgjhikimnknaaReadAll
import Derived.OwnWalk
set_option linter.unusedVariables false
set_option linter.unusedSimpArgs false
namespace Go.Proofs.Ytgjgjhikimnknaa
open Go.RowKit

def entK (k : Int) : Ent := { ent0 with kind := k, hash := zeros 32 }
instance (e : Ent) (k : Int) : WrAt (entC e) 0 39 (.agg #[.int .i64 k, .int .i64 0, .int .i64 0, .int .i64 0, .string { data := #[] }, .int .u8 0, .int .u8 0, .int .u8 0, .int .u8 0, .int .u8 0, .int .u8 0, .int .u8 0, .int .u8 0, .int .u8 0, .int .u8 0, .int .u8 0, .int .u8 0, .int .u8 0, .int .u8 0, .int .u8 0, .int .u8 0, .int .u8 0, .int .u8 0, .int .u8 0, .int .u8 0, .int .u8 0, .int .u8 0, .int .u8 0, .int .u8 0, .int .u8 0, .int .u8 0, .int .u8 0, .int .u8 0, .int .u8 0, .int .u8 0, .int .u8 0, .int .u8 0, .int .i64 0, .int .i64 0]) (entC (entK k)) := wr_row _ _ _ _ (entL (entK k)) rfl rfl (Nat.le_of_ble_eq_true rfl) (by kernel_rfl)
/-- One entry is read. -/
def entR (s : ByteArray) (a : Int) (bad : Bool) : Rd := (fieldsL (numN s a 1)).foldl (fieldR s) ⟨numA s a 1, bad || !numOk s a 1, entK (numN s a 1)⟩
def decL (s : ByteArray) : Nat → Int → Bool → Option (List Ent × Int × Bool)
  | 0, a, bad => some ([], a, bad)
  | n + 1, a, bad => if (entR s a bad).bad || !checkB (entR s a bad).e then none else (decL s n (entR s a bad).a (entR s a bad).bad).map fun r => ((entR s a bad).e :: r.1, r.2)
def decN (s : ByteArray) : Nat := (min (numN s 0 2) 201).toNat
/-- What Decode tells: none: an error. -/
def decF (s : ByteArray) : Option (List Ent) :=
  match decL s (decN s) (numA s 0 2) (!numOk s 0 2) with
  | none => none
  | some (l, a, bad) => if bad || (decide (200 < numN s 0 2) || decide (a < (s.size : Int))) then none else some l

theorem numN_range (s : ByteArray) (a b : Int) : 0 ≤ numN s a b ∧ numN s a b ≤ 9223372036854775807 := by
  unfold numN
  cases h : getF s a b with
  | none => simp
  | some x =>
    obtain ⟨n, y⟩ := x
    have := getF_le h
    simp only
    omega
theorem numN_i64 (s : ByteArray) (a b : Int) : I64 (numN s a b) := by have := numN_range s a b; unfold I64; omega
theorem textN_size (s : ByteArray) (a : Int) : (textN s a).size ≤ s.size := by
  unfold textN
  cases h : getTextF s a with
  | none => simp [size_mkS]
  | some x =>
    obtain ⟨l, y⟩ := x
    show (mkS l).size ≤ _
    rw [size_mkS]
    unfold getTextF at h
    split at h
    · split at h
      · injection h with h
        injection h with h1 h2
        rw [← h1]
        unfold sub
        rw [List.length_take, List.length_drop, ls_length]
        omega
      · cases h
    · cases h
theorem entK_wf (s : ByteArray) (a b : Int) : (entK (numN s a b)).Wf :=
  have h0 : I64 0 := by unfold I64; decide
  ⟨numN_i64 s a b, h0, h0, h0, Nat.zero_le _, rfl, h0, h0⟩
theorem fieldR_wf (s : ByteArray) (hs : s.size ≤ 140737488351232) (x : Rd) (f : Int) (h : x.e.Wf) : (fieldR s x f).e.Wf := by
  unfold fieldR
  split
  · exact { h with stream := numN_i64 _ _ _ }
  · split
    · exact { h with n := numN_i64 _ _ _ }
    · split
      · exact { h with name := Nat.le_trans (textN_size _ _) (by omega) }
      · exact { h with len := numN_i64 _ _ _, hash := hashN_length _ _, start := numN_i64 _ _ _, count := numN_i64 _ _ _ }
theorem foldR_wf (s : ByteArray) (hs : s.size ≤ 140737488351232) : ∀ (l : List Int) (x : Rd), x.e.Wf → (l.foldl (fieldR s) x).e.Wf
  | [], x, h => h
  | f :: l, x, h => foldR_wf s hs l _ (fieldR_wf s hs x f h)
theorem entR_wf (s : ByteArray) (hs : s.size ≤ 140737488351232) (a : Int) (bad : Bool) : (entR s a bad).e.Wf := foldR_wf s hs _ _ (entK_wf s a 1)

theorem ownsRow_St {w w' : World} {S : List Nat} {L : List Blk} {base size n : Nat} {e : TypeId} {v : Value} {xs : List Value} (h : w.ownsRow base e size v n xs) (k : St S w w' L) (hS : ∀ x ∈ S, x < base) : w'.ownsRow base e size v n xs := by
  obtain ⟨h1, h2⟩ := h
  refine ⟨h1, ?_⟩
  rcases h2 with h2 | ⟨g, cap, cur, hv, hg, hh, r⟩
  · exact Or.inl h2
  · exact Or.inr ⟨g, cap, cur, hv, hg, by rw [k.kept g (lt_of_heap' hh) (fun hm => by have := hS g hm; omega)]; exact hh, r⟩
theorem ownsRow_below {w w' : World} {base size n : Nat} {e : TypeId} {v : Value} {xs : List Value} (h : w.ownsRow base e size v n xs) (k : Below w.heap.size w w') : w'.ownsRow base e size v n xs := by
  obtain ⟨h1, h2⟩ := h
  refine ⟨h1, ?_⟩
  rcases h2 with h2 | ⟨g, cap, cur, hv, hg, hh, r⟩
  · exact Or.inl h2
  · exact Or.inr ⟨g, cap, cur, hv, hg, by rw [k.block g (lt_of_heap' hh)]; exact hh, r⟩
theorem run_bs1 (e : Ent) (w : World) : (Instr.buildSlice 22 1 #[(0, .agg (entL e).toArray)]).run Try.prog w = .ok (.slice (some ⟨w.heap.size, 0, none⟩) 1 1) (w.alloc (.cells (entC e) 27)) := by kernel_rfl
theorem infoEnt : (Try.prog.info? 27).map (fun i => (i.zero, i.size, i.bytes)) = some (some (.agg (entC ent0)), 39, 96) := by kernel_rfl
theorem entL_one (e : Ent) : ∀ u ∈ entL e, u.oneCell' = true := List.all_eq_true.1 (show (entL e).all (·.oneCell') = true from rfl)
section
variable {ops : Array Oper} {rest : List Oper} {o : Oper} {a : Act} {w : World} {Q : Exit → Act → World → Prop} {S : List Nat} {w0 : World} {L : List Blk}
theorem wpList_bs1 (hw : Region.wanted o (yielded ops a.tmps) = true) (x : Operand) (ho : o.op = .buildSlice 22 1 #[(0, x)]) (h : St S w0 w L) (e : Ent) (hx : a.eval x = .agg (entL e).toArray)
    (hk : ∀ (b : Nat) (w' : World), Below w.heap.size w w' → St S w0 w' ((b, entC e, 27) :: L) → wpList Try.prog ops Q rest (a.put o.dst (.slice (some ⟨b, 0, none⟩) 1 1)) w') : wpList Try.prog ops Q (o :: rest) a w :=
  BigFrame.wpList_want hw fun K hK => by
    have hm : (#[(0, x)].map fun p => (p.1, a.eval p.2)) = #[(0, .agg (entL e).toArray)] := by simp [hx]
    unfold Oper.wp execOp
    simp only [ho]
    rw [show ((#[(0, x)] : Array (Nat × Operand)).map fun (i, x) => (i, a.eval x)) = #[(0, .agg (entL e).toArray)] from hm]
    simp only [Sem.run_bind, run_bs1, Result.andThen_ok]
    exact hK _ _ (hk _ _ ((Below.refl _ _).alloc (Nat.le_refl _) _) (h.alloc (entC e) _))
end
theorem decL_step (s : ByteArray) (n : Nat) (a : Int) (bad : Bool) (h : ((entR s a bad).bad || !checkB (entR s a bad).e) = false) : decL s (n + 1) a bad = (decL s n (entR s a bad).a (entR s a bad).bad).map fun r => ((entR s a bad).e :: r.1, r.2) := by
  rw [decL, h]; rfl
theorem decL_stop (s : ByteArray) (n : Nat) (a : Int) (bad : Bool) (h : ((entR s a bad).bad || !checkB (entR s a bad).e) = true) : decL s (n + 1) a bad = none := by
  rw [decL, h]; rfl
end Go.Proofs.Ytgjgjhikimnknaa
