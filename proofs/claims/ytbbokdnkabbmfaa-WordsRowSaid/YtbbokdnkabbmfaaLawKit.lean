/- Small lemmas for the laws' walks: chains of Below, values told by name. -/
import Derived.Test.YtbbokdnkabbmfaaRefGet
import Derived.Test.YtbbokdnkabbmfaaRefHash
import Derived.Test.YtbbokdnkabbmfaaEqHash
import Derived.Test.YtbbokdnkabbmfaaDoes01
import Derived.OpenShut
set_option linter.unusedVariables false
set_option linter.unusedSimpArgs false
namespace Go.Proofs.Ytbbokdnkabbmfaa
open Go.RowKit

/-- One more step: what is below the first world stays. -/
theorem bel {w0 w w' : World} (h : Below w0.heap.size w0 w) (h' : Below w.heap.size w w') : Below w0.heap.size w0 w' := h.trans (h'.mono h.size)

theorem getV_form (o : Option (Nat × Int)) : ∃ n nx ok, getV o = .tuple #[.int .i64 n, .int .i64 nx, .bool ok] := by
  unfold getV; split <;> exact ⟨_, _, _, rfl⟩
theorem getTextV_form (o : Option (List UInt8 × Int)) : ∃ t nx ok, getTextV o = .tuple #[.string t, .int .i64 nx, .bool ok] := by
  unfold getTextV; split <;> exact ⟨_, _, _, rfl⟩
theorem putTextV_form (o : Option (List UInt8)) : ∃ t e, putTextV o = .tuple #[.string t, .int .i64 e] := by
  unfold putTextV; split <;> exact ⟨_, _, rfl⟩
theorem getHashV_form (s : ByteArray) (a : Int) : ∃ h nx ok, h.length = 32 ∧ getHashV s a = .tuple #[arr h, .int .i64 nx, .bool ok] := by
  unfold getHashV; split
  · rename_i h
    simp [thereB] at h
    obtain ⟨a, rfl⟩ := Int.eq_ofNat_of_zero_le h.1
    exact ⟨_, _, _, sub_length s a 32 (by omega), rfl⟩
  · exact ⟨_, _, _, zeros_length 32, rfl⟩

/-- The load of an array, whatever guards it, if the guard says yes. -/
theorem wpList_load_hash_w {ops : Array Oper} {rest : List Oper} {o : Oper} {a : Act} {w : World} {Q : Exit → Act → World → Prop} (hw : Region.wanted o (yielded ops a.tmps) = true) (x : Operand) (ho : o.op = .load 37 x)
    (g : Nat) (hx : a.eval x = .pointer (some ⟨g, 0, none⟩)) (h : List UInt8) (hl : h.length = 32) (t : TypeId) (hg : w.heap[g]? = some (.cells (arrC h) t (0, 0)))
    (hk : wpList Try.prog ops Q rest (a.put o.dst (arr h)) w) : wpList Try.prog ops Q (o :: rest) a w :=
  BigFrame.wpList_want hw fun _ hK => wp_load_row 37 x ho g hx t (arrC h) (0, 0) _ hg U37 rfl (by rw [arrC_size, hl]; exact I37) (hK _ _ hk)
theorem block_kept {w w' : World} {A B : Obj} (h : Below (w.alloc A).heap.size (w.alloc A) w') : (w'.alloc B).heap[w.heap.size]? = some A := by
  have hs := h.size
  have h0 : (w.alloc A).heap.size = w.heap.size + 1 := by simp
  rw [Below.heap_alloc _ _ _ (by omega), h.block _ (by omega), heap_alloc_new]
theorem bel_alloc {w0 w : World} {o : Obj} (h : Below w0.heap.size w0 w) : Below w0.heap.size w0 (w.alloc o) := h.alloc h.size o
theorem bel_refl (w : World) : Below w.heap.size w w := Below.refl _ _
end Go.Proofs.Ytbbokdnkabbmfaa
