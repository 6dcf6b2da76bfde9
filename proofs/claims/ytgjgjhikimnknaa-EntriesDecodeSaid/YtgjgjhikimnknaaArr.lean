/- Rules for arrays in memory: a new array, a string's bytes copied into one. -/
import Derived.Test.YtgjgjhikimnknaaText
import Derived.RegionTactic
import Derived.Laws.Rows
import Derived.Laws.Tables
import Derived.Laws.CopyOwn
import Derived.StillTailTactics
set_option linter.unusedVariables false
set_option linter.unusedSimpArgs false
namespace Go.Proofs.Ytgjgjhikimnknaa
open Go.RowKit

/-- An array of bytes as a value. -/
def arr (h : List UInt8) : Value := .agg (u8s h).toArray
def arrC (h : List UInt8) : Array Value := (u8s h).toArray
theorem arr_eq (h : List UInt8) : arr h = .agg (arrC h) := rfl
theorem arrC_size (h : List UInt8) : (arrC h).size = h.length := by simp [arrC, u8s]
def zeros (n : Nat) : List UInt8 := List.replicate n 0

theorem u8s_one (l : List UInt8) : ∀ v ∈ u8s l, v.oneCell' = true := fun v hv => by
  obtain ⟨b, _, rfl⟩ := List.mem_map.1 hv
  rfl

section
variable {P : Program}
theorem wpList_alloc_row {ops : Array Oper} {rest : List Oper} {o : Oper} {a : Act} {w : World} {Q : Exit → Act → World → Prop} (hgd : o.guard = none) (T : TypeId) (ho : o.op = .alloc T)
    (zs : Array Value) (hz : ∀ w : World, (Instr.alloc T true (.tuple #[])).run P w = .ok (.pointer (some ⟨w.heap.size, 0, none⟩)) (w.alloc (.cells zs T)))
    (h : wpList P ops Q rest (a.put o.dst (.pointer (some ⟨w.heap.size, 0, none⟩))) (w.alloc (.cells zs T))) : wpList P ops Q (o :: rest) a w :=
  wpList_plain hgd fun _ hK => by
    unfold Oper.wp execOp
    simp only [ho, Sem.run_bind, hz, Result.andThen_ok]
    exact hK _ _ h

theorem run_copy_str (w : World) (dT sT ty elem : TypeId) (g dLen dCap : Nat) (s : ByteArray) (cur : Array Value) (t : TypeId)
    (hu : P.underlying dT = some (.slice elem)) (hsz : (P.info? elem).map (·.size) = some 1) (hg : w.heap[g]? = some (.cells cur t (0, 0)))
    (hc : cur.size = dLen) (hs : dLen ≤ s.size) :
    (Builtin.copy_ #[dT, sT] ty #[.slice (some ⟨g, 0, none⟩) dLen dCap, .string s]).run P w = .ok (goInt dLen) (w.setRow g (arrC ((ls s).take dLen))) := by
  have hn : Nat.min s.size dLen = dLen := Nat.min_eq_right hs
  have hcells : ((s.extract 0 dLen).data.map fun b => Value.int .u8 b.toNat) = arrC ((ls s).take dLen) := by
    apply Array.ext'
    simp [arrC, u8s, ls, ByteArray.data_extract, List.map_take]
  have hst := run_storeCells_from (P := P) g t (u8s ((ls s).take dLen)) 0 cur w hg (by simp [u8s, ls_length, hc]; omega) (u8s_one _)
  cases hq : P.info? elem with
  | none => simp [hq] at hsz
  | some i =>
    have hs1 : i.size = 1 := by simpa [hq] using hsz
    simp only [Builtin.copy_, List.getElem?_toArray, Sem.run_bind]
    simp [run_underlying hu, Builtin.lenOf, hn, sizeOf, typeInfo, hq, hs1, Builtin.firstCells, hcells]
    have he : List.take dLen (List.map (fun b => Value.int IntKind.u8 (b.toNat : Int)) s.data.toList) = u8s ((ls s).take dLen) := by simp [u8s, ls, List.map_take]
    rw [he, hst]
    simp [arrC]

theorem wpList_copy_str {ops : Array Oper} {rest : List Oper} {o : Oper} {a : Act} {w : World} {Q : Exit → Act → World → Prop} (hgd : o.guard = none) (d s : Operand) (dT sT : TypeId)
    (ho : o.op = .call { callee := .builtin .copy, args := #[d, s], argTypes := #[dT, sT] }) (elem : TypeId) (hu : P.underlying dT = some (.slice elem)) (hsz : (P.info? elem).map (·.size) = some 1)
    (g dLen dCap : Nat) (str : ByteArray) (hd : a.eval d = .slice (some ⟨g, 0, none⟩) dLen dCap) (hs : a.eval s = .string str)
    (cur : Array Value) (t : TypeId) (hg : w.heap[g]? = some (.cells cur t (0, 0))) (hc : cur.size = dLen) (hl : dLen ≤ str.size)
    (h : wpList P ops Q rest (a.put o.dst (goInt dLen)) (w.setRow g (arrC ((ls str).take dLen)))) : wpList P ops Q (o :: rest) a w := by
  refine wpList_plain hgd fun K hK => ?_
  have hrun := run_copy_str (P := P) w dT sT o.type elem g dLen dCap str cur t hu hsz hg hc hl
  unfold Oper.wp
  simp [execOp, ho, resolve, invoke, builtin, hd, hs, hrun, Result.andThen]
  exact hK _ _ h

theorem setRow_alloc (w : World) (A B : Array Value) (T : TypeId) (fr : Nat × Nat) : (w.alloc (.cells A T fr)).setRow w.heap.size B = w.alloc (.cells B T fr) := by
  unfold World.setRow World.alloc
  congr 1
  apply Array.ext
  · simp
  · intro k h1 h2
    simp only [Array.getElem_modify, Array.getElem_push]
    split
    · rename_i hk
      subst hk
      simp
    · rename_i hk
      have hlt : k < w.heap.size := by simp at h1; omega
      simp [hlt]
theorem alloc_at (w : World) (o : Obj) : (w.alloc o).heap[w.heap.size]? = some o := heap_alloc_new w o
end
end Go.Proofs.Ytgjgjhikimnknaa
