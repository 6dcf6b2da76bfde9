/- Go's == and != on arrays of 32 bytes tells whether their bytes are the same. -/
import Derived.Test.YtgjgjhikimnknaaHash
import Derived.ChangeKeysEq
import Derived.Laws.StructEq
set_option linter.unusedVariables false
set_option linter.unusedSimpArgs false
namespace Go.Proofs.Ytgjgjhikimnknaa
open Go.RowKit

theorem C5 : Try.prog.cellsOf 5 = 1 := by kernel_rfl
theorem A5 (w : World) : (isAgg 5).run Try.prog w = .ok false w := by kernel_rfl

theorem part_u8 (w : World) (h : List UInt8) (i : Nat) (hi : i < h.length) : (part 5 (arrC h) (i * 1)).run Try.prog w = .ok (.int .u8 (h[i].toNat : Int)) w := by
  simp [part, A5, arrC, u8s, hi]

theorem items_u8 (d : Nat) (h g : List UInt8) (w : World) : ∀ (is : List Nat), (∀ i ∈ is, i < h.length ∧ i < g.length) →
    (Op.eqItems (d + 1) 5 1 (arrC h) (arrC g) is).run Try.prog w = .ok (is.all fun i => h.getD i 0 == g.getD i 0) w
  | [], _ => by simp [Op.eqItems]
  | i :: is, hi => by
    obtain ⟨h1, h2⟩ := hi i (by simp)
    have ih := items_u8 d h g w is (fun j hj => hi j (by simp [hj]))
    have he := run_equalIn_int (P := Try.prog) w d 5 .u8 .u8 (h[i].toNat : Int) (g[i].toNat : Int) U5
    simp only [Op.eqItems, Sem.run_bind, part_u8 w h i h1, part_u8 w g i h2, Result.andThen_ok, he]
    by_cases hc : h[i] = g[i]
    · simp [hc, ih, h1, h2]
    · have : ¬ (h[i].toNat : Int) = (g[i].toNat : Int) := fun e => hc (UInt8.toNat_inj.mp (by omega))
      simp [hc, this, h1, h2]

theorem all_getD {h g : List UInt8} {n : Nat} (hh : h.length = n) (hg : g.length = n) : ((List.range n).all fun i => h.getD i 0 == g.getD i 0) = (h == g) := by
  rw [Bool.eq_iff_iff]
  simp only [List.all_eq_true, List.mem_range, beq_iff_eq]
  constructor
  · intro k
    apply List.ext_getElem (by omega)
    intro i h1 h2
    have := k i (by omega)
    simpa [h1, h2] using this
  · rintro rfl i _
    rfl

theorem equal_hash (d : Nat) (h g : List UInt8) (hh : h.length = 32) (hg : g.length = 32) (w : World) :
    (Op.equalIn (d + 2) 23 (arr h) (arr g)).run Try.prog w = .ok (h == g) w := by
  cases hi : Try.prog.info? 5 with
  | none => have := I5s; rw [hi] at this; simp at this
  | some i =>
    rw [arr_eq, arr_eq, run_equalIn_array (P := Try.prog) w (d + 1) (arrC h) (arrC g) U37 hi, C5]
    rw [items_u8 d h g w _ (fun j hj => by have := List.mem_range.1 hj; omega), all_getD hh hg]

theorem eql_hash (h g : List UInt8) (hh : h.length = 32) (hg : g.length = 32) (w : World) :
    (binOp .eql 23 (arr h) (arr g)).run Try.prog w = .ok (.bool (h == g)) w := by
  have := equal_hash 9998 h g hh hg w
  rw [arr_eq, arr_eq] at this ⊢
  rw [run_eql_struct, this]
  rfl
theorem neq_hash (h g : List UInt8) (hh : h.length = 32) (hg : g.length = 32) (w : World) :
    (binOp .neq 23 (arr h) (arr g)).run Try.prog w = .ok (.bool (h != g)) w := by
  have := equal_hash 9998 h g hh hg w
  rw [arr_eq, arr_eq] at this ⊢
  rw [run_neq_struct, this]
  rfl
theorem guard_hash (op : BinOp) (x y : Operand) (h g : List UInt8) (w : World) : (eqGuard op 23 x y (arr h) (arr g)).run Try.prog w = .ok () w := by
  rw [arr_eq, arr_eq]
  exact run_eqGuard_agg (P := Try.prog) w op 23 x y _ _ (by kernel_rfl)
end Go.Proofs.Ytgjgjhikimnknaa
