/- A region whose order is open, whose operations read, and whose callees may make memory: one walk in the order of the text, in any world that has at most new blocks. -/
import Derived.Test.YtgjgjhikimnknaaPut
import Derived.Deep.QuietTactic
import Derived.BigQuiet
set_option linter.unusedVariables false
namespace Go.Proofs.Ytgjgjhikimnknaa
open Go.RowKit

/-- The worlds that have at most new blocks. -/
def Ix (w : World) : Type := {x : World // Below w.heap.size w x}
instance ixNonempty (w : World) : Nonempty (Ix w) := ⟨⟨w, Below.refl _ _⟩⟩

theorem wp_region_below_lit {P : Program} {id : Nat} {Q : Exit → Act → World → Prop} {a : Act} {w : World} {l : List Oper} (hm : P.follows .mixedOrders = true) (hB : Region.lexB .any l.toArray = true)
    (h : wpQuiet P l.toArray (fun w' => ∃ n : Ix w, w' = n.1) (fun a' => ∀ w', (∃ n : Ix w, w' = n.1) → Q .normal a' w') l a) : (Code.region id l.toArray true).wp P Q a w :=
  wp_region_quiet (C := fun w' => ∃ n : Ix w, w' = n.1) hm hB ⟨⟨w.drew, (Below.refl _ _).drew⟩, rfl⟩ (by simpa using h)

/-- A callee's contract, met in such a world. -/
theorem Calls.below_of {P : Program} {f : FuncId} {args : Array Value} {w : World} {n : Ix w} {v : Value}
    (h : Calls P f args n.1 fun e w' => e = .returned v ∧ Below n.1.heap.size n.1 w') : Calls P f args n.1 fun e w'' => e = .returned v ∧ ∃ m : Ix w, w'' = m.1 :=
  h.mono fun _ w' ⟨he, hb⟩ => ⟨he, ⟨w', n.2.trans (hb.mono n.2.size)⟩, rfl⟩
theorem Calls.below_of_same {P : Program} {f : FuncId} {args : Array Value} {w : World} {n : Ix w} {v : Value}
    (h : Calls P f args n.1 fun e w' => e = .returned v ∧ n.1 = w') : Calls P f args n.1 fun e w'' => e = .returned v ∧ ∃ m : Ix w, w'' = m.1 :=
  h.mono fun _ w' ⟨he, hb⟩ => ⟨he, n, hb.symm⟩
end Go.Proofs.Ytgjgjhikimnknaa
