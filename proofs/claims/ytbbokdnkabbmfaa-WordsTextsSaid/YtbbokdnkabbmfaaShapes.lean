/- What the walks are told of arguments that are no numbers and no strings. -/
import Derived.Test.YtbbokdnkabbmfaaPut
set_option linter.unusedVariables false
namespace Go.Proofs.Ytbbokdnkabbmfaa
open Go.RowKit

/-- A slice of strings that was read: its cells hold them. -/
def StrRow (w : World) (v : Value) (ss : List ByteArray) : Prop :=
  ∃ a cap, v = .slice a ss.length cap ∧ (∀ s ∈ ss, s.size ≤ maxLen) ∧ ss.length ≤ maxLen ∧
    (ss ≠ [] → ∃ x, a = some x ∧ ∀ i (h : i < ss.length), w.cell? (x.add i) = some (.string ss[i]))
end Go.Proofs.Ytbbokdnkabbmfaa
