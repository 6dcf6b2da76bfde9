/- What the walks are told of arguments that are no numbers and no strings. -/
import Derived.Test.YtbbokdnkabbmfaaPut
set_option linter.unusedVariables false
namespace Go.Proofs.Ytbbokdnkabbmfaa
open Go.RowKit

/-- A slice of strings that was read: its cells hold them. -/
def StrRow (w : World) (v : Value) (ss : List ByteArray) : Prop :=
  ∃ a cap, v = .slice a ss.length cap ∧ (∀ s ∈ ss, s.size ≤ maxLen) ∧ ss.length ≤ maxLen ∧
    (ss ≠ [] → ∃ x, a = some x ∧ ∀ i (h : i < ss.length), w.cell? (x.add i) = some (.string ss[i]))

/-- An array of three strings. -/
def arr3 (a b c : ByteArray) : Value := .agg #[.string a, .string b, .string c]

/-- A slice of numbers of four bytes that was read. -/
def U32Row (w : World) (v : Value) (zs : List Nat) : Prop :=
  ∃ a cap, v = .slice a zs.length cap ∧ (∀ z ∈ zs, z < 4294967296) ∧ zs.length ≤ maxLen ∧
    (zs ≠ [] → ∃ x, a = some x ∧ ∀ i (h : i < zs.length), w.cell? (x.add i) = some (.int .u32 zs[i]))

/-- A slice of hashes that was read. -/
def HashRow (w : World) (v : Value) (hs : List (List UInt8)) : Prop :=
  ∃ a cap, v = .slice a hs.length cap ∧ (∀ h ∈ hs, h.length = 32) ∧ hs.length ≤ maxLen ∧
    (hs ≠ [] → ∃ x, a = some x ∧ ∀ i (h : i < hs.length) j (hj : j < hs[i].length), w.cell? (x.add (i * 32 + j)) = some (.int .u8 hs[i][j].toNat))
end Go.Proofs.Ytbbokdnkabbmfaa
