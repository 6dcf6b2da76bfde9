/-
  No cell of these rows narrows 'for every input' (looked for: loops, veiled, ifaces, maps, wideKeys, modest, calm, conditions, laid).
  DERIVED. THE GIVEN ROWS OF THIS SEAT. 9 by the template 'for every input the law returns true; each argument reads behind the call as it read before'; 0 by the template 'total and deterministic' (their statements: YtbbokdnkabbmfaaTotals.lean).
  GIVEN WITH THE SEED: the statements are not yours to turn. If you find one false, say at which input.
  Laid BY PROGRAM, IN A SANDBOX (cutbox-rows.mjs): the forced cells as the released guide's own fill.sh prints them over the translation d71b8e3b94072ac9… (all of the seat's roots in one cut). By AI agents, Wed Nov 11 2026. No macro, syntax, notation, axiom, sorry.
-/
import Derived.Test.YtbbokdnkabbmfaaChecked
import GoSem.Claim
import GoSem.ClaimJoined
import GoSem.ClaimMapViews
import Derived.JoinedTies
import Derived.KernelRfl
namespace Go.Proofs.Ytbbokdnkabbmfaa
/- THE CELL 'sum', in the pinned program and in every row, IS THE sha256 OF THE DUMP (.gsa) THAT YtbbokdnkabbmfaaProg.lean LOADS. Nothing in Lean hashes anything: it is a label: what it is worth is what the hold of that sum in a sandbox is worth. -/
noncomputable def Try.pinned : Pinned := { name := "ytbbokdnkabbmfaa", sum := "d71b8e3b94072ac946b31ed3c44b39ce86614fbfeb3832c445b950b58bae80e4", checked := Try.checked }
namespace Rows
def none {H : Type} : Left H := { results := [], args := [] }

/-- 'sealingwaxlaw01.WordsPut': WHATEVER THE INPUT: true; the input reads as it did. -/
def wordsPutSpec : ChangeSpec := { name := "wordsPut", fn := fun _ => fun
  | [d1, d2, d3] => { results := [.lit (.bool true)], args := [d1, d2, d3] }
  | _ => none }
def wordsPutRow : OpenClaim := { program := "ytbbokdnkabbmfaa", sum := "d71b8e3b94072ac946b31ed3c44b39ce86614fbfeb3832c445b950b58bae80e4", func := "sealingwax/sealingwaxlaw01.WordsPut", spec := "wordsPut", apart := false }
def WordsPutSaid : Prop := wordsPutRow.holds Try.pinned (OpenSpec.ofChange wordsPutSpec)

/-- ITS FALSE NEIGHBOUR: 'it returns false'. Refute it at one input. -/
def wordsPutWrong : ChangeSpec := { name := "wordsPut", fn := fun _ => fun
  | [d1, d2, d3] => { results := [.lit (.bool false)], args := [d1, d2, d3] }
  | _ => none }
def WordsPutWrongFalsely : Prop := wordsPutRow.holds Try.pinned (OpenSpec.ofChange wordsPutWrong)

/-- 'sealingwaxlaw01.WordsFit': WHATEVER THE INPUT: true; the input reads as it did. -/
def wordsFitSpec : ChangeSpec := { name := "wordsFit", fn := fun _ => fun
  | [d1, d2, d3] => { results := [.lit (.bool true)], args := [d1, d2, d3] }
  | _ => none }
def wordsFitRow : OpenClaim := { program := "ytbbokdnkabbmfaa", sum := "d71b8e3b94072ac946b31ed3c44b39ce86614fbfeb3832c445b950b58bae80e4", func := "sealingwax/sealingwaxlaw01.WordsFit", spec := "wordsFit", apart := false }
def WordsFitSaid : Prop := wordsFitRow.holds Try.pinned (OpenSpec.ofChange wordsFitSpec)

/-- ITS FALSE NEIGHBOUR: 'it returns false'. Refute it at one input. -/
def wordsFitWrong : ChangeSpec := { name := "wordsFit", fn := fun _ => fun
  | [d1, d2, d3] => { results := [.lit (.bool false)], args := [d1, d2, d3] }
  | _ => none }
def WordsFitWrongFalsely : Prop := wordsFitRow.holds Try.pinned (OpenSpec.ofChange wordsFitWrong)

/-- 'sealingwaxlaw01.WordsLong': WHATEVER THE INPUT: true; the input reads as it did. -/
def wordsLongSpec : ChangeSpec := { name := "wordsLong", fn := fun _ => fun
  | [d] => { results := [.lit (.bool true)], args := [d] }
  | _ => none }
def wordsLongRow : OpenClaim := { program := "ytbbokdnkabbmfaa", sum := "d71b8e3b94072ac946b31ed3c44b39ce86614fbfeb3832c445b950b58bae80e4", func := "sealingwax/sealingwaxlaw01.WordsLong", spec := "wordsLong", apart := false }
def WordsLongSaid : Prop := wordsLongRow.holds Try.pinned (OpenSpec.ofChange wordsLongSpec)

/-- ITS FALSE NEIGHBOUR: 'it returns false'. Refute it at one input. -/
def wordsLongWrong : ChangeSpec := { name := "wordsLong", fn := fun _ => fun
  | [d] => { results := [.lit (.bool false)], args := [d] }
  | _ => none }
def WordsLongWrongFalsely : Prop := wordsLongRow.holds Try.pinned (OpenSpec.ofChange wordsLongWrong)

/-- 'sealingwaxlaw01.WordsTexts': WHATEVER THE INPUT: true; the input reads as it did. -/
def wordsTextsSpec : ChangeSpec := { name := "wordsTexts", fn := fun _ => fun
  | [d] => { results := [.lit (.bool true)], args := [d] }
  | _ => none }
def wordsTextsRow : OpenClaim := { program := "ytbbokdnkabbmfaa", sum := "d71b8e3b94072ac946b31ed3c44b39ce86614fbfeb3832c445b950b58bae80e4", func := "sealingwax/sealingwaxlaw01.WordsTexts", spec := "wordsTexts", apart := false }
def WordsTextsSaid : Prop := wordsTextsRow.holds Try.pinned (OpenSpec.ofChange wordsTextsSpec)

/-- ITS FALSE NEIGHBOUR: 'it returns false'. Refute it at one input. -/
def wordsTextsWrong : ChangeSpec := { name := "wordsTexts", fn := fun _ => fun
  | [d] => { results := [.lit (.bool false)], args := [d] }
  | _ => none }
def WordsTextsWrongFalsely : Prop := wordsTextsRow.holds Try.pinned (OpenSpec.ofChange wordsTextsWrong)

/-- 'sealingwaxlaw01.WordsGet': WHATEVER THE INPUT: true; the input reads as it did. -/
def wordsGetSpec : ChangeSpec := { name := "wordsGet", fn := fun _ => fun
  | [d1, d2, d3] => { results := [.lit (.bool true)], args := [d1, d2, d3] }
  | _ => none }
def wordsGetRow : OpenClaim := { program := "ytbbokdnkabbmfaa", sum := "d71b8e3b94072ac946b31ed3c44b39ce86614fbfeb3832c445b950b58bae80e4", func := "sealingwax/sealingwaxlaw01.WordsGet", spec := "wordsGet", apart := false }
def WordsGetSaid : Prop := wordsGetRow.holds Try.pinned (OpenSpec.ofChange wordsGetSpec)

/-- ITS FALSE NEIGHBOUR: 'it returns false'. Refute it at one input. -/
def wordsGetWrong : ChangeSpec := { name := "wordsGet", fn := fun _ => fun
  | [d1, d2, d3] => { results := [.lit (.bool false)], args := [d1, d2, d3] }
  | _ => none }
def WordsGetWrongFalsely : Prop := wordsGetRow.holds Try.pinned (OpenSpec.ofChange wordsGetWrong)

/-- 'sealingwaxlaw01.WordsBack': WHATEVER THE INPUT: true; the input reads as it did. -/
def wordsBackSpec : ChangeSpec := { name := "wordsBack", fn := fun _ => fun
  | [d1, d2, d3] => { results := [.lit (.bool true)], args := [d1, d2, d3] }
  | _ => none }
def wordsBackRow : OpenClaim := { program := "ytbbokdnkabbmfaa", sum := "d71b8e3b94072ac946b31ed3c44b39ce86614fbfeb3832c445b950b58bae80e4", func := "sealingwax/sealingwaxlaw01.WordsBack", spec := "wordsBack", apart := false }
def WordsBackSaid : Prop := wordsBackRow.holds Try.pinned (OpenSpec.ofChange wordsBackSpec)

/-- ITS FALSE NEIGHBOUR: 'it returns false'. Refute it at one input. -/
def wordsBackWrong : ChangeSpec := { name := "wordsBack", fn := fun _ => fun
  | [d1, d2, d3] => { results := [.lit (.bool false)], args := [d1, d2, d3] }
  | _ => none }
def WordsBackWrongFalsely : Prop := wordsBackRow.holds Try.pinned (OpenSpec.ofChange wordsBackWrong)

/-- 'sealingwaxlaw01.WordsWay': WHATEVER THE INPUT: true; the input reads as it did. -/
def wordsWaySpec : ChangeSpec := { name := "wordsWay", fn := fun _ => fun
  | [d1, d2, d3] => { results := [.lit (.bool true)], args := [d1, d2, d3] }
  | _ => none }
def wordsWayRow : OpenClaim := { program := "ytbbokdnkabbmfaa", sum := "d71b8e3b94072ac946b31ed3c44b39ce86614fbfeb3832c445b950b58bae80e4", func := "sealingwax/sealingwaxlaw01.WordsWay", spec := "wordsWay", apart := false }
def WordsWaySaid : Prop := wordsWayRow.holds Try.pinned (OpenSpec.ofChange wordsWaySpec)

/-- ITS FALSE NEIGHBOUR: 'it returns false'. Refute it at one input. -/
def wordsWayWrong : ChangeSpec := { name := "wordsWay", fn := fun _ => fun
  | [d1, d2, d3] => { results := [.lit (.bool false)], args := [d1, d2, d3] }
  | _ => none }
def WordsWayWrongFalsely : Prop := wordsWayRow.holds Try.pinned (OpenSpec.ofChange wordsWayWrong)

/-- 'sealingwaxlaw01.WordsCut': WHATEVER THE INPUT: true; the input reads as it did. -/
def wordsCutSpec : ChangeSpec := { name := "wordsCut", fn := fun _ => fun
  | [d1, d2, d3] => { results := [.lit (.bool true)], args := [d1, d2, d3] }
  | _ => none }
def wordsCutRow : OpenClaim := { program := "ytbbokdnkabbmfaa", sum := "d71b8e3b94072ac946b31ed3c44b39ce86614fbfeb3832c445b950b58bae80e4", func := "sealingwax/sealingwaxlaw01.WordsCut", spec := "wordsCut", apart := false }
def WordsCutSaid : Prop := wordsCutRow.holds Try.pinned (OpenSpec.ofChange wordsCutSpec)

/-- ITS FALSE NEIGHBOUR: 'it returns false'. Refute it at one input. -/
def wordsCutWrong : ChangeSpec := { name := "wordsCut", fn := fun _ => fun
  | [d1, d2, d3] => { results := [.lit (.bool false)], args := [d1, d2, d3] }
  | _ => none }
def WordsCutWrongFalsely : Prop := wordsCutRow.holds Try.pinned (OpenSpec.ofChange wordsCutWrong)

/-- 'sealingwaxlaw01.WordsRow': WHATEVER THE INPUT: true; the input reads as it did. -/
def wordsRowSpec : ChangeSpec := { name := "wordsRow", fn := fun _ => fun
  | [d1, d2] => { results := [.lit (.bool true)], args := [d1, d2] }
  | _ => none }
def wordsRowRow : OpenClaim := { program := "ytbbokdnkabbmfaa", sum := "d71b8e3b94072ac946b31ed3c44b39ce86614fbfeb3832c445b950b58bae80e4", func := "sealingwax/sealingwaxlaw01.WordsRow", spec := "wordsRow", apart := false }
def WordsRowSaid : Prop := wordsRowRow.holds Try.pinned (OpenSpec.ofChange wordsRowSpec)

/-- ITS FALSE NEIGHBOUR: 'it returns false'. Refute it at one input. -/
def wordsRowWrong : ChangeSpec := { name := "wordsRow", fn := fun _ => fun
  | [d1, d2] => { results := [.lit (.bool false)], args := [d1, d2] }
  | _ => none }
def WordsRowWrongFalsely : Prop := wordsRowRow.holds Try.pinned (OpenSpec.ofChange wordsRowWrong)

/- THE SECOND FORM. 'bulk': how many values and letters a reading holds, each counted each time it is reached (what is shared counts as often as it is met; a slice's spare places count too). A statement '..UptoSaid' is the law's where the arguments, and the package variables that the reading takes, are together of bulk at most 1048576: NARROWER than '..Said'. Prove '..Said' where nothing that the law and all that it calls make is longer than what came in: it says more and counts as full. Else prove '..UptoSaid'. A law counts once. -/
mutual
def uptoBulk {H : Type} : DataW H → Nat
  | .lit (.string bytes) => bytes.length + 1
  | .lit _ => 1
  | .nil => 1
  | .ptr d => uptoBulk d + 1
  | .slice elems spare => uptoBulkAll elems + uptoBulkAll spare + 1
  | .agg parts => uptoBulkAll parts + 1
  | .iface _ d => uptoBulk d + 1
  | .map entries => uptoBulkEntries entries + 1
  | .held _ => 1
def uptoBulkAll {H : Type} : List (DataW H) → Nat
  | [] => 0
  | d :: r => uptoBulk d + uptoBulkAll r
def uptoBulkEntries {H : Type} : List (Lit × DataW H) → Nat
  | [] => 0
  | x :: r => uptoBulkEntry x + uptoBulkEntries r
def uptoBulkEntry {H : Type} : Lit × DataW H → Nat
  | (.string bytes, d) => bytes.length + uptoBulk d + 1
  | (_, d) => uptoBulk d + 1
 end
def uptoSmall : (H : Type) → List (DataW H) → Bool := fun _ ds => decide (uptoBulkAll ds ≤ 1048576)
def OpenSpec.upto (s : _root_.Go.ChangeSpec) : _root_.Go.OpenSpec := { _root_.Go.OpenSpec.ofChange s with cond := some uptoSmall }

/-- 'sealingwaxlaw01.WordsPut', WHERE WHAT IT READS IS OF BULK AT MOST 1048576: true; the input reads as it did. -/
def wordsPutUptoRow : OpenClaim := { program := "ytbbokdnkabbmfaa", sum := "d71b8e3b94072ac946b31ed3c44b39ce86614fbfeb3832c445b950b58bae80e4", func := "sealingwax/sealingwaxlaw01.WordsPut", spec := "wordsPut", apart := false, narrowed := true }
def WordsPutUptoSaid : Prop := wordsPutUptoRow.holds Try.pinned (OpenSpec.upto wordsPutSpec)

/-- 'sealingwaxlaw01.WordsFit', WHERE WHAT IT READS IS OF BULK AT MOST 1048576: true; the input reads as it did. -/
def wordsFitUptoRow : OpenClaim := { program := "ytbbokdnkabbmfaa", sum := "d71b8e3b94072ac946b31ed3c44b39ce86614fbfeb3832c445b950b58bae80e4", func := "sealingwax/sealingwaxlaw01.WordsFit", spec := "wordsFit", apart := false, narrowed := true }
def WordsFitUptoSaid : Prop := wordsFitUptoRow.holds Try.pinned (OpenSpec.upto wordsFitSpec)

/-- 'sealingwaxlaw01.WordsLong', WHERE WHAT IT READS IS OF BULK AT MOST 1048576: true; the input reads as it did. -/
def wordsLongUptoRow : OpenClaim := { program := "ytbbokdnkabbmfaa", sum := "d71b8e3b94072ac946b31ed3c44b39ce86614fbfeb3832c445b950b58bae80e4", func := "sealingwax/sealingwaxlaw01.WordsLong", spec := "wordsLong", apart := false, narrowed := true }
def WordsLongUptoSaid : Prop := wordsLongUptoRow.holds Try.pinned (OpenSpec.upto wordsLongSpec)

/-- 'sealingwaxlaw01.WordsTexts', WHERE WHAT IT READS IS OF BULK AT MOST 1048576: true; the input reads as it did. -/
def wordsTextsUptoRow : OpenClaim := { program := "ytbbokdnkabbmfaa", sum := "d71b8e3b94072ac946b31ed3c44b39ce86614fbfeb3832c445b950b58bae80e4", func := "sealingwax/sealingwaxlaw01.WordsTexts", spec := "wordsTexts", apart := false, narrowed := true }
def WordsTextsUptoSaid : Prop := wordsTextsUptoRow.holds Try.pinned (OpenSpec.upto wordsTextsSpec)

/-- 'sealingwaxlaw01.WordsGet', WHERE WHAT IT READS IS OF BULK AT MOST 1048576: true; the input reads as it did. -/
def wordsGetUptoRow : OpenClaim := { program := "ytbbokdnkabbmfaa", sum := "d71b8e3b94072ac946b31ed3c44b39ce86614fbfeb3832c445b950b58bae80e4", func := "sealingwax/sealingwaxlaw01.WordsGet", spec := "wordsGet", apart := false, narrowed := true }
def WordsGetUptoSaid : Prop := wordsGetUptoRow.holds Try.pinned (OpenSpec.upto wordsGetSpec)

/-- 'sealingwaxlaw01.WordsBack', WHERE WHAT IT READS IS OF BULK AT MOST 1048576: true; the input reads as it did. -/
def wordsBackUptoRow : OpenClaim := { program := "ytbbokdnkabbmfaa", sum := "d71b8e3b94072ac946b31ed3c44b39ce86614fbfeb3832c445b950b58bae80e4", func := "sealingwax/sealingwaxlaw01.WordsBack", spec := "wordsBack", apart := false, narrowed := true }
def WordsBackUptoSaid : Prop := wordsBackUptoRow.holds Try.pinned (OpenSpec.upto wordsBackSpec)

/-- 'sealingwaxlaw01.WordsWay', WHERE WHAT IT READS IS OF BULK AT MOST 1048576: true; the input reads as it did. -/
def wordsWayUptoRow : OpenClaim := { program := "ytbbokdnkabbmfaa", sum := "d71b8e3b94072ac946b31ed3c44b39ce86614fbfeb3832c445b950b58bae80e4", func := "sealingwax/sealingwaxlaw01.WordsWay", spec := "wordsWay", apart := false, narrowed := true }
def WordsWayUptoSaid : Prop := wordsWayUptoRow.holds Try.pinned (OpenSpec.upto wordsWaySpec)

/-- 'sealingwaxlaw01.WordsCut', WHERE WHAT IT READS IS OF BULK AT MOST 1048576: true; the input reads as it did. -/
def wordsCutUptoRow : OpenClaim := { program := "ytbbokdnkabbmfaa", sum := "d71b8e3b94072ac946b31ed3c44b39ce86614fbfeb3832c445b950b58bae80e4", func := "sealingwax/sealingwaxlaw01.WordsCut", spec := "wordsCut", apart := false, narrowed := true }
def WordsCutUptoSaid : Prop := wordsCutUptoRow.holds Try.pinned (OpenSpec.upto wordsCutSpec)

/-- 'sealingwaxlaw01.WordsRow', WHERE WHAT IT READS IS OF BULK AT MOST 1048576: true; the input reads as it did. -/
def wordsRowUptoRow : OpenClaim := { program := "ytbbokdnkabbmfaa", sum := "d71b8e3b94072ac946b31ed3c44b39ce86614fbfeb3832c445b950b58bae80e4", func := "sealingwax/sealingwaxlaw01.WordsRow", spec := "wordsRow", apart := false, narrowed := true }
def WordsRowUptoSaid : Prop := wordsRowUptoRow.holds Try.pinned (OpenSpec.upto wordsRowSpec)

end Rows
end Go.Proofs.Ytbbokdnkabbmfaa
