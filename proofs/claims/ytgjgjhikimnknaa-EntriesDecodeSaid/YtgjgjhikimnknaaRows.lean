/-
  No cell of these rows narrows 'for every input' (looked for: loops, veiled, ifaces, maps, wideKeys, modest, calm, conditions, laid).
  DERIVED. THE GIVEN ROWS OF THIS SEAT. 9 by the template 'for every input the law returns true; each argument reads behind the call as it read before'; 0 by the template 'total and deterministic' (their statements: YtgjgjhikimnknaaTotals.lean).
  GIVEN WITH THE SEED: the statements are not yours to turn. If you find one false, say at which input.
  Laid BY PROGRAM, IN A SANDBOX (cutbox-rows.mjs): the forced cells as the released guide's own fill.sh prints them over the translation 16cfcdf90af3934e… (all of the seat's roots in one cut). By AI agents, Wed Nov 11 2026. No macro, syntax, notation, axiom, sorry.
-/
import Derived.Test.YtgjgjhikimnknaaChecked
import GoSem.Claim
import GoSem.ClaimJoined
import GoSem.ClaimMapViews
import Derived.JoinedTies
import Derived.KernelRfl
namespace Go.Proofs.Ytgjgjhikimnknaa
/- THE CELL 'sum', in the pinned program and in every row, IS THE sha256 OF THE DUMP (.gsa) THAT YtgjgjhikimnknaaProg.lean LOADS. Nothing in Lean hashes anything: it is a label: what it is worth is what the hold of that sum in a sandbox is worth. -/
noncomputable def Try.pinned : Pinned := { name := "ytgjgjhikimnknaa", sum := "16cfcdf90af3934eb78ce82cc60bb50896781aeb08bb68976e7eabe51696ef5c", checked := Try.checked }
namespace Rows
def none {H : Type} : Left H := { results := [], args := [] }

/-- 'sealingwaxlaw15.EntriesEncode': WHATEVER THE INPUT: true; the input reads as it did. -/
def entriesEncodeSpec : ChangeSpec := { name := "entriesEncode", fn := fun _ => fun
  | [d] => { results := [.lit (.bool true)], args := [d] }
  | _ => none }
def entriesEncodeRow : OpenClaim := { program := "ytgjgjhikimnknaa", sum := "16cfcdf90af3934eb78ce82cc60bb50896781aeb08bb68976e7eabe51696ef5c", func := "sealingwax/sealingwaxlaw15.EntriesEncode", spec := "entriesEncode", inPlace := ["internal/abi.NoEscape"], unfollowed := true, recurses := true, apart := false }
def EntriesEncodeSaid : Prop := entriesEncodeRow.holds Try.pinned (OpenSpec.ofChange entriesEncodeSpec)

/-- ITS FALSE NEIGHBOUR: 'it returns false'. Refute it at one input. -/
def entriesEncodeWrong : ChangeSpec := { name := "entriesEncode", fn := fun _ => fun
  | [d] => { results := [.lit (.bool false)], args := [d] }
  | _ => none }
def EntriesEncodeWrongFalsely : Prop := entriesEncodeRow.holds Try.pinned (OpenSpec.ofChange entriesEncodeWrong)

/-- 'sealingwaxlaw15.EntriesDecode': WHATEVER THE INPUT: true; the input reads as it did. -/
def entriesDecodeSpec : ChangeSpec := { name := "entriesDecode", fn := fun _ => fun
  | [d] => { results := [.lit (.bool true)], args := [d] }
  | _ => none }
def entriesDecodeRow : OpenClaim := { program := "ytgjgjhikimnknaa", sum := "16cfcdf90af3934eb78ce82cc60bb50896781aeb08bb68976e7eabe51696ef5c", func := "sealingwax/sealingwaxlaw15.EntriesDecode", spec := "entriesDecode", inPlace := ["internal/abi.NoEscape"], unfollowed := true, recurses := true, apart := false }
def EntriesDecodeSaid : Prop := entriesDecodeRow.holds Try.pinned (OpenSpec.ofChange entriesDecodeSpec)

/-- ITS FALSE NEIGHBOUR: 'it returns false'. Refute it at one input. -/
def entriesDecodeWrong : ChangeSpec := { name := "entriesDecode", fn := fun _ => fun
  | [d] => { results := [.lit (.bool false)], args := [d] }
  | _ => none }
def EntriesDecodeWrongFalsely : Prop := entriesDecodeRow.holds Try.pinned (OpenSpec.ofChange entriesDecodeWrong)

/-- 'sealingwaxlaw15.EntriesBack': WHATEVER THE INPUT: true; the input reads as it did. -/
def entriesBackSpec : ChangeSpec := { name := "entriesBack", fn := fun _ => fun
  | [d1, d2] => { results := [.lit (.bool true)], args := [d1, d2] }
  | _ => none }
def entriesBackRow : OpenClaim := { program := "ytgjgjhikimnknaa", sum := "16cfcdf90af3934eb78ce82cc60bb50896781aeb08bb68976e7eabe51696ef5c", func := "sealingwax/sealingwaxlaw15.EntriesBack", spec := "entriesBack", inPlace := ["internal/abi.NoEscape"], unfollowed := true, recurses := true, apart := false }
def EntriesBackSaid : Prop := entriesBackRow.holds Try.pinned (OpenSpec.ofChange entriesBackSpec)

/-- ITS FALSE NEIGHBOUR: 'it returns false'. Refute it at one input. -/
def entriesBackWrong : ChangeSpec := { name := "entriesBack", fn := fun _ => fun
  | [d1, d2] => { results := [.lit (.bool false)], args := [d1, d2] }
  | _ => none }
def EntriesBackWrongFalsely : Prop := entriesBackRow.holds Try.pinned (OpenSpec.ofChange entriesBackWrong)

/-- 'sealingwaxlaw15.EntriesCut': WHATEVER THE INPUT: true; the input reads as it did. -/
def entriesCutSpec : ChangeSpec := { name := "entriesCut", fn := fun _ => fun
  | [d1, d2, d3] => { results := [.lit (.bool true)], args := [d1, d2, d3] }
  | _ => none }
def entriesCutRow : OpenClaim := { program := "ytgjgjhikimnknaa", sum := "16cfcdf90af3934eb78ce82cc60bb50896781aeb08bb68976e7eabe51696ef5c", func := "sealingwax/sealingwaxlaw15.EntriesCut", spec := "entriesCut", inPlace := ["internal/abi.NoEscape"], unfollowed := true, recurses := true, apart := false }
def EntriesCutSaid : Prop := entriesCutRow.holds Try.pinned (OpenSpec.ofChange entriesCutSpec)

/-- ITS FALSE NEIGHBOUR: 'it returns false'. Refute it at one input. -/
def entriesCutWrong : ChangeSpec := { name := "entriesCut", fn := fun _ => fun
  | [d1, d2, d3] => { results := [.lit (.bool false)], args := [d1, d2, d3] }
  | _ => none }
def EntriesCutWrongFalsely : Prop := entriesCutRow.holds Try.pinned (OpenSpec.ofChange entriesCutWrong)

/-- 'sealingwaxlaw15.EntriesParts': WHATEVER THE INPUT: true; the input reads as it did. -/
def entriesPartsSpec : ChangeSpec := { name := "entriesParts", fn := fun _ => fun
  | [d1, d2] => { results := [.lit (.bool true)], args := [d1, d2] }
  | _ => none }
def entriesPartsRow : OpenClaim := { program := "ytgjgjhikimnknaa", sum := "16cfcdf90af3934eb78ce82cc60bb50896781aeb08bb68976e7eabe51696ef5c", func := "sealingwax/sealingwaxlaw15.EntriesParts", spec := "entriesParts", inPlace := ["internal/abi.NoEscape"], unfollowed := true, recurses := true, apart := false }
def EntriesPartsSaid : Prop := entriesPartsRow.holds Try.pinned (OpenSpec.ofChange entriesPartsSpec)

/-- ITS FALSE NEIGHBOUR: 'it returns false'. Refute it at one input. -/
def entriesPartsWrong : ChangeSpec := { name := "entriesParts", fn := fun _ => fun
  | [d1, d2] => { results := [.lit (.bool false)], args := [d1, d2] }
  | _ => none }
def EntriesPartsWrongFalsely : Prop := entriesPartsRow.holds Try.pinned (OpenSpec.ofChange entriesPartsWrong)

/-- 'sealingwaxlaw15.EntriesLimits': WHATEVER THE INPUT: true; the input reads as it did. -/
def entriesLimitsSpec : ChangeSpec := { name := "entriesLimits", fn := fun _ => fun
  | [d] => { results := [.lit (.bool true)], args := [d] }
  | _ => none }
def entriesLimitsRow : OpenClaim := { program := "ytgjgjhikimnknaa", sum := "16cfcdf90af3934eb78ce82cc60bb50896781aeb08bb68976e7eabe51696ef5c", func := "sealingwax/sealingwaxlaw15.EntriesLimits", spec := "entriesLimits", inPlace := ["internal/abi.NoEscape"], unfollowed := true, recurses := true, apart := false }
def EntriesLimitsSaid : Prop := entriesLimitsRow.holds Try.pinned (OpenSpec.ofChange entriesLimitsSpec)

/-- ITS FALSE NEIGHBOUR: 'it returns false'. Refute it at one input. -/
def entriesLimitsWrong : ChangeSpec := { name := "entriesLimits", fn := fun _ => fun
  | [d] => { results := [.lit (.bool false)], args := [d] }
  | _ => none }
def EntriesLimitsWrongFalsely : Prop := entriesLimitsRow.holds Try.pinned (OpenSpec.ofChange entriesLimitsWrong)

/-- 'sealingwaxlaw15.EntriesEach': WHATEVER THE INPUT: true; the input reads as it did. -/
def entriesEachSpec : ChangeSpec := { name := "entriesEach", fn := fun _ => fun
  | [d1, d2] => { results := [.lit (.bool true)], args := [d1, d2] }
  | _ => none }
def entriesEachRow : OpenClaim := { program := "ytgjgjhikimnknaa", sum := "16cfcdf90af3934eb78ce82cc60bb50896781aeb08bb68976e7eabe51696ef5c", func := "sealingwax/sealingwaxlaw15.EntriesEach", spec := "entriesEach", inPlace := ["internal/abi.NoEscape"], unfollowed := true, recurses := true, apart := false }
def EntriesEachSaid : Prop := entriesEachRow.holds Try.pinned (OpenSpec.ofChange entriesEachSpec)

/-- ITS FALSE NEIGHBOUR: 'it returns false'. Refute it at one input. -/
def entriesEachWrong : ChangeSpec := { name := "entriesEach", fn := fun _ => fun
  | [d1, d2] => { results := [.lit (.bool false)], args := [d1, d2] }
  | _ => none }
def EntriesEachWrongFalsely : Prop := entriesEachRow.holds Try.pinned (OpenSpec.ofChange entriesEachWrong)

/-- 'sealingwaxlaw15.EntriesApart': WHATEVER THE INPUT: true; the input reads as it did. -/
def entriesApartSpec : ChangeSpec := { name := "entriesApart", fn := fun _ => fun
  | [d1, d2] => { results := [.lit (.bool true)], args := [d1, d2] }
  | _ => none }
def entriesApartRow : OpenClaim := { program := "ytgjgjhikimnknaa", sum := "16cfcdf90af3934eb78ce82cc60bb50896781aeb08bb68976e7eabe51696ef5c", func := "sealingwax/sealingwaxlaw15.EntriesApart", spec := "entriesApart", inPlace := ["internal/abi.NoEscape"], unfollowed := true, recurses := true, apart := false }
def EntriesApartSaid : Prop := entriesApartRow.holds Try.pinned (OpenSpec.ofChange entriesApartSpec)

/-- ITS FALSE NEIGHBOUR: 'it returns false'. Refute it at one input. -/
def entriesApartWrong : ChangeSpec := { name := "entriesApart", fn := fun _ => fun
  | [d1, d2] => { results := [.lit (.bool false)], args := [d1, d2] }
  | _ => none }
def EntriesApartWrongFalsely : Prop := entriesApartRow.holds Try.pinned (OpenSpec.ofChange entriesApartWrong)

/-- 'sealingwaxlaw15.EntriesBare': WHATEVER THE INPUT: true; the input reads as it did. -/
def entriesBareSpec : ChangeSpec := { name := "entriesBare", fn := fun _ => fun
  | [d1, d2, d3] => { results := [.lit (.bool true)], args := [d1, d2, d3] }
  | _ => none }
def entriesBareRow : OpenClaim := { program := "ytgjgjhikimnknaa", sum := "16cfcdf90af3934eb78ce82cc60bb50896781aeb08bb68976e7eabe51696ef5c", func := "sealingwax/sealingwaxlaw15.EntriesBare", spec := "entriesBare", inPlace := ["internal/abi.NoEscape"], unfollowed := true, recurses := true, apart := false }
def EntriesBareSaid : Prop := entriesBareRow.holds Try.pinned (OpenSpec.ofChange entriesBareSpec)

/-- ITS FALSE NEIGHBOUR: 'it returns false'. Refute it at one input. -/
def entriesBareWrong : ChangeSpec := { name := "entriesBare", fn := fun _ => fun
  | [d1, d2, d3] => { results := [.lit (.bool false)], args := [d1, d2, d3] }
  | _ => none }
def EntriesBareWrongFalsely : Prop := entriesBareRow.holds Try.pinned (OpenSpec.ofChange entriesBareWrong)

/- THE SECOND FORM. 'bulk': how many values and letters a reading holds, each counted each time it is reached (what is shared counts as often as it is met; a slice's spare places count too). A statement '..UptoSaid' is the law's where the arguments, and the package variables that the reading takes, are together of bulk at most 1048576: NARROWER than '..Said'. Prove '..Said' where nothing that the law and all that it calls make is longer than what came in: it says more and counts as full. Else prove '..UptoSaid'. A law counts once. -/
mutual
def uptoBulk {H : Type} : DataW H → Nat
  | .lit (.string bytes) => bytes.length + 1
  | .lit _ => 1
  | .nil => 1
  | .ptr d => uptoBulk d + 1
  | .slice elems spare => uptoBulkAll elems + uptoBulkAll spare + 1
  | .agg parts => uptoBulkAll parts + 1
  | .iface _ d => uptoBulk d + 1
  | .map entries => uptoBulkEntries entries + 1
  | .held _ => 1
def uptoBulkAll {H : Type} : List (DataW H) → Nat
  | [] => 0
  | d :: r => uptoBulk d + uptoBulkAll r
def uptoBulkEntries {H : Type} : List (Lit × DataW H) → Nat
  | [] => 0
  | x :: r => uptoBulkEntry x + uptoBulkEntries r
def uptoBulkEntry {H : Type} : Lit × DataW H → Nat
  | (.string bytes, d) => bytes.length + uptoBulk d + 1
  | (_, d) => uptoBulk d + 1
 end
def uptoSmall : (H : Type) → List (DataW H) → Bool := fun _ ds => decide (uptoBulkAll ds ≤ 1048576)
def OpenSpec.upto (s : _root_.Go.ChangeSpec) : _root_.Go.OpenSpec := { _root_.Go.OpenSpec.ofChange s with cond := some uptoSmall }

/-- 'sealingwaxlaw15.EntriesEncode', WHERE WHAT IT READS IS OF BULK AT MOST 1048576: true; the input reads as it did. -/
def entriesEncodeUptoRow : OpenClaim := { program := "ytgjgjhikimnknaa", sum := "16cfcdf90af3934eb78ce82cc60bb50896781aeb08bb68976e7eabe51696ef5c", func := "sealingwax/sealingwaxlaw15.EntriesEncode", spec := "entriesEncode", inPlace := ["internal/abi.NoEscape"], unfollowed := true, recurses := true, apart := false, narrowed := true }
def EntriesEncodeUptoSaid : Prop := entriesEncodeUptoRow.holds Try.pinned (OpenSpec.upto entriesEncodeSpec)

/-- 'sealingwaxlaw15.EntriesDecode', WHERE WHAT IT READS IS OF BULK AT MOST 1048576: true; the input reads as it did. -/
def entriesDecodeUptoRow : OpenClaim := { program := "ytgjgjhikimnknaa", sum := "16cfcdf90af3934eb78ce82cc60bb50896781aeb08bb68976e7eabe51696ef5c", func := "sealingwax/sealingwaxlaw15.EntriesDecode", spec := "entriesDecode", inPlace := ["internal/abi.NoEscape"], unfollowed := true, recurses := true, apart := false, narrowed := true }
def EntriesDecodeUptoSaid : Prop := entriesDecodeUptoRow.holds Try.pinned (OpenSpec.upto entriesDecodeSpec)

/-- 'sealingwaxlaw15.EntriesBack', WHERE WHAT IT READS IS OF BULK AT MOST 1048576: true; the input reads as it did. -/
def entriesBackUptoRow : OpenClaim := { program := "ytgjgjhikimnknaa", sum := "16cfcdf90af3934eb78ce82cc60bb50896781aeb08bb68976e7eabe51696ef5c", func := "sealingwax/sealingwaxlaw15.EntriesBack", spec := "entriesBack", inPlace := ["internal/abi.NoEscape"], unfollowed := true, recurses := true, apart := false, narrowed := true }
def EntriesBackUptoSaid : Prop := entriesBackUptoRow.holds Try.pinned (OpenSpec.upto entriesBackSpec)

/-- 'sealingwaxlaw15.EntriesCut', WHERE WHAT IT READS IS OF BULK AT MOST 1048576: true; the input reads as it did. -/
def entriesCutUptoRow : OpenClaim := { program := "ytgjgjhikimnknaa", sum := "16cfcdf90af3934eb78ce82cc60bb50896781aeb08bb68976e7eabe51696ef5c", func := "sealingwax/sealingwaxlaw15.EntriesCut", spec := "entriesCut", inPlace := ["internal/abi.NoEscape"], unfollowed := true, recurses := true, apart := false, narrowed := true }
def EntriesCutUptoSaid : Prop := entriesCutUptoRow.holds Try.pinned (OpenSpec.upto entriesCutSpec)

/-- 'sealingwaxlaw15.EntriesParts', WHERE WHAT IT READS IS OF BULK AT MOST 1048576: true; the input reads as it did. -/
def entriesPartsUptoRow : OpenClaim := { program := "ytgjgjhikimnknaa", sum := "16cfcdf90af3934eb78ce82cc60bb50896781aeb08bb68976e7eabe51696ef5c", func := "sealingwax/sealingwaxlaw15.EntriesParts", spec := "entriesParts", inPlace := ["internal/abi.NoEscape"], unfollowed := true, recurses := true, apart := false, narrowed := true }
def EntriesPartsUptoSaid : Prop := entriesPartsUptoRow.holds Try.pinned (OpenSpec.upto entriesPartsSpec)

/-- 'sealingwaxlaw15.EntriesLimits', WHERE WHAT IT READS IS OF BULK AT MOST 1048576: true; the input reads as it did. -/
def entriesLimitsUptoRow : OpenClaim := { program := "ytgjgjhikimnknaa", sum := "16cfcdf90af3934eb78ce82cc60bb50896781aeb08bb68976e7eabe51696ef5c", func := "sealingwax/sealingwaxlaw15.EntriesLimits", spec := "entriesLimits", inPlace := ["internal/abi.NoEscape"], unfollowed := true, recurses := true, apart := false, narrowed := true }
def EntriesLimitsUptoSaid : Prop := entriesLimitsUptoRow.holds Try.pinned (OpenSpec.upto entriesLimitsSpec)

/-- 'sealingwaxlaw15.EntriesEach', WHERE WHAT IT READS IS OF BULK AT MOST 1048576: true; the input reads as it did. -/
def entriesEachUptoRow : OpenClaim := { program := "ytgjgjhikimnknaa", sum := "16cfcdf90af3934eb78ce82cc60bb50896781aeb08bb68976e7eabe51696ef5c", func := "sealingwax/sealingwaxlaw15.EntriesEach", spec := "entriesEach", inPlace := ["internal/abi.NoEscape"], unfollowed := true, recurses := true, apart := false, narrowed := true }
def EntriesEachUptoSaid : Prop := entriesEachUptoRow.holds Try.pinned (OpenSpec.upto entriesEachSpec)

/-- 'sealingwaxlaw15.EntriesApart', WHERE WHAT IT READS IS OF BULK AT MOST 1048576: true; the input reads as it did. -/
def entriesApartUptoRow : OpenClaim := { program := "ytgjgjhikimnknaa", sum := "16cfcdf90af3934eb78ce82cc60bb50896781aeb08bb68976e7eabe51696ef5c", func := "sealingwax/sealingwaxlaw15.EntriesApart", spec := "entriesApart", inPlace := ["internal/abi.NoEscape"], unfollowed := true, recurses := true, apart := false, narrowed := true }
def EntriesApartUptoSaid : Prop := entriesApartUptoRow.holds Try.pinned (OpenSpec.upto entriesApartSpec)

/-- 'sealingwaxlaw15.EntriesBare', WHERE WHAT IT READS IS OF BULK AT MOST 1048576: true; the input reads as it did. -/
def entriesBareUptoRow : OpenClaim := { program := "ytgjgjhikimnknaa", sum := "16cfcdf90af3934eb78ce82cc60bb50896781aeb08bb68976e7eabe51696ef5c", func := "sealingwax/sealingwaxlaw15.EntriesBare", spec := "entriesBare", inPlace := ["internal/abi.NoEscape"], unfollowed := true, recurses := true, apart := false, narrowed := true }
def EntriesBareUptoSaid : Prop := entriesBareUptoRow.holds Try.pinned (OpenSpec.upto entriesBareSpec)

end Rows
end Go.Proofs.Ytgjgjhikimnknaa
