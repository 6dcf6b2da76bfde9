/- What the walks are told of arguments that are no numbers and no strings: a slice of strings, of numbers, of hashes; an array of bytes, of strings. -/
import Derived.Test.YtbbokdnkabbmfaaRows
import Derived.Test.YtbbokdnkabbmfaaShapes
import Derived.WalkKit
import Derived.ProofKit
import Derived.OpenShut
import Derived.ShutString
import Derived.ChangeOld
import Derived.Below
import Derived.SizedLaws
import Derived.SliceStrings
set_option linter.unusedVariables false
namespace Go.Proofs.Ytbbokdnkabbmfaa
open Go.ChangeShapes Go.WideShapes Go.ChangeAt Go.RowKit

theorem open_T31 {H : Type} {enc : TypeId × Value → H} {W : World} {base j : Nat} {v : Value} {d : DataW H} {p : List MemPlace} {ts : List TypeId} {ds : List (DataW H)}
    (hsz : (DataW.weightsEach Try.prog ts ds).all (· ≤ reachBytes) = true) (ht : ts[j]? = some 31) (hd : ds[j]? = some d) (hv : Value.okWide Try.prog W .any base 31 v)
    (h : DataW.Trod enc Try.prog W 0 (fun _ => true) true 31 v d p) : ∃ ss, StrRow W v ss := by
  obtain ⟨a, len, cap, rfl⟩ := okWide_slice Try.underlying31 hv
  obtain ⟨fuel, hf⟩ := h
  rcases open_strings Try.underlying31 Try.underlying9 (by kernel_rfl) hf with ⟨hcs, _⟩ | ⟨x, l, c, ss, hcs, _, hl, hm, hz, _, hcell, hsz⟩
  · simp [Value.cells] at hcs
    obtain ⟨rfl, rfl, rfl⟩ := hcs
    exact ⟨[], none, 0, rfl, by simp, by simp, by simp⟩
  · simp [Value.cells] at hcs
    obtain ⟨rfl, rfl, rfl⟩ := hcs
    have hz' : ss.length = cap := by simpa using hz
    have hl' : (ss.take len).length = len := by simp; omega
    refine ⟨ss.take len, some x, cap, by rw [hl'], fun s hs => hsz s (List.mem_of_mem_take hs), by rw [hl']; omega, fun _ => ⟨x, rfl, fun i hi => ?_⟩⟩
    have hi' : i < ss.length := by simp at hi; omega
    rw [hcell i hi']
    simp [List.getD, hi']
end Go.Proofs.Ytbbokdnkabbmfaa
