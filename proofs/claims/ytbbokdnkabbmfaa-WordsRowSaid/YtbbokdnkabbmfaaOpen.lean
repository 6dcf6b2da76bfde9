/- What the walks are told of arguments that are no numbers and no strings: a slice of strings, of numbers, of hashes; an array of bytes, of strings. -/
import Derived.Test.YtbbokdnkabbmfaaRows
import Derived.Test.YtbbokdnkabbmfaaShapes
import Derived.WalkKit
import Derived.ProofKit
import Derived.OpenShut
import Derived.ShutString
import Derived.ChangeOld
import Derived.Below
import Derived.SizedLaws
import Derived.SliceStrings
import Derived.Deep.Slices
set_option linter.unusedVariables false
namespace Go.Proofs.Ytbbokdnkabbmfaa
open Go.ChangeShapes Go.WideShapes Go.ChangeAt Go.RowKit

theorem open_T31 {H : Type} {enc : TypeId × Value → H} {W : World} {base j : Nat} {v : Value} {d : DataW H} {p : List MemPlace} {ts : List TypeId} {ds : List (DataW H)}
    (hsz : (DataW.weightsEach Try.prog ts ds).all (· ≤ reachBytes) = true) (ht : ts[j]? = some 31) (hd : ds[j]? = some d) (hv : Value.okWide Try.prog W .any base 31 v)
    (h : DataW.Trod enc Try.prog W 0 (fun _ => true) true 31 v d p) : ∃ ss, StrRow W v ss := by
  obtain ⟨a, len, cap, rfl⟩ := okWide_slice Try.underlying31 hv
  obtain ⟨fuel, hf⟩ := h
  rcases open_strings Try.underlying31 Try.underlying9 (by kernel_rfl) hf with ⟨hcs, _⟩ | ⟨x, l, c, ss, hcs, _, hl, hm, hz, _, hcell, hsz⟩
  · simp [Value.cells] at hcs
    obtain ⟨rfl, rfl, rfl⟩ := hcs
    exact ⟨[], none, 0, rfl, by simp, by simp, by simp⟩
  · simp [Value.cells] at hcs
    obtain ⟨rfl, rfl, rfl⟩ := hcs
    have hz' : ss.length = cap := by simpa using hz
    have hl' : (ss.take len).length = len := by simp; omega
    refine ⟨ss.take len, some x, cap, by rw [hl'], fun s hs => hsz s (List.mem_of_mem_take hs), by rw [hl']; omega, fun _ => ⟨x, rfl, fun i hi => ?_⟩⟩
    have hi' : i < ss.length := by simp at hi; omega
    rw [hcell i hi']
    simp [List.getD, hi']

theorem bytes_of_cells {cs : Array Value} {n : Nat} (hn : cs.size = n) (h : ∀ i, i < n → ∃ a : Int, cs[i]? = some (.int .u8 a) ∧ (Lit.int .u8 a).wf = true) : ∃ l : List UInt8, l.length = n ∧ cs = (u8s l).toArray := by
  let f : Value → UInt8 := fun v => match v with | .int _ a => UInt8.ofNat a.toNat | _ => 0
  refine ⟨cs.toList.map f, by simpa using hn, ?_⟩
  apply Array.ext'
  apply List.ext_getElem?
  intro i
  by_cases hi : i < n
  · obtain ⟨a, ha, hw⟩ := h i hi
    obtain ⟨h0, h1⟩ := bounds_u8 hw
    have e : (UInt8.ofNat a.toNat).toNat = a.toNat := by simp; omega
    have e2 : ((UInt8.ofNat a.toNat).toNat : Int) = a := by rw [e]; omega
    simp only [Array.getElem?_toList, ha, u8s, List.map_map, List.getElem?_map, Option.map_some, Function.comp, f, e2]
  · have h1 : cs.toList.length ≤ i := by simp; omega
    simp [u8s, List.getElem?_eq_none h1]

theorem open_T37 {H : Type} {enc : TypeId × Value → H} {W : World} {base j : Nat} {v : Value} {d : DataW H} {p : List MemPlace} {ts : List TypeId} {ds : List (DataW H)}
    (hsz : (DataW.weightsEach Try.prog ts ds).all (· ≤ reachBytes) = true) (ht : ts[j]? = some 37) (hd : ds[j]? = some d) (hv : Value.okWide Try.prog W .any base 37 v)
    (h : DataW.Trod enc Try.prog W 0 (fun _ => true) true 37 v d p) : ∃ l : List UInt8, v = .agg (u8s l).toArray ∧ l.length = 32 := by
  have hv' : ∃ cs, v = .agg cs ∧ cs.size = Try.prog.cellsOf 37 := by
    unfold Value.okWide at hv
    rw [Try.underlying37] at hv
    obtain ⟨cs, h1, h2, _⟩ := hv
    exact ⟨cs, h1, h2⟩
  obtain ⟨cs, rfl, hs⟩ := hv'
  have hc : Try.prog.cellsOf 37 = 32 := by kernel_rfl
  have hc5 : Try.prog.cellsOf 5 = 1 := by kernel_rfl
  rw [hc] at hs
  obtain ⟨fuel, hf⟩ := h
  obtain ⟨xs, m, _, _, _, hlen, hx⟩ := DataW.trod_array Try.underlying37 hf
  obtain ⟨l, hl, he⟩ := bytes_of_cells hs (fun i hi => by
    have h1 := hx i hi
    rw [hc5] at h1
    have hi' : i < cs.size := by omega
    have h2 : ((Value.cells (.agg cs)).toList.drop (i * 1)).take 1 = [cs[i]] := by
      simp only [Value.cells, Nat.mul_one]
      rw [List.drop_eq_getElem_cons (by simpa using hi')]
      simp
    rw [h2, List.getElem?_eq_getElem (by omega)] at h1
    obtain ⟨a, hv, hd, hw⟩ := DataW.trod_int Try.underlying5 h1
    exact ⟨a, by rw [Array.getElem?_eq_getElem hi']; simpa using hv, hw⟩)
  exact ⟨l, by rw [he], hl⟩

theorem open_T41 {H : Type} {enc : TypeId × Value → H} {W : World} {base j : Nat} {v : Value} {d : DataW H} {p : List MemPlace} {ts : List TypeId} {ds : List (DataW H)}
    (hsz : (DataW.weightsEach Try.prog ts ds).all (· ≤ reachBytes) = true) (ht : ts[j]? = some 41) (hd : ds[j]? = some d) (hv : Value.okWide Try.prog W .any base 41 v)
    (h : DataW.Trod enc Try.prog W 0 (fun _ => true) true 41 v d p) : ∃ l : ByteArray × ByteArray × ByteArray, v = arr3 l.1 l.2.1 l.2.2 ∧ l.1.size ≤ maxLen ∧ l.2.1.size ≤ maxLen ∧ l.2.2.size ≤ maxLen := by
  have hv' : ∃ cs, v = .agg cs ∧ cs.size = Try.prog.cellsOf 41 := by
    unfold Value.okWide at hv
    rw [Try.underlying41] at hv
    obtain ⟨cs, h1, h2, _⟩ := hv
    exact ⟨cs, h1, h2⟩
  obtain ⟨cs, rfl, hs⟩ := hv'
  have hc : Try.prog.cellsOf 41 = 3 := by kernel_rfl
  have hc9 : Try.prog.cellsOf 9 = 1 := by kernel_rfl
  rw [hc] at hs
  obtain ⟨fuel, hf⟩ := h
  obtain ⟨xs, m, _, _, _, hlen, hx⟩ := DataW.trod_array Try.underlying41 hf
  have each : ∀ i (hi : i < 3), ∃ s : ByteArray, cs[i]? = some (.string s) ∧ s.size ≤ maxLen := fun i hi => by
    have h1 := hx i hi
    rw [hc9] at h1
    have hi' : i < cs.size := by omega
    have h2 : ((Value.cells (.agg cs)).toList.drop (i * 1)).take 1 = [cs[i]] := by
      simp only [Value.cells, Nat.mul_one]
      rw [List.drop_eq_getElem_cons (by simpa using hi')]
      simp
    rw [h2, List.getElem?_eq_getElem (by omega)] at h1
    obtain ⟨s, hv, _, hw⟩ := DataW.trod_string Try.underlying9 h1
    exact ⟨s, by rw [Array.getElem?_eq_getElem hi']; simpa using hv, hw⟩
  obtain ⟨a, ha, wa⟩ := each 0 (by omega)
  obtain ⟨b, hb, wb⟩ := each 1 (by omega)
  obtain ⟨c, hc', wc⟩ := each 2 (by omega)
  refine ⟨(a, b, c), ?_, wa, wb, wc⟩
  have : cs = #[.string a, .string b, .string c] := by
    apply Array.ext
    · simpa using hs
    · intro i h1 h2
      rcases (by omega : i = 0 ∨ i = 1 ∨ i = 2) with rfl | rfl | rfl
      · rw [Array.getElem?_eq_getElem h1] at ha; simpa using ha
      · rw [Array.getElem?_eq_getElem h1] at hb; simpa using hb
      · rw [Array.getElem?_eq_getElem h1] at hc'; simpa using hc'
  rw [this]; rfl

theorem open_T45 {H : Type} {enc : TypeId × Value → H} {W : World} {base j : Nat} {v : Value} {d : DataW H} {p : List MemPlace} {ts : List TypeId} {ds : List (DataW H)}
    (hsz : (DataW.weightsEach Try.prog ts ds).all (· ≤ reachBytes) = true) (ht : ts[j]? = some 45) (hd : ds[j]? = some d) (hv : Value.okWide Try.prog W .any base 45 v)
    (h : DataW.Trod enc Try.prog W 0 (fun _ => true) true 45 v d p) : ∃ zs, U32Row W v zs := by
  obtain ⟨a, len, cap, rfl⟩ := okWide_slice Try.underlying45 hv
  obtain ⟨fuel, hf⟩ := h
  rcases open_ints Try.underlying45 Try.underlying47 (by kernel_rfl) hf with ⟨hcs, _⟩ | ⟨x, l, c, zs, hcs, _, hl, hm, hz, _, hcell, hwz⟩
  · simp [Value.cells] at hcs
    obtain ⟨rfl, rfl, rfl⟩ := hcs
    exact ⟨[], none, 0, rfl, by simp, by simp, by simp⟩
  · simp [Value.cells] at hcs
    obtain ⟨rfl, rfl, rfl⟩ := hcs
    have hz' : zs.length = cap := by simpa using hz
    have hl' : (zs.take len).length = len := by simp; omega
    refine ⟨(zs.take len).map Int.toNat, some x, cap, by rw [List.length_map, hl'], fun z hzm => ?_, by rw [List.length_map, hl']; omega, fun _ => ⟨x, rfl, fun i hi => ?_⟩⟩
    · obtain ⟨y, hy, rfl⟩ := List.mem_map.1 hzm
      have := bounds_u32 (hwz y (List.mem_of_mem_take hy))
      omega
    · have hi' : i < zs.length := by simp at hi; omega
      rw [hcell i hi']
      have hb := bounds_u32 (hwz zs[i] (List.getElem_mem hi'))
      simp [List.getD, hi']
      omega

theorem add_add (x : Addr) (a b : Nat) : (x.add a).add b = x.add (a + b) := by
  unfold Addr.add
  by_cases h1 : a = 0
  · subst h1
    by_cases h2 : b = 0
    · subst h2; rfl
    · rw [if_pos rfl, if_neg h2, if_neg (by omega), Nat.zero_add]
  · by_cases h2 : b = 0
    · subst h2
      rw [if_neg h1, if_pos rfl, if_neg (by omega)]
      rfl
    · rw [if_neg h1, if_neg h2, if_neg (by omega), Nat.add_assoc]

theorem hash_of_cells {H : Type} {enc : TypeId × Value → H} {W : World} {m : Nat} {cs : List Value} {x : DataW H × List MemPlace} (hl : cs.length = 32)
    (h : DataW.trod enc Try.prog W 0 (fun _ => true) true m 37 cs = some x) : ∃ l : List UInt8, l.length = 32 ∧ cs = u8s l := by
  have hc5 : Try.prog.cellsOf 5 = 1 := by kernel_rfl
  obtain ⟨xs, m', _, _, _, hlen, hx⟩ := DataW.trod_array Try.underlying37 h
  obtain ⟨l, h1, h2⟩ := bytes_of_cells (cs := cs.toArray) (by simpa using hl) (fun i hi => by
    have h1 := hx i hi
    rw [hc5] at h1
    have hi' : i < cs.length := by omega
    have h2 : (cs.drop (i * 1)).take 1 = [cs[i]] := by
      rw [Nat.mul_one, List.drop_eq_getElem_cons hi', List.take_succ_cons, List.take_zero]
    rw [h2, List.getElem?_eq_getElem (by omega)] at h1
    obtain ⟨a, hv, _, hw⟩ := DataW.trod_int Try.underlying5 h1
    exact ⟨a, by simp [hi']; simpa using hv, hw⟩)
  exact ⟨l, h1, by have := congrArg Array.toList h2; simpa using this⟩

theorem open_T46 {H : Type} {enc : TypeId × Value → H} {W : World} {base j : Nat} {v : Value} {d : DataW H} {p : List MemPlace} {ts : List TypeId} {ds : List (DataW H)}
    (hsz : (DataW.weightsEach Try.prog ts ds).all (· ≤ reachBytes) = true) (ht : ts[j]? = some 46) (hd : ds[j]? = some d) (hv : Value.okWide Try.prog W .any base 46 v)
    (h : DataW.Trod enc Try.prog W 0 (fun _ => true) true 46 v d p) : ∃ hs, HashRow W v hs := by
  have hc : Try.prog.cellsOf 37 = 32 := by kernel_rfl
  obtain ⟨a, len, cap, rfl⟩ := okWide_slice Try.underlying46 hv
  obtain ⟨fuel, hf⟩ := h
  rcases Deep.open_slice Try.underlying46 hf with ⟨hcs, _⟩ | ⟨x, l, c, m, n, D, Pl, hcs, _, hl, hm, hmm, _, hx⟩
  · simp [Value.cells] at hcs
    obtain ⟨rfl, rfl, rfl⟩ := hcs
    exact ⟨[], none, 0, rfl, by simp, by simp, by simp⟩
  · simp [Value.cells] at hcs
    obtain ⟨rfl, rfl, rfl⟩ := hcs
    have hm' : m = cap := by simpa using hmm
    subst hm'
    rw [hc] at hx
    have each : ∀ i, i < len → ∃ h : List UInt8, h.length = 32 ∧ ∀ j (hj : j < h.length), W.cell? (x.add (i * 32 + j)) = some (.int .u8 h[j].toNat) := fun i hi => by
      obtain ⟨cs', h1, h2⟩ := hx i (by omega)
      obtain ⟨_, hlen, hcell⟩ := World.cells?_some h1
      obtain ⟨l, hl32, rfl⟩ := hash_of_cells (by simpa using hlen) h2
      refine ⟨l, hl32, fun j hj => ?_⟩
      have h3 := hcell j (by omega)
      have e := add_add x (i * 32) j
      rw [e] at h3
      rw [h3]
      simp [u8s, hj]
    obtain ⟨F, hF⟩ := Deep.choose_lt (α := List UInt8) (p := fun i h => h.length = 32 ∧ ∀ j (hj : j < h.length), W.cell? (x.add (i * 32 + j)) = some (.int .u8 h[j].toNat)) each
    refine ⟨(List.range len).map F, some x, m, by simp, fun h hh => ?_, by simp; omega, fun _ => ⟨x, rfl, fun i hi j hj => ?_⟩⟩
    · obtain ⟨i, hi, rfl⟩ := List.mem_map.1 hh
      exact (hF i (by simpa using hi)).1
    · have hi' : i < len := by simpa using hi
      have := (hF i hi').2
      simp only [List.getElem_map, List.getElem_range] at hj ⊢
      exact this j hj
end Go.Proofs.Ytbbokdnkabbmfaa
