/- What the walks are told of arguments that are no numbers and no strings: a slice of entries, an array of bytes. -/
import Derived.Test.YtgjgjhikimnknaaRows
import Derived.Test.YtgjgjhikimnknaaEncode
import Derived.WalkKit
import Derived.ProofKit
import Derived.OpenShut
import Derived.ShutString
import Derived.ChangeOld
import Derived.Below
import Derived.SizedLaws
import Derived.Deep.Slices
set_option linter.unusedVariables false
namespace Go.Proofs.Ytgjgjhikimnknaa
open Go.ChangeShapes Go.WideShapes Go.ChangeAt Go.RowKit

theorem bytes_of_cells {cs : Array Value} {n : Nat} (hn : cs.size = n) (h : ∀ i, i < n → ∃ a : Int, cs[i]? = some (.int .u8 a) ∧ (Lit.int .u8 a).wf = true) : ∃ l : List UInt8, l.length = n ∧ cs = (u8s l).toArray := by
  let f : Value → UInt8 := fun v => match v with | .int _ a => UInt8.ofNat a.toNat | _ => 0
  refine ⟨cs.toList.map f, by simpa using hn, ?_⟩
  apply Array.ext'
  apply List.ext_getElem?
  intro i
  by_cases hi : i < n
  · obtain ⟨a, ha, hw⟩ := h i hi
    obtain ⟨h0, h1⟩ := bounds_u8 hw
    have e : (UInt8.ofNat a.toNat).toNat = a.toNat := by simp; omega
    have e2 : ((UInt8.ofNat a.toNat).toNat : Int) = a := by rw [e]; omega
    simp only [Array.getElem?_toList, ha, u8s, List.map_map, List.getElem?_map, Option.map_some, Function.comp, f, e2]
  · have h1 : cs.toList.length ≤ i := by simp; omega
    simp [u8s, List.getElem?_eq_none h1]
theorem bytes_of_trod {H : Type} {enc : TypeId × Value → H} {W : World} {m k : Nat} {t : TypeId} {cs : List Value} {x : DataW H × List MemPlace} (ht : Try.prog.underlying t = some (.array k 5)) (hl : cs.length = k)
    (h : DataW.trod enc Try.prog W 0 (fun _ => true) true m t cs = some x) : ∃ l : List UInt8, l.length = k ∧ cs = u8s l := by
  have hc5 : Try.prog.cellsOf 5 = 1 := by kernel_rfl
  obtain ⟨xs, m', _, _, _, hlen, hx⟩ := DataW.trod_array ht h
  obtain ⟨l, h1, h2⟩ := bytes_of_cells (cs := cs.toArray) (n := k) (by simpa using hl) (fun i hi => by
    have h1 := hx i hi
    rw [hc5] at h1
    have hi' : i < cs.length := by omega
    have h2 : (cs.drop (i * 1)).take 1 = [cs[i]] := by
      rw [Nat.mul_one, List.drop_eq_getElem_cons hi', List.take_succ_cons, List.take_zero]
    rw [h2, List.getElem?_eq_getElem (by omega)] at h1
    obtain ⟨a, hv, _, hw⟩ := DataW.trod_int Try.underlying5 h1
    exact ⟨a, by simp [hi']; simpa using hv, hw⟩)
  exact ⟨l, h1, by have := congrArg Array.toList h2; simpa using this⟩
theorem open_arr {H : Type} {enc : TypeId × Value → H} {W : World} {base j k : Nat} {t : TypeId} {v : Value} {d : DataW H} {p : List MemPlace} (ht : Try.prog.underlying t = some (.array k 5)) (hk : Try.prog.cellsOf t = k)
    (hv : Value.okWide Try.prog W .any base t v) (h : DataW.Trod enc Try.prog W 0 (fun _ => true) true t v d p) : ∃ l : List UInt8, v = .agg (u8s l).toArray ∧ l.length = k := by
  have hv' : ∃ cs, v = .agg cs ∧ cs.size = Try.prog.cellsOf t := by
    unfold Value.okWide at hv
    rw [ht] at hv
    obtain ⟨cs, h1, h2, _⟩ := hv
    exact ⟨cs, h1, h2⟩
  obtain ⟨cs, rfl, hs⟩ := hv'
  rw [hk] at hs
  obtain ⟨fuel, hf⟩ := h
  obtain ⟨l, h1, h2⟩ := bytes_of_trod ht (by simpa [Value.cells] using hs) hf
  exact ⟨l, by rw [← h2]; simp [Value.cells], h1⟩
theorem open_T23 {H : Type} {enc : TypeId × Value → H} {W : World} {base j : Nat} {v : Value} {d : DataW H} {p : List MemPlace} {ts : List TypeId} {ds : List (DataW H)}
    (hsz : (DataW.weightsEach Try.prog ts ds).all (· ≤ reachBytes) = true) (ht : ts[j]? = some 23) (hd : ds[j]? = some d) (hv : Value.okWide Try.prog W .any base 23 v)
    (h : DataW.Trod enc Try.prog W 0 (fun _ => true) true 23 v d p) : ∃ l : List UInt8, v = .agg (u8s l).toArray ∧ l.length = 32 := open_arr (j := j) Try.underlying23 (by kernel_rfl) hv h
theorem open_T44 {H : Type} {enc : TypeId × Value → H} {W : World} {base j : Nat} {v : Value} {d : DataW H} {p : List MemPlace} {ts : List TypeId} {ds : List (DataW H)}
    (hsz : (DataW.weightsEach Try.prog ts ds).all (· ≤ reachBytes) = true) (ht : ts[j]? = some 44) (hd : ds[j]? = some d) (hv : Value.okWide Try.prog W .any base 44 v)
    (h : DataW.Trod enc Try.prog W 0 (fun _ => true) true 44 v d p) : ∃ l : List UInt8, v = .agg (u8s l).toArray ∧ l.length = 3 := open_arr (j := j) Try.underlying44 (by kernel_rfl) hv h

section
variable {H : Type} {enc : TypeId × Value → H} {W : World} {m : Nat} {t : TypeId} {cs : List Value} {x : DataW H × List MemPlace}
theorem trod_field {fs : Array Field} (ht : Try.prog.underlying t = some (.struct fs)) (h : DataW.trod enc Try.prog W 0 (fun _ => true) true m t cs = some x) (i : Nat) (ty : TypeId) (off n : Nat) (hf : (fs[i]?).map (fun f => (f.type, f.offset)) = some (ty, off)) (hn : Try.prog.cellsOf ty = n) :
    ∃ m' y, DataW.trod enc Try.prog W 0 (fun _ => true) true m' ty ((cs.drop off).take n) = some y := by
  obtain ⟨xs, m', _, _, _, hlen, hx⟩ := DataW.trod_struct ht h
  cases hq : fs[i]? with
  | none => rw [hq] at hf; cases hf
  | some f =>
    rw [hq] at hf
    simp only [Option.map_some, Option.some.injEq, Prod.mk.injEq] at hf
    obtain ⟨rfl, rfl⟩ := hf
    have h1 := hx i f hq
    rw [hn] at h1
    have hi : i < xs.length := by rw [hlen]; exact (Array.getElem?_eq_some_iff.1 hq).1
    rw [List.getElem?_eq_getElem hi] at h1
    exact ⟨m', _, h1⟩
theorem i64_of {n : Int} (h : (Lit.int .i64 n).wf = true) : I64 n := by
  simp [Lit.wf, IntKind.min, IntKind.max, IntKind.signed, IntKind.bits] at h
  unfold I64
  omega
theorem field_int {fs : Array Field} (ht : Try.prog.underlying t = some (.struct fs)) (h : DataW.trod enc Try.prog W 0 (fun _ => true) true m t cs = some x) (i off : Nat) (hf : (fs[i]?).map (fun f => (f.type, f.offset)) = some (3, off)) :
    ∃ n : Int, (cs.drop off).take 1 = [.int .i64 n] ∧ I64 n := by
  obtain ⟨m', y, hy⟩ := trod_field ht h i _ off 1 hf (by kernel_rfl)
  obtain ⟨n, h1, _, h2⟩ := DataW.trod_int Try.underlying3 hy
  exact ⟨n, h1, i64_of h2⟩
theorem chop (cs : List Value) (i n : Nat) : cs.drop i = (cs.drop i).take n ++ cs.drop (i + n) := by
  rw [← List.drop_drop, List.take_append_drop]
theorem ent_of_cells (hl : cs.length = 39) (h : DataW.trod enc Try.prog W 0 (fun _ => true) true m 27 cs = some x) : ∃ e : Ent, e.Wf ∧ cs = entL e := by
  obtain ⟨k, hk, wk⟩ := field_int underEnt h 0 0 (by kernel_rfl)
  obtain ⟨s, hs, ws⟩ := field_int underEnt h 1 1 (by kernel_rfl)
  obtain ⟨n, hn, wn⟩ := field_int underEnt h 2 2 (by kernel_rfl)
  obtain ⟨l, hl', wl⟩ := field_int underEnt h 3 3 (by kernel_rfl)
  obtain ⟨_, _, h4⟩ := trod_field underEnt h 4 9 4 1 (by kernel_rfl) (by kernel_rfl)
  obtain ⟨nm, h4, _, wnm⟩ := DataW.trod_string Try.underlying9 h4
  obtain ⟨_, _, h5⟩ := trod_field underEnt h 5 23 5 32 (by kernel_rfl) (by kernel_rfl)
  obtain ⟨hb, wh, h5⟩ := bytes_of_trod Try.underlying23 (by simp; omega) h5
  obtain ⟨_, _, h6⟩ := trod_field underEnt h 6 25 37 2 (by kernel_rfl) (by kernel_rfl)
  obtain ⟨st, hst, wst⟩ := field_int underRun h6 0 0 (by kernel_rfl)
  obtain ⟨c, hc, wc⟩ := field_int underRun h6 1 1 (by kernel_rfl)
  refine ⟨⟨k, s, n, l, nm, hb, st, c⟩, ⟨wk, ws, wn, wl, wnm, wh, wst, wc⟩, ?_⟩
  have hr : (cs.drop 37).take 2 = [.int .i64 st, .int .i64 c] := by
    have e := chop ((cs.drop 37).take 2) 0 1
    have e2 := chop ((cs.drop 37).take 2) 1 1
    have e0 : (cs.drop 37).take 2 = ((cs.drop 37).take 2).drop 0 := rfl
    rw [e0, e, hst, show 0 + 1 = 1 from rfl, e2, hc, List.drop_eq_nil_of_le (by simp; omega)]
    rfl
  have e0 := chop cs 0 1
  have e1 := chop cs 1 1
  have e2 := chop cs 2 1
  have e3 := chop cs 3 1
  have e4 := chop cs 4 1
  have e5 := chop cs 5 32
  have e6 := chop cs 37 2
  have e7 : cs.drop 39 = [] := List.drop_eq_nil_of_le (by omega)
  conv => lhs; rw [← List.drop_zero (l := cs)]
  rw [e0, hk, show 0 + 1 = 1 from rfl, e1, hs, show 1 + 1 = 2 from rfl, e2, hn, show 2 + 1 = 3 from rfl, e3, hl', show 3 + 1 = 4 from rfl, e4, h4, show 4 + 1 = 5 from rfl, e5, h5, show 5 + 32 = 37 from rfl, e6, hr, show 37 + 2 = 39 from rfl, e7]
  simp [entL, hashL_eq hb wh]
end
instance : Inhabited Ent := ⟨ent0⟩
theorem open_T22 {H : Type} {enc : TypeId × Value → H} {W : World} {base j : Nat} {v : Value} {d : DataW H} {p : List MemPlace} {ts : List TypeId} {ds : List (DataW H)}
    (hsz : (DataW.weightsEach Try.prog ts ds).all (· ≤ reachBytes) = true) (ht : ts[j]? = some 22) (hd : ds[j]? = some d) (hv : Value.okWide Try.prog W .any base 22 v)
    (h : DataW.Trod enc Try.prog W 0 (fun _ => true) true 22 v d p) : ∃ l, EntRow W v l := by
  have hc : Try.prog.cellsOf 27 = 39 := by kernel_rfl
  obtain ⟨a, len, cap, rfl⟩ := okWide_slice Try.underlying22 hv
  obtain ⟨fuel, hf⟩ := h
  rcases Deep.open_slice Try.underlying22 hf with ⟨hcs, _⟩ | ⟨x, l, c, m, n, D, Pl, hcs, _, hl, hm, hmm, _, hx⟩
  · simp [Value.cells] at hcs
    obtain ⟨rfl, rfl, rfl⟩ := hcs
    exact ⟨[], none, 0, rfl, by simp, by simp, by simp⟩
  · simp [Value.cells] at hcs
    obtain ⟨rfl, rfl, rfl⟩ := hcs
    have hm' : m = cap := by simpa using hmm
    subst hm'
    rw [hc] at hx
    have each : ∀ i, i < len → ∃ e : Ent, e.Wf ∧ ∀ j (hj : j < 39), W.cell? (x.add (i * 39 + j)) = (entC e)[j]? := fun i hi => by
      obtain ⟨cs', h1, h2⟩ := hx i (by omega)
      obtain ⟨_, hlen, hcell⟩ := World.cells?_some h1
      obtain ⟨e, we, rfl⟩ := ent_of_cells (by simpa using hlen) h2
      refine ⟨e, we, fun j hj => ?_⟩
      have h3 := hcell j (by omega)
      have e' := add_add2 x (i * 39) j
      rw [e'] at h3
      rw [h3]
      simp [entC]
    obtain ⟨F, hF⟩ := Deep.choose_lt (α := Ent) (p := fun i e => e.Wf ∧ ∀ j (hj : j < 39), W.cell? (x.add (i * 39 + j)) = (entC e)[j]?) each
    refine ⟨(List.range len).map F, some x, m, by simp, fun e he => ?_, by simp; omega, fun _ => ⟨x, rfl, fun i hi j hj => ?_⟩⟩
    · obtain ⟨i, hi, rfl⟩ := List.mem_map.1 he
      exact (hF i (by simpa using hi)).1
    · have hi' : i < len := by simpa using hi
      have := (hF i hi').2
      simp only [List.getElem_map, List.getElem_range]
      exact this j hj
end Go.Proofs.Ytgjgjhikimnknaa
