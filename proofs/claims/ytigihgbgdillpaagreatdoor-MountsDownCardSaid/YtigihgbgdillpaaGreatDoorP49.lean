/- What the cells of arguments say: numbers, texts, arrays of bytes, entries, what is put; rows of them · What the listed variables hold, as the walks ask it · MountsDown: a device that is down is neither loaded, nor mounted, nor formatted: for every input that can be read the call returns true, and the argument reads behind it as it read before; the three tables of sums and sha are tied to the program's text. -/
import Derived.Test.YtigihgbgdillpaaGreatDoorRows
import Derived.WalkKit
import Derived.ProofKit
import Derived.OpenShut
import Derived.ShutString
import Derived.ChangeOld
import Derived.Below
import Derived.SizedLaws
import Derived.Deep.Slices
import Derived.Lib.LaidTab
import Derived.Stop.LaidErr
import Derived.MakeChecks
import Derived.Test.YtigihgbgdillpaaGreatDoorTie
import Derived.Test.YtigihgbgdillpaaGreatDoorCards
import Derived.LaidMore
import Derived.Lay
import Derived.SevenTiedAt
import Derived.Stop.Joined
import Derived.Test.YtigihgbgdillpaaGreatDoorP48
set_option linter.unusedVariables false
set_option maxRecDepth 100000
namespace Go.Proofs.YtigihgbgdillpaaGreatDoor
open Go.ChangeShapes Go.WideShapes Go.ChangeAt Go.RowKit

theorem bytes_of_cells {cs : Array Value} {n : Nat} (hn : cs.size = n) (h : ∀ i, i < n → ∃ a : Int, cs[i]? = some (.int .u8 a) ∧ (Lit.int .u8 a).wf = true) : ∃ l : List UInt8, l.length = n ∧ cs = (u8s l).toArray := by
  let f : Value → UInt8 := fun v => match v with | .int _ a => UInt8.ofNat a.toNat | _ => 0
  refine ⟨cs.toList.map f, by simpa using hn, ?_⟩
  apply Array.ext'
  apply List.ext_getElem?
  intro i
  by_cases hi : i < n
  · obtain ⟨a, ha, hw⟩ := h i hi
    obtain ⟨h0, h1⟩ := bounds_u8 hw
    have e : (UInt8.ofNat a.toNat).toNat = a.toNat := by simp; omega
    have e2 : ((UInt8.ofNat a.toNat).toNat : Int) = a := by rw [e]; omega
    simp only [Array.getElem?_toList, ha, u8s, List.map_map, List.getElem?_map, Option.map_some, Function.comp, f, e2]
  · have h1 : cs.toList.length ≤ i := by simp; omega
    simp [u8s, List.getElem?_eq_none h1]
theorem bytes_of_trod {H : Type} {enc : TypeId × Value → H} {W : World} {m k : Nat} {t : TypeId} {cs : List Value} {x : DataW H × List MemPlace} (ht : Tryz.prog.underlying t = some (.array k 5)) (hl : cs.length = k)
    (h : DataW.trod enc Tryz.prog W 0 (fun _ => true) true m t cs = some x) : ∃ l : List UInt8, l.length = k ∧ cs = u8s l := by
  have hc5 : Tryz.prog.cellsOf 5 = 1 := by kernel_rfl
  obtain ⟨xs, m', _, _, _, hlen, hx⟩ := DataW.trod_array ht h
  obtain ⟨l, h1, h2⟩ := bytes_of_cells (cs := cs.toArray) (n := k) (by simpa using hl) (fun i hi => by
    have h1 := hx i hi
    rw [hc5] at h1
    have hi' : i < cs.length := by omega
    have h2 : (cs.drop (i * 1)).take 1 = [cs[i]] := by
      rw [Nat.mul_one, List.drop_eq_getElem_cons hi', List.take_succ_cons, List.take_zero]
    rw [h2, List.getElem?_eq_getElem (by omega)] at h1
    obtain ⟨a, hv, _, hw⟩ := DataW.trod_int Tryz.underlying5 h1
    exact ⟨a, by simp [hi']; simpa using hv, hw⟩)
  exact ⟨l, h1, by have := congrArg Array.toList h2; simpa using this⟩
section
variable {H : Type} {enc : TypeId × Value → H} {W : World} {m : Nat} {t : TypeId} {cs : List Value} {x : DataW H × List MemPlace}
theorem trod_field {fs : Array Field} (ht : Tryz.prog.underlying t = some (.struct fs)) (h : DataW.trod enc Tryz.prog W 0 (fun _ => true) true m t cs = some x) (i : Nat) (ty : TypeId) (off n : Nat) (hf : (fs[i]?).map (fun f => (f.type, f.offset)) = some (ty, off)) (hn : Tryz.prog.cellsOf ty = n) :
    ∃ m' y, DataW.trod enc Tryz.prog W 0 (fun _ => true) true m' ty ((cs.drop off).take n) = some y := by
  obtain ⟨xs, m', _, _, _, hlen, hx⟩ := DataW.trod_struct ht h
  cases hq : fs[i]? with
  | none => rw [hq] at hf; cases hf
  | some f =>
    rw [hq] at hf
    simp only [Option.map_some, Option.some.injEq, Prod.mk.injEq] at hf
    obtain ⟨rfl, rfl⟩ := hf
    have h1 := hx i f hq
    rw [hn] at h1
    have hi : i < xs.length := by rw [hlen]; exact (Array.getElem?_eq_some_iff.1 hq).1
    rw [List.getElem?_eq_getElem hi] at h1
    exact ⟨m', _, h1⟩
theorem i64_of {n : Int} (h : (Lit.int .i64 n).wf = true) : I64 n := by
  simp [Lit.wf, IntKind.min, IntKind.max, IntKind.signed, IntKind.bits] at h
  unfold I64
  omega
theorem field_int {fs : Array Field} (ht : Tryz.prog.underlying t = some (.struct fs)) (h : DataW.trod enc Tryz.prog W 0 (fun _ => true) true m t cs = some x) (i off : Nat) (hf : (fs[i]?).map (fun f => (f.type, f.offset)) = some (3, off)) :
    ∃ n : Int, (cs.drop off).take 1 = [.int .i64 n] ∧ I64 n := by
  obtain ⟨m', y, hy⟩ := trod_field ht h i _ off 1 hf (by kernel_rfl)
  obtain ⟨n, h1, _, h2⟩ := DataW.trod_int Tryz.underlying3 hy
  exact ⟨n, h1, i64_of h2⟩
theorem chop (cs : List Value) (i n : Nat) : cs.drop i = (cs.drop i).take n ++ cs.drop (i + n) := by
  rw [← List.drop_drop, List.take_append_drop]
theorem ent_of_cells (hl : cs.length = 39) (h : DataW.trod enc Tryz.prog W 0 (fun _ => true) true m 87 cs = some x) : ∃ e : Ent, e.Wf ∧ cs = entL e := by
  obtain ⟨k, hk, wk⟩ := field_int underEnt h 0 0 (by kernel_rfl)
  obtain ⟨s, hs, ws⟩ := field_int underEnt h 1 1 (by kernel_rfl)
  obtain ⟨n, hn, wn⟩ := field_int underEnt h 2 2 (by kernel_rfl)
  obtain ⟨l, hl', wl⟩ := field_int underEnt h 3 3 (by kernel_rfl)
  obtain ⟨_, _, h4⟩ := trod_field underEnt h 4 9 4 1 (by kernel_rfl) (by kernel_rfl)
  obtain ⟨nm, h4, _, wnm⟩ := DataW.trod_string Tryz.underlying9 h4
  obtain ⟨_, _, h5⟩ := trod_field underEnt h 5 34 5 32 (by kernel_rfl) (by kernel_rfl)
  obtain ⟨hb, wh, h5⟩ := bytes_of_trod Tryz.underlying34 (by simp; omega) h5
  obtain ⟨_, _, h6⟩ := trod_field underEnt h 6 36 37 2 (by kernel_rfl) (by kernel_rfl)
  obtain ⟨st, hst, wst⟩ := field_int underRun h6 0 0 (by kernel_rfl)
  obtain ⟨c, hc, wc⟩ := field_int underRun h6 1 1 (by kernel_rfl)
  refine ⟨⟨k, s, n, l, nm, hb, st, c⟩, ⟨wk, ws, wn, wl, wnm, wh, wst, wc⟩, ?_⟩
  have hr : (cs.drop 37).take 2 = [.int .i64 st, .int .i64 c] := by
    have e := chop ((cs.drop 37).take 2) 0 1
    have e2 := chop ((cs.drop 37).take 2) 1 1
    have e0 : (cs.drop 37).take 2 = ((cs.drop 37).take 2).drop 0 := rfl
    rw [e0, e, hst, show 0 + 1 = 1 from rfl, e2, hc, List.drop_eq_nil_of_le (by simp; omega)]
    rfl
  have e0 := chop cs 0 1
  have e1 := chop cs 1 1
  have e2 := chop cs 2 1
  have e3 := chop cs 3 1
  have e4 := chop cs 4 1
  have e5 := chop cs 5 32
  have e6 := chop cs 37 2
  have e7 : cs.drop 39 = [] := List.drop_eq_nil_of_le (by omega)
  conv => lhs; rw [← List.drop_zero (l := cs)]
  rw [e0, hk, show 0 + 1 = 1 from rfl, e1, hs, show 1 + 1 = 2 from rfl, e2, hn, show 2 + 1 = 3 from rfl, e3, hl', show 3 + 1 = 4 from rfl, e4, h4, show 4 + 1 = 5 from rfl, e5, h5, show 5 + 32 = 37 from rfl, e6, hr, show 37 + 2 = 39 from rfl, e7]
  simp [entL, hashL_eq hb wh]
end
theorem underPut : Tryz.prog.underlying 89 = some (.struct (Tryz.prog.fieldsOf 89)) := by kernel_rfl
instance : Inhabited Pu := ⟨pu0⟩
instance : Inhabited Rw := ⟨⟨none, 0, []⟩⟩
theorem pu_of_cells {H : Type} {enc : TypeId × Value → H} {W : World} {m : Nat} {cs : List Value} {x : DataW H × List MemPlace} (hl : cs.length = 40) (h : DataW.trod enc Tryz.prog W 0 (fun _ => true) true m 89 cs = some x) : ∃ q : Pu, q.e.Wf ∧ cs = puL q := by
  obtain ⟨_, _, h0⟩ := trod_field underPut h 0 87 0 39 (by kernel_rfl) (by kernel_rfl)
  obtain ⟨e, we, he⟩ := ent_of_cells (by simp; omega) h0
  obtain ⟨_, _, h1⟩ := trod_field underPut h 1 9 39 1 (by kernel_rfl) (by kernel_rfl)
  obtain ⟨t, ht, _, wt⟩ := DataW.trod_string Tryz.underlying9 h1
  refine ⟨⟨e, t⟩, we, ?_⟩
  have e0 := chop cs 0 39
  have e1 := chop cs 39 1
  have e2 : cs.drop 40 = [] := List.drop_eq_nil_of_le (by omega)
  conv => lhs; rw [← List.drop_zero (l := cs)]
  rw [e0, he, show 0 + 39 = 39 from rfl, e1, ht, show 39 + 1 = 40 from rfl, e2]
  rfl
/-- Cells that stand one behind the other are a row. -/
theorem cell_block {W : World} {a : Addr} {v : Value} (h : W.cell? a = some v) : a.spot = none ∧ ∃ C T z, W.heap[a.block]? = some (.cells C T z) ∧ C[a.off]? = some v := by
  unfold World.cell? at h
  split at h
  · rename_i C T z hc
    split at h
    · cases h
    · rename_i hs
      exact ⟨by simpa using hs, C, T, z, hc, h⟩
  · cases h
theorem row_of_cells {α : Type} {enc : α → List Value} {k : Nat} [e : Enc enc k] (hk : 0 < k) {W : World} {T : TypeId} {a : Addr} {n c : Nat} (hn : n ≤ c) (hb : n ≤ 1000000000) (F : Nat → α) (h : ∀ i, i < n → ∀ j, j < k → W.cell? (a.add (i * k + j)) = (enc (F i))[j]?) :
    RowAt (snap W) T k enc (some a) c ((List.range n).map F) where
  cap := by simpa using hn
  big := by simpa using hb
  at_ i hi := by
    have hi' : i < n := by simpa using hi
    have h0 := h 0 (by omega) 0 hk
    rw [Nat.zero_mul, Nat.add_zero, List.getElem?_eq_getElem (by rw [e.len]; exact hk)] at h0
    have h00 : a.add 0 = a := by unfold Addr.add; rw [if_pos rfl]
    rw [h00] at h0
    obtain ⟨hs, C, Tb, z, hc, _⟩ := cell_block h0
    obtain ⟨g, off, sp⟩ := a
    simp only at hs
    subst hs
    refine ⟨g, off, C, Tb, rfl, ⟨z, hc⟩, fun j v hj => ?_⟩
    simp only [List.getElem_map, List.getElem_range] at hj
    have hjk : j < k := by rw [← e.len (F i)]; exact (List.getElem?_eq_some_iff.1 hj).1
    have h1 := h i hi' j hjk
    rw [hj, addr_add] at h1
    obtain ⟨_, C', T', z', hc', hv⟩ := cell_block h1
    simp only at hc' hv
    rw [hc] at hc'
    injection hc' with hc'
    injection hc' with hc'
    rw [hc', Nat.add_assoc]
    exact hv
/-- A row of puts, as it lies. -/
theorem puts_of_cell {H : Type} {enc : TypeId × Value → H} {W : World} {m : Nat} {v : Value} {x : DataW H × List MemPlace} (h : DataW.trod enc Tryz.prog W 0 (fun _ => true) true m 43 [v] = some x) :
    ∃ r : Rw, v = .slice r.p r.l.length r.c ∧ (r.l.length ≤ 5 → RowAt (snap W) 89 40 puL r.p r.c r.l ∧ ∀ q ∈ r.l, q.e.Wf) := by
  have hc : Tryz.prog.cellsOf 89 = 40 := by kernel_rfl
  rcases Deep.open_slice Tryz.underlying43 h with ⟨hcs, _⟩ | ⟨a, len, cap, m', n, D, Pl, hcs, _, hl, hm, hmm, _, hx⟩
  · injection hcs with hcs
    subst hcs
    exact ⟨⟨none, 0, []⟩, rfl, fun _ => ⟨RowAt.nil .., by simp⟩⟩
  · injection hcs with hcs
    subst hcs
    have hm' : m' = cap := by simpa using hmm
    subst hm'
    by_cases h5 : len ≤ 5
    · rw [hc] at hx
      have each : ∀ i, i < len → ∃ q : Pu, q.e.Wf ∧ ∀ j (hj : j < 40), W.cell? (a.add (i * 40 + j)) = (puL q)[j]? := fun i hi => by
        obtain ⟨cs', h1, h2⟩ := hx i (by omega)
        obtain ⟨_, hlen, hcell⟩ := World.cells?_some h1
        obtain ⟨q, we, rfl⟩ := pu_of_cells (by simpa using hlen) h2
        refine ⟨q, we, fun j hj => ?_⟩
        have h3 := hcell j (by omega)
        rw [add_add2 a (i * 40) j] at h3
        exact h3
      obtain ⟨F, hF⟩ := Deep.choose_lt (α := Pu) (p := fun i q => q.e.Wf ∧ ∀ j (hj : j < 40), W.cell? (a.add (i * 40 + j)) = (puL q)[j]?) each
      refine ⟨⟨some a, m', (List.range len).map F⟩, by simp, fun _ => ⟨row_of_cells (by decide) hl (by omega) F (fun i hi j hj => (hF i hi).2 j hj), fun q hq => ?_⟩⟩
      obtain ⟨i, hi, rfl⟩ := List.mem_map.1 hq
      exact (hF i (by simpa using hi)).1
    · exact ⟨⟨some a, m', List.replicate len pu0⟩, by simp, fun h => absurd (by simpa using h) h5⟩
/-- Rows of puts, as they lie. -/
def PutsIn (W : World) (p : Option Addr) (c : Nat) (l : List Rw) : Prop :=
  (l.length ≤ 6 → RowAt (snap W) 43 1 rwL p c l) ∧ ∀ r ∈ l, r.l.length ≤ 5 → RowAt (snap W) 89 40 puL r.p r.c r.l ∧ ∀ q ∈ r.l, q.e.Wf
theorem open_puts {H : Type} {enc : TypeId × Value → H} {W : World} {base : Nat} {v : Value} {d : DataW H} {p : List MemPlace}
    (hv : Value.okWide Tryz.prog W .any base 22 v) (h : DataW.Trod enc Tryz.prog W 0 (fun _ => true) true 22 v d p) : ∃ q c l, v = .slice q l.length c ∧ PutsIn W q c l := by
  have hc : Tryz.prog.cellsOf 43 = 1 := by kernel_rfl
  obtain ⟨a, len, cap, rfl⟩ := okWide_slice Tryz.underlying22 hv
  obtain ⟨fuel, hf⟩ := h
  rcases Deep.open_slice1 Tryz.underlying22 hc hf with ⟨hcs, _⟩ | ⟨x, l, c, m, n, V, D, Pl, hcs, _, hl, hm, hmm, _, hx⟩
  · simp [Value.cells] at hcs
    obtain ⟨rfl, rfl, rfl⟩ := hcs
    exact ⟨none, 0, [], rfl, fun _ => RowAt.nil .., by simp⟩
  · simp [Value.cells] at hcs
    obtain ⟨rfl, rfl, rfl⟩ := hcs
    have hm' : m = cap := by simpa using hmm
    subst hm'
    by_cases h6 : len ≤ 6
    · have each : ∀ i, i < len → ∃ r : Rw, W.cell? (x.add i) = some (.slice r.p r.l.length r.c) ∧ (r.l.length ≤ 5 → RowAt (snap W) 89 40 puL r.p r.c r.l ∧ ∀ q ∈ r.l, q.e.Wf) := fun i hi => by
        obtain ⟨h1, h2⟩ := hx i (by omega)
        obtain ⟨r, e, hr⟩ := puts_of_cell h2
        exact ⟨r, by rw [h1, e], hr⟩
      obtain ⟨F, hF⟩ := Deep.choose_lt (α := Rw) (p := fun i r => W.cell? (x.add i) = some (.slice r.p r.l.length r.c) ∧ (r.l.length ≤ 5 → RowAt (snap W) 89 40 puL r.p r.c r.l ∧ ∀ q ∈ r.l, q.e.Wf)) each
      refine ⟨some x, m, (List.range len).map F, by simp, fun _ => row_of_cells (by decide) hl (by omega) F (fun i hi j hj => ?_), fun r hr => ?_⟩
      · obtain rfl : j = 0 := by omega
        rw [Nat.mul_one, Nat.add_zero, (hF i hi).1]
        rfl
      · obtain ⟨i, hi, rfl⟩ := List.mem_map.1 hr
        exact (hF i (by simpa using hi)).2
    · exact ⟨some x, m, List.replicate len ⟨none, 0, []⟩, by simp, fun h => absurd (by simpa using h) h6, fun r hr h => by obtain rfl := (List.mem_replicate.1 hr).2; exact ⟨RowAt.nil .., by simp⟩⟩
end Go.Proofs.YtigihgbgdillpaaGreatDoor
namespace Go.Proofs.YtigihgbgdillpaaGreatDoor
open Go.RowKit

def sumsZ : List Int := (List.range 16).map fun i => (sumsT.getD i 0 : Int)
def shaZ : List Int := (List.range 64).map fun i => ((mk32 (shaT.getD i 0)).val : Int)
def shaBZ : List Int := shaB.map fun x => (x.val : Int)
theorem laidG {W : World} {l : List (String × DataW Unit)} (hl : l = [("sealingwax/sums.table", Lib.tabData .u32 sumsZ), ("sealingwax/sha.table", Lib.tabData .u32 shaZ), ("sealingwax/sha.begin", Lib.tabData .u32 shaBZ)]) (h : laidMetH Tryz.prog l W) : GSums W ∧ GSha W ∧ GBegin W := by
  subst hl
  rw [MakeChecks.laidMetH_plain _ _ _ (by kernel_rfl)] at h
  have t1 := Lib.tabIs_of_head (g := 2) (t := 274) (e := 195) (n := 16) (by kernel_rfl) (by kernel_rfl) Tryz.underlying274 Tryz.underlying195 (by kernel_rfl) (by kernel_rfl) h
  have t2 := Lib.tabIs_of_head (g := 1) (t := 259) (e := 195) (n := 64) (by kernel_rfl) (by kernel_rfl) Tryz.underlying259 Tryz.underlying195 (by kernel_rfl) (by kernel_rfl) h.tail
  have t3 := Lib.tabIs_of_head (g := 0) (t := 196) (e := 195) (n := 8) (by kernel_rfl) (by kernel_rfl) Tryz.underlying196 Tryz.underlying195 (by kernel_rfl) (by kernel_rfl) h.tail.tail
  refine ⟨⟨fun i hi => ?_⟩, ⟨fun i hi => ?_⟩, ⟨fun i v hi => ?_⟩⟩
  · have h1 := t1.cell (g := 2) (by kernel_rfl) i (by simpa [sumsZ] using hi)
    rw [h1]
    unfold sumsZ
    rw [List.getD_eq_getElem?_getD, List.getElem?_map, List.getElem?_range hi]
    rfl
  · have h1 := t2.cell (g := 1) (by kernel_rfl) i (by simpa [shaZ] using hi)
    rw [h1]
    unfold shaZ
    rw [List.getD_eq_getElem?_getD, List.getElem?_map, List.getElem?_range hi]
    rfl
  · have hi8 : i < 8 := (List.getElem?_eq_some_iff.1 hi).1
    have h1 := t3.cell (g := 0) (by kernel_rfl) i (show i < shaBZ.length from hi8)
    rw [h1, ← hi]
    unfold shaBZ
    rw [List.getD_eq_getElem?_getD, List.getElem?_map, List.getElem?_map]
    have h2 : shaB[i]? = some shaB[i] := List.getElem?_eq_getElem hi8
    rw [h2]
    rfl
end Go.Proofs.YtigihgbgdillpaaGreatDoor
namespace Go.Proofs.YtigihgbgdillpaaGreatDoor.mountsDown
open Go.ChangeShapes Go.WideShapes Go.ChangeAt Go.RowKit
theorem own : ownKnob Tryz.prog.godebug = none := by kernel_rfl
theorem laidOut : laidOutB Tryz.prog = true := by kernel_rfl
set_option maxRecDepth 100000 in
theorem lifted (os : Os) (started : os.Started) (H : Type) (enc : TypeId × Value → H) :
    ReturnsInHanded {} Tryz.checked os 3 .any (fun w args => (Rows.mountsDownSpec.pre enc Tryz.prog Tryz.f3 Rows.mountsDownRow.domain false w args ∧ laidMetH Tryz.prog Rows.mountsDownRow.laid w) ∧ sizedMet enc Tryz.prog Tryz.f3 (OpenSpec.ofChange Rows.mountsDownSpec) false w args)
      (Rows.mountsDownSpec.post enc Tryz.prog Tryz.f3 false true false false) := by
  refine returnsInHanded_of_change_and (C := Tryz.checked) (X := fun w _ => laidMetH Tryz.prog Rows.mountsDownRow.laid w) (fun _ _ _ hh h => h.of_heap hh) own started (by kernel_rfl) Tryz.func3
    (ChangeSpec.witness_shaped (enc := enc) (C := Tryz.checked) (os := os) (X := fun w _ => laidMetH Tryz.prog Rows.mountsDownRow.laid w) false (World.laidAll Tryz.prog os Rows.mountsDownRow.laid) #[.slice none 0 0] 8 (World.laidAll_os _ _ _)
      (World.shaped_of_ZipB (by kernel_rfl) (by kernel_rfl)) (by kernel_rfl) (by kernel_rfl) (by kernel_rfl)
      (by rw [MakeChecks.laidMetH_plain _ _ _ (by kernel_rfl)]; exact laidMet_laidAll _ (by kernel_rfl) (by kernel_rfl))) ?_
  intro W base args ds gs before hval0 hW hcnd hsz0 hL _
  have hval : ∀ (j : Nat) t v, Tryz.f3.params[j]? = some t → args[j]? = some v → Value.okWide Tryz.prog W .any base t v := hval0
  have hW' := hW
  obtain ⟨p, q, hA0, hV, rfl, hfz, hnd⟩ := hW
  have hA : DataW.TrodAll enc Tryz.prog W 0 (fun _ => true) true Tryz.f3.params.toList args.toList ds p := hA0
  rw [Tryz.params3] at hA hval
  obtain ⟨v0, vs0, d0, ds0, p0, q0, hargs, rfl, rfl, h0, r0⟩ := trodAll_cons hA
  obtain ⟨rfl, rfl, rfl⟩ := trodAll_nil r0
  obtain rfl : args = #[v0] := by cases args; simp_all
  obtain ⟨rfl, rfl⟩ := trodVars_none hV
  have k0 := h0
  have lt0 : ∀ x ∈ p0, x.block < W.heap.size := by obtain ⟨m, hm⟩ := k0; exact DataW.trod_lt m _ _ _ hm
  obtain ⟨a, c, l, rfl, hp⟩ := open_puts (hval 0 22 v0 rfl rfl) h0
  obtain ⟨g1, g2, g3⟩ := laidG (by kernel_rfl) hL
  clear hA0 hval0 hsz0
  refine (mdown_calls W hp.1 (fun r hr h => (hp.2 r hr h).1) (fun r hr h => (hp.2 r hr h).2) g1 g3 g2).mono fun e W' ⟨he, bel⟩ => ?_
  subst he
  exact ⟨_, rfl, _, _, _, [], _, [], hW', trodAll_mk1 (shut_bool Tryz.underlying4 _), (trodAll_cons_mk (Below.trod laidOut (by kernel_rfl) (of_decide_eq_true (by kernel_rfl)) k0 bel lt0) trodAll_mk0), rfl, bel.frame _, fun h => by cases h⟩
theorem over : Rows.mountsDownRow.holds Tryz.pinned (OpenSpec.ofChange Rows.mountsDownSpec) :=
  OpenClaim.holds_of_wide 3 Tryz.f3 rfl rfl rfl rfl rfl rfl rfl ⟨rfl, rfl, rfl, rfl, rfl⟩ rfl rfl rfl rfl rfl (by kernel_rfl) Tryz.func3 (by kernel_rfl)
    (of_decide_eq_true (by kernel_rfl)) (by unfold Func.isWrapper; first | (rw [if_pos (by decide +kernel)]; kernel_rfl) | (rw [if_neg (by decide +kernel)]; exact ⟨rfl, rfl⟩))
    (fun os started H enc _ => lifted os started H enc)
end Go.Proofs.YtigihgbgdillpaaGreatDoor.mountsDown
namespace Go.Proofs.YtigihgbgdillpaaGreatDoor
/-- The given statement: the tied card. -/
theorem mountsDown_holds : Rows.MountsDownCardSaid :=
  Claim7.holds_tied_plain_at .later [] [.data, .data, .data] true (true, "fc6f32e58fb6e526e8ef1ec6a329c68ff659a680b21c3344e5e4082b1be3dd9e") true
    mountsDown.over (fun _ h => by cases h) (by kernel_rfl) (fun _ h => by cases h) mountsDown_row_tie rfl ⟨rfl, rfl⟩ (by kernel_rfl) rfl
    (fun f fn hf hfn => by
      obtain rfl : f = 3 := Option.some.inj ((show Tryz.prog.funcNamed "sealingwax/sealingwaxlaw23.MountsDown" = some 3 by kernel_rfl).symm.trans hf) |>.symm
      obtain rfl : fn = Tryz.f3 := (Option.some.inj (Tryz.func3.symm.trans hfn)).symm
      exact ⟨by kernel_rfl, fun j t ht => by
        rw [Tryz.params3] at ht
        have hm : t ∈ [22] := by simpa using Array.mem_of_getElem? ht
        have hall : ([22].all fun u => !Tryz.prog.wantsStandIn u) = true := by kernel_rfl
        exact (show Tryz.prog.wantsStandIn t = false by simpa using List.all_eq_true.1 hall t hm)⟩)
    (by kernel_rfl)
#print axioms mountsDown_holds
end Go.Proofs.YtigihgbgdillpaaGreatDoor
