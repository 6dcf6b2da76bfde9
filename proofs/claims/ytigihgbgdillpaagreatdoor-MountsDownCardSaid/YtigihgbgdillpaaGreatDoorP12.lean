/- The contracts of frames.sectors and of its closure · The contracts of (*strings.Builder).Grow at a new builder, Len, and of strings.Repeat at one zero byte · The contracts of sums.More and sums.Sum. -/
import Derived.Shelf.Bits.Mul64
import Derived.Shelf.Strings.BuilderF
import Derived.Shelf.Strings.Builder2
import Derived.Lib.RepeatB
import Derived.Deep.LoopGhost
import Derived.Laws.BitsAllLaws
import Derived.Lib.ConvBytes
import Derived.Test.YtigihgbgdillpaaGreatDoorP11
set_option linter.unusedVariables false
set_option linter.unusedSimpArgs false
set_option maxRecDepth 100000
namespace Go.Proofs.YtigihgbgdillpaaGreatDoor
open Go.RowKit Go.Shelf
attribute [local go_sem] Oper.semAt_some

/-- What is left of a text behind k parts. -/
def restS (s : ByteArray) (long : Nat) : Nat → ByteArray
  | 0 => s
  | k + 1 => (restS s long k).extract long (restS s long k).size
theorem restS_size (s : ByteArray) (long : Nat) : ∀ k, (restS s long k).size = s.size - k * long
  | 0 => by simp [restS]
  | k + 1 => by
    have := restS_size s long k
    simp only [restS, ByteArray.size_extract, this, Nat.min_self]
    rw [Nat.sub_sub, Nat.add_mul, Nat.one_mul]

set_option maxHeartbeats 4000000 in
theorem sectors1_in (n : Nat) (hn : 1 ≤ n) (s : ByteArray) (long : Nat) (hl : 0 < long) (hs : s.size ≤ 1000000) (hl2 : long ≤ 1000000) (sb gb : Nat) :
    SeqC n 136 #[.pointer (some ⟨sb, 0, none⟩), .pointer (some ⟨gb, 0, none⟩)] (fun k => #[.int .i64 k, .string ((restS s long k).extract 0 long)]) (s.size / long)
      sb (fun k => #[.string (restS s long k)]) 9 gb #[.int .i64 long] 3 := by
  intro l J Jx W hJ hY h0
  refine callsIn_of_wp Tryz.func136 rfl trivial ?_ rfl
  simp only [Tryz.ntmps136, List.size_toArray, List.length_cons, List.length_nil, Nat.reduceAdd, Nat.reduceSub, Array.replicate_succ, Array.replicate_zero, List.push_toArray, List.append_toArray, List.nil_append, List.cons_append]
  gi_wp2
  gi_loopw [4] (fun i wr => ∃ k : Nat, k ≤ s.size / long ∧ i = .int .i64 k ∧ J k wr) (fun i _ => s.size / long - (intOf i).toNat)
  case atStart => exact ⟨0, Nat.zero_le _, rfl, h0⟩
  case round =>
    obtain ⟨k, hk, rfl, hJs⟩ := hrel
    obtain ⟨hcs, hcg⟩ := hJ k wr hJs
    have c1 : wr.cell? ⟨sb, 0, none⟩ = some (.string (restS s long k)) := by rw [cell_of_row wr sb 0 _ _ _ hcs]; rfl
    have c2 : wr.cell? ⟨gb, 0, none⟩ = some (.int .i64 long) := by rw [cell_of_row wr gb 0 _ _ _ hcg]; rfl
    have hsz := restS_size s long k
    have hk2 : k ≤ 1000000 := Nat.le_trans hk (Nat.le_trans (Nat.div_le_self _ _) hs)
    by_cases hlt : k < s.size / long
    · have hmul : (k + 1) * long ≤ s.size := (Nat.le_div_iff_mul_le hl).1 hlt
      have hle : long ≤ (restS s long k).size := by rw [hsz, Nat.add_mul] at *; omega
      have hle' : (restS s long k).size ≤ 1000000 := by omega
      obtain ⟨fn, tmps, assign, body, hy, hR⟩ := hY k wr hlt hJs
      clear hmul hsz hJs hcs hcg h0
      gi_wp2
      refine hR.mono ?_
      rintro e W3 (⟨rfl, ⟨hc3, hg3⟩, hJ3⟩ | ⟨rfl, hJx3⟩)
      · have d1 : W3.cell? ⟨sb, 0, none⟩ = some (.string (restS s long k)) := by rw [cell_of_row W3 sb 0 _ _ _ hc3]; rfl
        have d2 : W3.cell? ⟨gb, 0, none⟩ = some (.int .i64 long) := by rw [cell_of_row W3 gb 0 _ _ _ hg3]; rfl
        have f1 : W3.frozen? ⟨sb, 0, none⟩ = false := by simp [World.frozen?, hc3]
        have HJ : Hid (J (k + 1) (W3.setCell ⟨sb, 0, none⟩ (.string ((restS s long k).extract long (restS s long k).size)))) := Lib.hid (by
          rw [setCell_eq_setRow W3 sb 0 _ _ (0, 0) _ hc3]
          exact hJ3)
        clear hJ3 hc3 hg3 hy hY hJ c1 c2
        gi_wp2
        go_roundw
        case rel => exact ⟨k + 1, by omega, (by first | rfl | simp), HJ.out⟩
        case measure => simp [intOf]; omega
      · gi_wp2
        go_end0
        exact ⟨⟨_, rfl⟩, .inr ⟨k + 1, by omega, hJx3⟩⟩
    · have hN : k = s.size / long := by omega
      have hlt2 : (restS s long k).size < long := by
        rw [hsz, hN]
        have h1 := Nat.div_add_mod' s.size long
        have h2 := Nat.mod_lt s.size hl
        omega
      rw [hN] at hJs
      have HJ := Lib.hid hJs
      clear hlt hsz hcs hcg h0 hN hJs hJ hY hs hl
      gi_wp2
      refine ⟨fun _ h => (by cases h), ?_⟩
      gi_wp2
      go_end0
      exact ⟨⟨_, rfl⟩, .inl HJ.out⟩

set_option maxHeartbeats 4000000 in
/-- frames.sectors: its arguments are boxed, and the closure has them. -/
theorem sectors_calls (s : ByteArray) (long : Int) (w : World) :
    Calls Tryz.prog 107 #[.string s, .int .i64 long] w fun e w' => ∃ sb gb, e = .returned (.func (.func 136) #[] #[.pointer (some ⟨sb, 0, none⟩), .pointer (some ⟨gb, 0, none⟩)]) ∧
      St [] w w' [(gb, #[.int .i64 long], 3), (sb, #[.string s], 9)] := by
  have hst := St.start w
  go_enter Tryz.func107, Tryz.ntmps107
  go_wp2_with fail
  go_ret
  refine ⟨_, _, rfl, ?_⟩
  have h1 := (hst.alloc #[.string s] 9).alloc #[.int .i64 long] 3
  simpa using h1
end Go.Proofs.YtigihgbgdillpaaGreatDoor
set_option maxRecDepth 1000000
namespace Go.Proofs.YtigihgbgdillpaaGreatDoor
open Go.RowKit Go.Shelf Go.Lib

def libRen : Go.Shelf.Ren := ⟨fun | 241 => 170 | 277 => 175 | 212 => 157 | 263 => 167 | 264 => 168 | 170 => 160 | n => n, fun | 0 => 0 | 3 => 3 | 4 => 4 | 5 => 5 | 9 => 9 | 37 => 115 | 46 => 188 | 51 => 195 | 53 => 228 | 70 => 135 | 72 => 137 | 127 => 194 | 146 => 275 | 148 => 277 | n => n, fun | n => n⟩
theorem growLays : Go.Proofs.Lays.n241 Tryz.prog libRen := {
  mixed := by kernel_rfl
  f241 := Tryz.func170.trans (congrArg some (by kernel_rfl))
  f277 := Tryz.func175.trans (congrArg some (by kernel_rfl))
  t0 := Tryz.underlying0
  a0 := Tryz.isAgg0
  z0 := Tryz.sizeOf0
  v0 := Tryz.zeroValue0
  t3 := Tryz.underlying3
  a3 := Tryz.isAgg3
  z3 := Tryz.sizeOf3
  v3 := Tryz.zeroValue3
  t37 := Tryz.underlying115
  a37 := Tryz.isAgg115
  z37 := Tryz.sizeOf115
  v37 := Tryz.zeroValue115
  t70 := Tryz.underlying135
  a70 := Tryz.isAgg135
  z70 := Tryz.sizeOf135
  v70 := Tryz.zeroValue135
  t72 := Tryz.underlying137
  a72 := Tryz.isAgg137
  z72 := Tryz.sizeOf137
  v72 := Tryz.zeroValue137 }
theorem mulLays : Go.Proofs.Lays.n212 Tryz.prog libRen := {
  mixed := by kernel_rfl
  f212 := Tryz.func157.trans (congrArg some (by kernel_rfl))
  f263 := Tryz.func167.trans (congrArg some (by kernel_rfl))
  f264 := Tryz.func168.trans (congrArg some (by kernel_rfl))
  t46 := Tryz.underlying188
  a46 := Tryz.isAgg188
  z46 := Tryz.sizeOf188
  v46 := Tryz.zeroValue188
  t51 := Tryz.underlying195
  a51 := Tryz.isAgg195
  z51 := Tryz.sizeOf195
  v51 := Tryz.zeroValue195
  t53 := Tryz.underlying228
  a53 := Tryz.isAgg228
  z53 := Tryz.sizeOf228
  v53 := Tryz.zeroValue228
  t146 := Tryz.underlying275
  a146 := Tryz.isAgg275
  z146 := Tryz.sizeOf275
  v146 := Tryz.zeroValue275
  t148 := Tryz.underlying277
  a148 := Tryz.isAgg277
  z148 := Tryz.sizeOf277
  v148 := Tryz.zeroValue277 }
theorem lenLays : Go.Proofs.Lays.n170 Tryz.prog libRen := {
  mixed := by kernel_rfl
  f170 := Tryz.func160.trans (congrArg some (by kernel_rfl))
  t0 := Tryz.underlying0
  a0 := Tryz.isAgg0
  z0 := Tryz.sizeOf0
  v0 := Tryz.zeroValue0
  t3 := Tryz.underlying3
  a3 := Tryz.isAgg3
  z3 := Tryz.sizeOf3
  v3 := Tryz.zeroValue3
  t37 := Tryz.underlying115
  a37 := Tryz.isAgg115
  z37 := Tryz.sizeOf115
  v37 := Tryz.zeroValue115
  t70 := Tryz.underlying135
  a70 := Tryz.isAgg135
  z70 := Tryz.sizeOf135
  v70 := Tryz.zeroValue135
  t72 := Tryz.underlying137
  a72 := Tryz.isAgg137
  z72 := Tryz.sizeOf137
  v72 := Tryz.zeroValue137 }
theorem libExtra : Builder.Extra Tryz.prog libRen := {
  sizeBuilder := by kernel_rfl
  liesBuilder := by kernel_rfl
  t5 := Tryz.underlying5
  a5 := Tryz.isAgg5
  z5 := Tryz.sizeOf5
  v5 := Tryz.zeroValue5
  infoByte := by kernel_rfl
  cellsByte := by kernel_rfl
  sizeByte := by kernel_rfl
  neB5 := by decide }
theorem mul_calls (x y : Nat) (hx : x < 18446744073709551616) (hy : y < 18446744073709551616) (w : World) :
    Calls Tryz.prog 157 #[.int .u64 x, .int .u64 y] w fun e w' => e = .returned (.tuple #[.int .u64 ((x * y / 18446744073709551616 : Nat) : Int), .int .u64 ((x * y % 18446744073709551616 : Nat) : Int)]) ∧ w' = w := Any.bits_Mul mulLays x y hx hy w
theorem len_calls (B b : Nat) (bs : List Value) (w : World) (h : IsB B b bs w) :
    Calls Tryz.prog 160 #[.pointer (some ⟨b, 0, none⟩)] w fun e w' => e = .returned (.int .i64 bs.length) ∧ w' = w := Any.Builder_Len_f lenLays B b bs w h
theorem grow_calls (B b n : Nat) (w : World) (hB : B ≤ b) (hbk : w.heap[b]? = some (.cells #[.pointer (some ⟨b, 0, none⟩), .slice none 0 0] 137 (0, 0))) (hBw : B ≤ w.heap.size) (hn : n ≤ 281474976710656) :
    Calls Tryz.prog 170 #[.pointer (some ⟨b, 0, none⟩), .int .i64 n] w fun e w' => e = .returned (.tuple #[]) ∧ (Lib.BuilderAt 137 5 B b (.pointer (some ⟨b, 0, none⟩)) [] w' ∧ Below B w w') := Any.Builder_grow_fresh growLays libExtra B b n w hB hbk hBw hn

set_option maxHeartbeats 2000000 in
theorem grow_new (B b n : Nat) (w : World) (hB : B ≤ b) (hbk : w.heap[b]? = some (.cells #[.pointer none, .slice none 0 0] 137 (0, 0))) (hBw : B ≤ w.heap.size) (hn : n ≤ 1000000) :
    Calls Tryz.prog 159 #[.pointer (some ⟨b, 0, none⟩), .int .i64 n] w fun e w' => e = .returned (.tuple #[]) ∧ (Lib.BuilderAt 137 5 B b (.pointer (some ⟨b, 0, none⟩)) [] w' ∧ Below B w w') := by
  have hbk1 : (w.setCell ⟨b, 0, none⟩ (.pointer (some ⟨b, 0, none⟩))).heap[b]? = some (.cells #[.pointer (some ⟨b, 0, none⟩), .slice none 0 0] 137 (0, 0)) := by
    simp [World.setCell, Array.getElem?_modify, hbk]
  have c1 : (w.setCell ⟨b, 0, none⟩ (.pointer (some ⟨b, 0, none⟩))).cell? ⟨b, 1, none⟩ = some (.slice none 0 0) := by rw [Lib.cell_of_heap hbk1]; rfl
  have hb1 : Below B w (w.setCell ⟨b, 0, none⟩ (.pointer (some ⟨b, 0, none⟩))) := (Below.refl B w).setCell (p := ⟨b, 0, none⟩) hB _
  have mixed : Tryz.prog.follows .mixedOrders = true := by kernel_rfl
  go_enter Tryz.func159, Tryz.ntmps159
  have hU : Lib.BuilderAt 137 5 B b (.pointer (some ⟨b, 0, none⟩)) [] (w.setCell ⟨b, 0, none⟩ (.pointer (some ⟨b, 0, none⟩))) := ⟨hB, .slice none 0 0, hbk1, World.ownsRow_nil _ _ _ _, by simp [Value.ownBlock]⟩
  have c1' : (w.setCell ⟨b, 0, none⟩ (.pointer (some ⟨b, 0, none⟩))).drew.cell? ⟨b, 1, none⟩ = some (.slice none 0 0) := c1
  go_wp2_with (refine (copyCheck_fresh b w (by rw [Lib.cell_of_heap hbk]; rfl) (by simp [World.shape?, hbk]) (Lib.frozen_of_heap hbk 0)).mono ?_; rintro e w' ⟨rfl, rfl⟩)
  go_region_o
  all_goals go_wp2_with (refine (grow_calls B b n (w.setCell ⟨b, 0, none⟩ (.pointer (some ⟨b, 0, none⟩))).drew hB hbk1 (by simpa [World.setCell, World.drew, -World.drew_eq] using hBw) (by omega)).mono ?_; rintro e w' ⟨rfl, h1, h2⟩)
  all_goals first
    | (go_end0; exact ⟨rfl, h1, hb1.drew.trans h2⟩)
    | (go_end0; exact ⟨rfl, hU.drew, hb1.drew⟩)

theorem min3_run (ts : Array TypeId) (t : TypeId) (x y z : Int) (W : World) :
    (Builtin.min_ ts t #[.int .i64 x, .int .i64 y, .int .i64 z]).run Tryz.prog W = .ok (.int .i64 (if z < (if y < x then y else x) then z else (if y < x then y else x))) W := by
  simp [Builtin.min_, Builtin.min2]

theorem mkS_replicate_size (q : Nat) : (mkS (List.replicate q 0)).size = q := by simp [size_mkS]
theorem mkS_replicate_extract (q : Nat) : ∀ k, k ≤ q → (mkS (List.replicate q 0)).extract 0 k = mkS (List.replicate k 0) := fun k hk => by
  have := text_extract (mkS (List.replicate q 0)) 0 k
  rw [Nat.zero_add] at this
  rw [this]
  congr 1
  simp [sub, ls_mkS, Nat.min_eq_left hk]
set_option maxHeartbeats 4000000 in
theorem repeat_main (c : Nat) (h2 : 2 ≤ c) (hc : c ≤ 124) (w : World) :
    Calls Tryz.prog 138 #[.string ⟨#[0]⟩, .int .i64 c] w fun e w' => e = .returned (.string (mkS (List.replicate c 0))) ∧ Below w.heap.size w w' := by
  have hMul := mul_calls 1 c (by omega) (by omega) w
  rw [Nat.one_mul, Nat.div_eq_of_lt (by omega), Nat.mod_eq_of_lt (by omega)] at hMul
  go_enter Tryz.func138, Tryz.ntmps138
  have b0 : Below w.heap.size w (w.alloc (.cells #[.pointer none, .slice none 0 0] 137)) := (Below.refl _ w).alloc (Nat.le_refl _) _
  have cG := grow_new w.heap.size w.heap.size c (w.alloc (.cells #[.pointer none, .slice none 0 0] 137)) (Nat.le_refl _) (heap_alloc_new w _) b0.size (by omega)
  go_wp2_with (first
    | (refine hMul.mono ?_; rintro e w' ⟨rfl, hw⟩; rw [hw]; clear hw)
    | (refine cG.mono ?_; rintro e W1 ⟨rfl, h1, b1⟩))
  clear cG hMul
  have cW := write_calls w.heap.size w.heap.size [] ⟨#[0]⟩ W1 (Lib.IsBuilderF.of (Or.inr h1)) (by decide) (Nat.le_trans b0.size b1.size)
  go_wp2_with (refine cW.mono ?_; rintro e W2 ⟨rfl, h2', hk2⟩)
  clear cW h1
  have b02 : Below w.heap.size w W2 := b0.trans (b1.trans hk2.1)
  clear hk2 b0 b1
  go_loopg [] (c - 1) (fun g wx => ∃ q : Nat, 1 ≤ q ∧ q + g = c ∧ IsB w.heap.size w.heap.size (Lib.byteCells (List.replicate q 0)) wx ∧ Below w.heap.size w wx)
  case atStart => exact ⟨1, Nat.le_refl _, by omega, h2', b02⟩
  case round =>
    obtain ⟨q, hq1, hqg, hB, hbx⟩ := hrel
    have hlq : (Lib.byteCells (List.replicate q (0 : UInt8))).length = q := by rw [Lib.byteCells_length, List.length_replicate]
    have cLen := len_calls w.heap.size w.heap.size _ wr hB
    rw [hlq] at cLen
    have cStr := builder_string_calls w.heap.size w.heap.size (List.replicate q 0) wr hB hbx.size
    have HS := Lib.hid (mkS_replicate_size q)
    have HX := Lib.hid (mkS_replicate_extract q)
    generalize hS : mkS (List.replicate q 0) = S at *
    cases gk with
    | zero =>
      obtain rfl : q = c := by omega
      have hQn : ¬ ((q : Int) < (q : Int)) := by omega
      go_wp2_with (first
        | (refine cLen.mono ?_; rintro e w' ⟨rfl, hw⟩; rw [hw]; clear hw)
        | (refine cStr.mono ?_; rintro e W3 ⟨rfl, h3, b3⟩))
      go_ret
      exact ⟨by rw [hS]; rfl, hbx.trans b3.1⟩
    | succ g =>
      have hqc : q < c := by omega
      obtain ⟨k, hk1, hkq, hkc, hmin⟩ : ∃ k : Nat, 1 ≤ k ∧ k ≤ q ∧ q + k ≤ c ∧ (if (c : Int) < (if (q : Int) < (c : Int) - (q : Int) then (q : Int) else (c : Int) - (q : Int)) then (c : Int) else (if (q : Int) < (c : Int) - (q : Int) then (q : Int) else (c : Int) - (q : Int))) = (k : Int) := by
        by_cases h : (q : Int) < (c : Int) - (q : Int)
        · exact ⟨q, hq1, Nat.le_refl _, by omega, by rw [if_pos h, if_neg (by omega)]⟩
        · exact ⟨c - q, by omega, by omega, by omega, by rw [if_neg h, if_neg (by omega)]; omega⟩
      have hmin3 : ∀ (ts : Array TypeId) (t : TypeId) (W : World), (Builtin.min_ ts t #[.int .i64 ((c : Int) - (q : Int)), .int .i64 (q : Int), .int .i64 (c : Int)]).run Tryz.prog W = .ok (.int .i64 (k : Int)) W := fun ts t W => by
        rw [min3_run, hmin]
      clear hmin
      have hQn : (q : Int) < (c : Int) := by omega
      have hS2 : S.size = q := HS.out
      go_wp2_with (first
        | (refine cLen.mono ?_; rintro e w' ⟨rfl, hw⟩; rw [hw]; clear hw)
        | (refine cStr.mono ?_; rintro e W3 ⟨rfl, h3, b3⟩))
      have hex : S.extract 0 k = mkS (List.replicate k 0) := HX.out k hkq
      have cWr := write_calls w.heap.size w.heap.size _ (S.extract 0 k) W3 h3 (by rw [hex, List.length_replicate, mkS_replicate_size]; omega) (Nat.le_trans hbx.size b3.1.size)
      have hadd : List.replicate q (0 : UInt8) ++ ls (S.extract 0 k) = List.replicate (q + k) 0 := by rw [hex, ls_mkS, List.replicate_append_replicate]
      rw [hadd] at cWr
      have hk3 : k ≤ S.size := by omega
      clear hex hadd hS2 hS
      go_wp2_with (refine cWr.mono ?_; rintro e W4 ⟨rfl, h4, b4⟩)
      go_roundg (c - (q + k))
      case measure => omega
      case rel => exact ⟨q + k, by omega, by omega, h4, hbx.trans (b3.1.trans b4.1)⟩
theorem repeat_calls (c : Nat) (hc : c ≤ 124) (w : World) :
    Calls Tryz.prog 138 #[.string ⟨#[0]⟩, .int .i64 c] w fun e w' => e = .returned (.string (mkS (List.replicate c 0))) ∧ Below w.heap.size w w' := by
  rcases (by omega : c = 0 ∨ c = 1 ∨ 2 ≤ c) with rfl | rfl | h
  · go_enter Tryz.func138, Tryz.ntmps138
    go_wp2_with fail
    go_ret
    exact ⟨rfl, Below.refl _ _⟩
  · go_enter Tryz.func138, Tryz.ntmps138
    go_wp2_with fail
    go_ret
    exact ⟨rfl, Below.refl _ _⟩
  · exact repeat_main c h hc w
end Go.Proofs.YtigihgbgdillpaaGreatDoor
set_option maxRecDepth 1000000
namespace Go.Proofs.YtigihgbgdillpaaGreatDoor
open Go.RowKit Go.Shelf Go.Lib

def sumsT : List Nat := [0, 498536548, 997073096, 651767980, 1994146192, 1802195444, 1303535960, 1342533948, 3988292384, 4027552580, 3604390888, 3412177804, 2607071920, 2262029012, 2685067896, 3183342108]
theorem sumsT_lt (i : Nat) : sumsT.getD i 0 < 4294967296 := by
  by_cases h : i < 16
  · have : ∀ i < 16, sumsT.getD i 0 < 4294967296 := by decide
    exact this i h
  · simp [sumsT, show 16 ≤ i by omega]
def crc4 (r : Nat) : Nat := (r / 16) ^^^ sumsT.getD (r &&& 15) 0
def crcB (r : Nat) (c : UInt8) : Nat := crc4 (crc4 (r ^^^ c.toNat))
def crc (l : List UInt8) : Nat := 4294967295 ^^^ l.foldl crcB 4294967295
theorem cell_lt {w : World} {a : Addr} {u : Value} (h : w.cell? a = some u) : a.block < w.heap.size := by
  exact World.block_lt_of_cell? _ _ h
/-- The table of sums is laid. -/
structure GSums (w : World) : Prop where
  at_ : ∀ i, i < 16 → w.cell? ⟨2, i, none⟩ = some (.int .u32 (sumsT.getD i 0 : Nat))
theorem GSums.below {w w' : World} (h : GSums w) (hb : Below w.heap.size w w') : GSums w' :=
  ⟨fun i hi => (hb.cell (p := ⟨_, i, none⟩) (by have := h.at_ i hi; exact cell_lt this)).trans (h.at_ i hi)⟩

section
variable {ops : Array Oper} {rest : List Oper} {o : Oper} {a : Act} {w : World} {Q : Exit → Act → World → Prop}
theorem bytesWorld_below (w : World) (e : TypeId) (s : ByteArray) : Below w.heap.size w (Lib.bytesWorld w e s) :=
  ⟨rfl, rfl, rfl, by rw [Lib.bytesWorld_size]; omega, fun k hk => Lib.bytesWorld_at_old w e s k hk⟩
/-- '[]byte(s)'. -/
theorem wpList_s2b (hw : Region.wanted o (yielded ops a.tmps) = true) (x : Operand) (ho : o.op = .convert 9 115 x) (s : ByteArray) (hx : a.eval x = .string s)
    (hk : ∀ (b cap : Nat) (w' : World), Below w.heap.size w w' → w.heap.size ≤ b → (∀ j, j < s.size → w'.cell? ⟨b, j, none⟩ = some (.int .u8 ((ls s).getD j 0).toNat)) →
      wpList Tryz.prog ops Q rest (a.put o.dst (.slice (some ⟨b, 0, none⟩) s.size cap)) w') : wpList Tryz.prog ops Q (o :: rest) a w :=
  BigFrame.wpList_want hw fun K hK => by
    unfold Oper.wp execOp
    simp only [ho, hx, Sem.run_bind, Lib.run_convert_string_bytes w _ _ _ s Tryz.underlying9 Tryz.underlying115 Tryz.underlying5, Result.andThen_ok]
    exact hK _ _ (hk _ _ _ (bytesWorld_below w _ s) (Nat.le_refl _) (fun j hj => Lib.bytesWorld_cell w _ s j hj))
end

set_option maxHeartbeats 4000000 in
theorem more_calls (s : ByteArray) (w : World) (hs : s.size ≤ 1000000) (hG : GSums w) :
    Calls Tryz.prog 156 #[.int .u32 0, .string s] w fun e w' => e = .returned (.int .u32 (crc (ls s) : Nat)) ∧ Below w.heap.size w w' := by
  have e0 : bits .xor .u32 IntKind.u32.max 0 = 4294967295 := by decide
  have sg : IntKind.u32.signed = false := rfl
  go_enter Tryz.func156, Tryz.ntmps156
  go_wp2_with (with_reducible refine wpList_s2b rfl _ rfl _ rfl ?_; intro bb cap w1 hb1 hbb hcells)
  have hG1 := hG.below hb1
  clear hG e0
  have HL : Hid (∀ j, j < s.size → w1.cell? ⟨bb, j, none⟩ = some (.int .u8 ((ls s).getD j 0).toNat)) := Lib.hid hcells
  clear hcells
  go_loopw [5, 13] (fun r iv wr => ∃ (k x : Nat), k ≤ s.size ∧ iv = .int .i64 k ∧ r = .int .u32 x ∧ x < 4294967296 ∧ wr = w1 ∧ x = ((ls s).take k).foldl crcB 4294967295) (fun _ i _ => s.size - (RowKit.intOf i).toNat)
  case atStart => exact ⟨0, 4294967295, by omega, rfl, rfl, by omega, rfl, rfl⟩
  case round =>
    obtain ⟨k, x, hk, rfl, rfl, hx, rfl, hfold⟩ := hrel
    by_cases hlt : k < s.size
    · have hc := HL.out k hlt
      have HF := Lib.hid hfold
      have hlen : k < (ls s).length := hlt
      have hcg : (ls s).getD k 0 = (ls s)[k] := by simp [List.getD, hlen]
      clear hfold
      rw [hcg] at hc
      generalize hcc : (ls s)[k] = c at *
      have hcl : c.toNat < 256 := c.toNat_lt
      have e1 : bits .xor .u32 (x : Int) (c.toNat : Int) = ((x ^^^ c.toNat : Nat) : Int) := u32_xor_nat x c.toNat hx (by omega)
      obtain ⟨x1, hx1⟩ : ∃ x1, x ^^^ c.toNat = x1 := ⟨_, rfl⟩
      have hl1 : x1 < 4294967296 := by rw [← hx1]; exact Nat.xor_lt_two_pow (n := 32) hx (by omega)
      rw [hx1] at e1
      obtain ⟨i1, hi1⟩ : ∃ i1, x1 &&& 15 = i1 := ⟨_, rfl⟩
      have hil1 : i1 < 16 := by rw [← hi1]; exact Nat.lt_of_le_of_lt Nat.and_le_right (by omega)
      have a1 : bits .and .u32 (x1 : Int) 15 = (i1 : Int) := by rw [← hi1]; exact u32_and_nat x1 15 hl1 (by omega)
      have g1 := hG1.at_ i1 hil1
      have ht1 := sumsT_lt i1
      obtain ⟨t1, htt1⟩ : ∃ t1, sumsT.getD i1 0 = t1 := ⟨_, rfl⟩
      rw [htt1] at g1 ht1
      obtain ⟨x2, hx2⟩ : ∃ x2, x1 / 16 ^^^ t1 = x2 := ⟨_, rfl⟩
      have hl2 : x2 < 4294967296 := by rw [← hx2]; exact Nat.xor_lt_two_pow (n := 32) (by omega) (by omega)
      have b1 : bits .xor .u32 ((x1 : Int) / 16) (t1 : Int) = (x2 : Int) := by rw [← hx2]; exact u32_xor_nat (x1 / 16) t1 (by omega) ht1
      obtain ⟨i2, hi2⟩ : ∃ i2, x2 &&& 15 = i2 := ⟨_, rfl⟩
      have hil2 : i2 < 16 := by rw [← hi2]; exact Nat.lt_of_le_of_lt Nat.and_le_right (by omega)
      have a2 : bits .and .u32 (x2 : Int) 15 = (i2 : Int) := by rw [← hi2]; exact u32_and_nat x2 15 hl2 (by omega)
      have g2 := hG1.at_ i2 hil2
      have ht2 := sumsT_lt i2
      obtain ⟨t2, htt2⟩ : ∃ t2, sumsT.getD i2 0 = t2 := ⟨_, rfl⟩
      rw [htt2] at g2 ht2
      obtain ⟨x3, hx3⟩ : ∃ x3, x2 / 16 ^^^ t2 = x3 := ⟨_, rfl⟩
      have hl3 : x3 < 4294967296 := by rw [← hx3]; exact Nat.xor_lt_two_pow (n := 32) (by omega) (by omega)
      have b2 : bits .xor .u32 ((x2 : Int) / 16) (t2 : Int) = (x3 : Int) := by rw [← hx3]; exact u32_xor_nat (x2 / 16) t2 (by omega) ht2
      have HS : Hid (x3 = ((ls s).take (k + 1)).foldl crcB 4294967295) := Lib.hid (by
        rw [List.take_add_one, List.foldl_append, ← HF.out, List.getElem?_eq_getElem hlen, hcc]
        simp only [Option.toList, List.foldl_cons, List.foldl_nil, crcB, crc4, hx1, hi1, htt1, hx2, hi2, htt2, hx3])
      clear hx1 hi1 htt1 hx2 hi2 htt2 hx3 hcc hcg hlen HF hx
      go_wp2
      go_roundw
      case rel => exact ⟨k + 1, x3, by omega, by first | rfl | simp, rfl, hl3, trivial, HS.out⟩
      case measure => simp [RowKit.intOf]; omega
    · obtain rfl : k = s.size := by omega
      have ha : bits .xor .u32 IntKind.u32.max (x : Int) = ((4294967295 ^^^ x : Nat) : Int) := u32_xor_nat 4294967295 x (by omega) hx
      have HS : Hid (crc (ls s) = 4294967295 ^^^ x) := Lib.hid (by
        rw [hfold, List.take_of_length_le (by rw [ls_length]; omega)]; rfl)
      clear hfold hx
      go_wp2
      go_ret
      exact ⟨by rw [HS.out]; rfl, hb1⟩
theorem sum_calls (s : ByteArray) (w : World) (hs : s.size ≤ 1000000) (hG : GSums w) :
    Calls Tryz.prog 137 #[.string s] w fun e w' => e = .returned (.int .u32 (crc (ls s) : Nat)) ∧ Below w.heap.size w w' := by
  go_enter Tryz.func137, Tryz.ntmps137
  go_wp2_with fail
  refine (more_calls s w hs hG).mono ?_
  rintro e w' ⟨rfl, hb⟩
  go_wp2_with fail
  go_ret
  exact ⟨rfl, hb⟩
end Go.Proofs.YtigihgbgdillpaaGreatDoor
