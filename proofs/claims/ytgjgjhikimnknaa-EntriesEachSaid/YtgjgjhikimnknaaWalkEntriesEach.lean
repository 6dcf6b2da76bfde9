/- The walk of EntriesEach: the law returns true. -/
import Derived.Test.YtgjgjhikimnknaaRowAct
import Derived.Test.YtgjgjhikimnknaaDoes15
import Derived.OpenShut
import Derived.Deep.Cut
set_option linter.unusedVariables false
set_option linter.unusedSimpArgs false
namespace Go.Proofs.Ytgjgjhikimnknaa
open Go.RowKit

def abc : ByteArray := { data := #[97, 98, 99, 100, 101, 102, 103, 104, 105, 106, 107, 108] }
theorem St.drop2b {S : List Nat} {w0 w : World} {p q r s : Blk} (h : St S w0 w [p, q, r, s]) : St S w0 w [p, q] :=
  ⟨h.os, h.tape, h.output, h.size, h.kept, fun x hx => h.own x (by simp at hx ⊢; rcases hx with h | h <;> simp [h]),
   (by have := h.nodup; simp at this ⊢; exact this.1.1), fun x hx => h.blk x (by simp at hx ⊢; rcases hx with h | h <;> simp [h])⟩
theorem abc_ok (k : Nat) (h : k < 12) : nameOk (abc.extract 0 (1 + k)) = true ∧ (abc.extract 0 (1 + k)).size = 1 + k := by
  rcases (by omega : k = 0 ∨ k = 1 ∨ k = 2 ∨ k = 3 ∨ k = 4 ∨ k = 5 ∨ k = 6 ∨ k = 7 ∨ k = 8 ∨ k = 9 ∨ k = 10 ∨ k = 11) with rfl | rfl | rfl | rfl | rfl | rfl | rfl | rfl | rfl | rfl | rfl | rfl
  all_goals exact ⟨by kernel_rfl, by kernel_rfl⟩
def eE1 (nm : ByteArray) : Ent := ⟨1, 0, 0, 0, nm, zeros 32, 0, 0⟩
def eE2 (s n : Int) (h : List UInt8) : Ent := ⟨2, s, n, n, noS, h, n, 1 + n⟩
def eE3 (s n : Int) : Ent := ⟨3, s, n, 0, noS, zeros 32, 0, 0⟩
def eE4 (s : Int) (nm : ByteArray) : Ent := ⟨4, s, 0, 0, nm, zeros 32, 0, 0⟩
def eE5 (s : Int) (nm : ByteArray) : Ent := ⟨5, s, 0, 0, nm, zeros 32, 0, 0⟩
def eE6 (s n : Int) : Ent := ⟨6, s, n, 0, noS, zeros 32, 0, 0⟩
/-- What the law asks of one entry. -/
structure Good (e : Ent) (k : Int) (want : Nat) : Prop where
  wf : e.Wf
  check : checkB e = true
  kind : e.kind = k
  len : (entBytes e).length = want
theorem p1 {n : Int} (h0 : 0 ≤ n) (h : n ≤ 255) : (putL n 1).length = 1 := by
  have := putL_fits (b := 1) (fits1 h0 h); rw [show ((1 : Nat) : Int) = 1 from rfl] at this; rw [this, be_length]
theorem p2 {n : Int} (h0 : 0 ≤ n) (h : n ≤ 65535) : (putL n 2).length = 2 := by
  have := putL_fits (b := 2) (fits2 h0 h); rw [show ((2 : Nat) : Int) = 2 from rfl] at this; rw [this, be_length]
theorem p4 {n : Int} (h0 : 0 ≤ n) (h : n ≤ 4294967295) : (putL n 4).length = 4 := by
  have := putL_fits (b := 4) (fits4 h0 h); rw [show ((4 : Nat) : Int) = 4 from rfl] at this; rw [this, be_length]
theorem pT {t : ByteArray} (h : t.size ≤ 65535) : (textL t).length = 2 + t.size := by
  rw [textL_short h, List.length_append, be_length, ls_length]
theorem i64_0 : I64 0 := by unfold I64; decide
theorem i64_of_range {n : Int} (h0 : 0 ≤ n) (h : n ≤ 1000) : I64 n := by unfold I64; omega
theorem wi {n m : Int} (h0 : 0 ≤ n) (h : n ≤ m) : withinB n m = true := by simp [withinB, h0, h]
theorem entEq_self (e : Ent) : entEq e e = true := by simp [entEq]
section
variable {s n : Int} {nm : ByteArray} {h : List UInt8} (hs0 : 0 ≤ s) (hs : s ≤ 7) (hn0 : 0 ≤ n) (hn : n ≤ 63) (hm : nm.size ≤ 12) (hok : nameOk nm = true) (hl : h.length = 32)
include hm hok in
theorem good1 : Good (eE1 nm) 1 (3 + nm.size) := by
  refine ⟨entN_wf (by unfold I64; decide) i64_0 i64_0 i64_0 (by omega) rfl i64_0 i64_0, ?_, rfl, ?_⟩
  · have e : checkB (eE1 nm) = (((nameOk nm && true) && true) && entEq ent0 ent0) := rfl
    rw [e, hok, entEq_self]; rfl
  · have e : entBytes (eE1 nm) = putL 1 1 ++ (textL nm ++ []) := rfl
    rw [e, List.length_append, List.length_append, p1 (by omega) (by omega), pT (by omega), List.length_nil]; omega
include hs0 hs hn0 hn hl in
theorem good2 : Good (eE2 s n h) 2 44 := by
  refine ⟨entN_wf (by unfold I64; decide) (i64_of_range hs0 (by omega)) (i64_of_range hn0 (by omega)) (i64_of_range hn0 (by omega)) (by decide) hl (i64_of_range hn0 (by omega)) (i64_of_range (by omega) (by omega)), ?_, rfl, ?_⟩
  · have e : checkB (eE2 s n h) = (((withinB s 7 && (withinB n (mostN 2) && ((withinB n 300 && (withinB n 512 && (decide (0 < 1 + n) && withinB (1 + n) (512 - n)))) && true))) && true) && entEq ent0 ent0) := rfl
    rw [e, wi hs0 hs, wi hn0 (show n ≤ mostN 2 by unfold mostN; simp; omega), wi hn0 (by omega), wi hn0 (by omega), wi (by omega) (by omega), entEq_self, decide_eq_true (by omega)]; rfl
  · have e : entBytes (eE2 s n h) = putL 2 1 ++ (putL s 1 ++ (putL n 4 ++ ((((putL n 2 ++ h) ++ putL n 2) ++ putL (1 + n) 2) ++ []))) := rfl
    rw [e]
    simp only [List.length_append, List.length_nil, p1 (show (0 : Int) ≤ 2 by omega) (by omega), p1 hs0 (by omega), p4 hn0 (by omega), p2 hn0 (by omega), p2 (show 0 ≤ 1 + n by omega) (by omega), hl]
include hs0 hs hn0 hn in
theorem good3 : Good (eE3 s n) 3 6 := by
  refine ⟨entN_wf (by unfold I64; decide) (i64_of_range hs0 (by omega)) (i64_of_range hn0 (by omega)) i64_0 (by decide) rfl i64_0 i64_0, ?_, rfl, ?_⟩
  · have e : checkB (eE3 s n) = (((withinB s 7 && (withinB n (mostN 3) && true)) && true) && entEq ent0 ent0) := rfl
    rw [e, wi hs0 hs, wi hn0 (show n ≤ mostN 3 by unfold mostN; simp; omega), entEq_self]; rfl
  · have e : entBytes (eE3 s n) = putL 3 1 ++ (putL s 1 ++ (putL n 4 ++ [])) := rfl
    rw [e]
    simp only [List.length_append, List.length_nil, p1 (show (0 : Int) ≤ 3 by omega) (by omega), p1 hs0 (by omega), p4 hn0 (by omega)]
include hs0 hs hm hok in
theorem good4 : Good (eE4 s nm) 4 (4 + nm.size) := by
  refine ⟨entN_wf (by unfold I64; decide) (i64_of_range hs0 (by omega)) i64_0 i64_0 (by omega) rfl i64_0 i64_0, ?_, rfl, ?_⟩
  · have e : checkB (eE4 s nm) = (((withinB s 7 && (nameOk nm && true)) && true) && entEq ent0 ent0) := rfl
    rw [e, wi hs0 hs, hok, entEq_self]; rfl
  · have e : entBytes (eE4 s nm) = putL 4 1 ++ (putL s 1 ++ (textL nm ++ [])) := rfl
    rw [e]
    simp only [List.length_append, List.length_nil, p1 (show (0 : Int) ≤ 4 by omega) (by omega), p1 hs0 (by omega), pT (show nm.size ≤ 65535 by omega)]
    omega
include hs0 hs hm hok in
theorem good5 : Good (eE5 s nm) 5 (4 + nm.size) := by
  refine ⟨entN_wf (by unfold I64; decide) (i64_of_range hs0 (by omega)) i64_0 i64_0 (by omega) rfl i64_0 i64_0, ?_, rfl, ?_⟩
  · have e : checkB (eE5 s nm) = (((withinB s 7 && (nameOk nm && true)) && true) && entEq ent0 ent0) := rfl
    rw [e, wi hs0 hs, hok, entEq_self]; rfl
  · have e : entBytes (eE5 s nm) = putL 5 1 ++ (putL s 1 ++ (textL nm ++ [])) := rfl
    rw [e]
    simp only [List.length_append, List.length_nil, p1 (show (0 : Int) ≤ 5 by omega) (by omega), p1 hs0 (by omega), pT (show nm.size ≤ 65535 by omega)]
    omega
include hs0 hs hn0 hn in
theorem good6 : Good (eE6 s n) 6 6 := by
  refine ⟨entN_wf (by unfold I64; decide) (i64_of_range hs0 (by omega)) (i64_of_range hn0 (by omega)) i64_0 (by decide) rfl i64_0 i64_0, ?_, rfl, ?_⟩
  · have e : checkB (eE6 s n) = (((withinB s 7 && (withinB n (mostN 6) && true)) && true) && entEq ent0 ent0) := rfl
    rw [e, wi hs0 hs, wi hn0 (show n ≤ mostN 6 by unfold mostN; simp; omega), entEq_self]; rfl
  · have e : entBytes (eE6 s n) = putL 6 1 ++ (putL s 1 ++ (putL n 4 ++ [])) := rfl
    rw [e]
    simp only [List.length_append, List.length_nil, p1 (show (0 : Int) ≤ 6 by omega) (by omega), p1 hs0 (by omega), p4 hn0 (by omega)]
end
/-- The string that one entry alone is encoded as. -/
structure OneS (e : Ent) (k : Nat) (want : Nat) (S : ByteArray) : Prop where
  enc : ∀ t, encF [e] = t → (mkS t.1 = S ∧ t.2 = 0)
  size : S.size = 2 + want
  head : (S.extract 0 2).toList = [0, 1]
  at2 : ∃ h : 2 < S.size, (S[2].toNat : Int) = k
theorem Good.one {e : Ent} {k want : Nat} (h : Good e k want) (hk0 : 1 ≤ k) (hk : k ≤ 6) : ∃ S, OneS e k want S := by
  have h1 := enc_of (m := [e]) (by simp [h.check]) (by simp)
  have e1 : putL (([e] : List Ent).length : Int) 2 = [0, 1] := by kernel_rfl
  have e2 : putL (k : Int) 1 = [UInt8.ofNat k] := by
    have := putL_fits (b := 1) (fits1 (n := (k : Int)) (by omega) (by omega))
    rw [show ((1 : Nat) : Int) = 1 from rfl] at this
    rw [this]
    show [UInt8.ofNat ((k : Int).toNat / 256 ^ 0)] = _
    rw [Nat.pow_zero, Nat.div_one]
    rfl
  have e3 : encBytes [e] = 0 :: 1 :: UInt8.ofNat k :: (fieldsL e.kind).flatMap (fieldBytes e) := by
    unfold encBytes
    rw [e1, List.flatMap_cons, List.flatMap_nil, List.append_nil]
    unfold entBytes
    rw [h.kind, e2]
    rfl
  have e4 : (encBytes [e]).length = 2 + want := by
    unfold encBytes
    rw [e1, List.flatMap_cons, List.flatMap_nil, List.append_nil, List.length_append, h.len]
    rfl
  have hS : (mkS (encBytes [e])).size = 2 + want := by rw [size_mkS, e4]
  have hw : 1 ≤ want := by rw [e3] at e4; simp at e4; omega
  refine ⟨mkS (encBytes [e]), ?_, hS, ?_, ⟨by omega, ?_⟩⟩
  · rintro t rfl
    rw [h1]
    exact ⟨rfl, rfl⟩
  · have := text_extract (mkS (encBytes [e])) 0 2
    rw [Nat.zero_add] at this
    rw [this, toList_ls, ls_mkS]
    unfold sub
    rw [ls_mkS, e3]
    rfl
  · have h2 : 2 < (encBytes [e]).length := by omega
    show (((encBytes [e]).toArray[2]'(by simpa using h2)).toNat : Int) = k
    simp only [e3, List.getElem_toArray, List.getElem_cons_succ, List.getElem_cons_zero, UInt8.toNat_ofNat']
    omega

instance : OneT 5 := ⟨fun w => by kernel_rfl, by kernel_rfl⟩
set_option maxHeartbeats 8000000 in
set_option maxRecDepth 100000 in
theorem entriesEach_walk (v0 : Value) (l : List UInt8) (v1 : Value) (h : List UInt8) (w : World) (h0 : v0 = .agg (u8s l).toArray ∧ l.length = 3) (h1 : v1 = .agg (u8s h).toArray ∧ h.length = 32) :
    Calls Try.prog 9 #[v0, v1] w fun e w' => e = .returned (.bool true) ∧ Below w.heap.size w w' := by
  obtain ⟨rfl, hl3⟩ := h0
  obtain ⟨rfl, hl⟩ := h1
  obtain ⟨a, b, c, rfl⟩ : ∃ a b c, l = [a, b, c] := by
    match l, hl3 with
    | [a, b, c], _ => exact ⟨a, b, c, rfl⟩
  rw [← hashL_eq h hl]
  show Calls Try.prog 9 #[.agg #[.int .u8 (a.toNat : Int), .int .u8 (b.toNat : Int), .int .u8 (c.toNat : Int)], .agg (hashL h).toArray] w _
  have ha := a.toNat_lt
  have hb := b.toNat_lt
  have hc := c.toNat_lt
  generalize a.toNat = x at *
  generalize b.toNat = y at *
  generalize c.toNat = z at *
  clear hl3
  have hst := St.start w
  have a0 : (0 : Int) ≤ (x : Int) := by omega
  have a1 : (x : Int) ≤ 255 := by omega
  have b0 : (0 : Int) ≤ (y : Int) := by omega
  have b1 : (y : Int) ≤ 255 := by omega
  have c0 : (0 : Int) ≤ (z : Int) := by omega
  have c1 : (z : Int) ≤ 255 := by omega
  have cA : CellAt #[.int .u8 (x : Int), .int .u8 (y : Int), .int .u8 (z : Int)] 0 (.int .u8 (x : Int)) := ⟨rfl⟩
  have cB : CellAt #[.int .u8 (x : Int), .int .u8 (y : Int), .int .u8 (z : Int)] 1 (.int .u8 (y : Int)) := ⟨rfl⟩
  have cC : CellAt #[.int .u8 (x : Int), .int .u8 (y : Int), .int .u8 (z : Int)] 2 (.int .u8 (z : Int)) := ⟨rfl⟩
  go_enter Try.func9, Try.ntmps9
  go_wp2_with (first
    | (with_reducible refine wpList_box rfl _ _ rfl (by assumption) #[.int .u8 (x : Int), .int .u8 (y : Int), .int .u8 (z : Int)] rfl ?_; intro bA w' hst)
    | (with_reducible refine wpList_box rfl _ _ rfl (by assumption) (hashL h).toArray rfl ?_; intro bH w' hst))
  have hq := hst.quiet
  refine wp_region_below_lit (by kernel_rfl) (by kernel_rfl) ?_
  repeat (first
    | (with_reducible refine wpQuiet_ld rfl _ _ rfl _ _ rfl hq ?_; simp only [Act.put, List.setIfInBounds_toArray, List.set_cons_succ, List.set_cons_zero])
    | go_big_quiet_step (fail))
  refine wpQuiet_nil ?_
  intro w21 hw21
  have h21 := hq w21 hw21
  clear hq hw21 hst
  have s0 : 0 ≤ (x : Int) % 8 := Int.emod_nonneg _ (by omega)
  have s1 : (x : Int) % 8 ≤ 7 := by omega
  have n0 : 0 ≤ (y : Int) % 64 := Int.emod_nonneg _ (by omega)
  have n1 : (y : Int) % 64 ≤ 63 := by omega
  generalize (x : Int) % 8 = s at *
  generalize (y : Int) % 64 = n at *
  clear ha hb a0 a1 b0 b1 cA cB
  have z0 : 0 ≤ (z : Int) % 12 := Int.emod_nonneg _ (by omega)
  have z1 : (z : Int) % 12 ≤ 11 := by omega
  go_upto_region 3 with ((first
      | (with_reducible refine wpList_neqE rfl _ _ _ rfl _ _ rfl rfl ?_)
      | (with_reducible refine wpList_eqlE rfl _ _ _ rfl _ _ rfl rfl ?_)
      | (with_reducible refine wpList_ld rfl _ _ rfl _ _ rfl (by assumption) ?_)
      | (with_reducible refine wpList_lda rfl _ _ rfl _ _ rfl (by assumption) ?_)
      | (with_reducible refine wpList_stI rfl _ _ _ rfl _ _ rfl _ _ rfl (by assumption) ?_; intro w' hst)
      | (with_reducible refine wpList_stS rfl _ _ _ rfl _ _ rfl _ rfl (by assumption) ?_; intro w' hst)
      | (with_reducible refine wpList_stB rfl _ _ _ rfl _ _ rfl _ rfl (by assumption) ?_; intro w' hst)
      | (with_reducible refine wpList_stA rfl _ _ _ rfl _ _ rfl _ rfl (by assumption) ?_; intro w' hst)
      | (with_reducible refine wpList_box rfl _ _ rfl (by assumption) _ rfl ?_; intro bb w' hst)
      | (with_reducible refine wpList_new rfl _ rfl (by assumption) _ zero_ent ?_; intro bn w' hst)
      | (with_reducible refine wpList_new rfl _ rfl (by assumption) _ zero_run ?_; intro br w' hst)))
  have hok := abc_ok (z % 12) (by omega)
  rw [show ({ data := #[97, 98, 99, 100, 101, 102, 103, 104, 105, 106, 107, 108] } : ByteArray) = abc from rfl]
  generalize abc.extract 0 (1 + z % 12) = nm at *
  obtain ⟨hok, hsize⟩ := hok
  have hm : nm.size ≤ 12 := by omega
  have HG1 := Lib.hid (good1 hm hok)
  have HG2 := Lib.hid (good2 s0 s1 n0 n1 hl)
  have HG3 := Lib.hid (good3 s0 s1 n0 n1)
  have HG4 := Lib.hid (good4 s0 s1 hm hok)
  have HG5 := Lib.hid (good5 s0 s1 hm hok)
  have HG6 := Lib.hid (good6 s0 s1 n0 n1)
  clear hok hsize z0 z1 c0 c1 hc cC
  go_wp2_with (first
    | (refine wpList_val rfl 28 rfl (.agg (entL (eE1 nm)).toArray) (fun w => by kernel_rfl) ?_)
    | (refine wpList_val rfl 37 rfl (.agg (entL (eE2 s n h)).toArray) (fun w => by kernel_rfl) ?_)
    | (refine wpList_val rfl 40 rfl (.agg (entL (eE3 s n)).toArray) (fun w => by kernel_rfl) ?_)
    | (refine wpList_val rfl 43 rfl (.agg (entL (eE4 s nm)).toArray) (fun w => by kernel_rfl) ?_)
    | (refine wpList_val rfl 46 rfl (.agg (entL (eE5 s nm)).toArray) (fun w => by kernel_rfl) ?_)
    | (refine wpList_val rfl 49 rfl (.agg (entL (eE6 s n)).toArray) (fun w => by kernel_rfl) ?_)
    | (refine wpList_blk rfl 50 rfl h21 ([eE1 nm, eE2 s n h, eE3 s n, eE4 s nm, eE5 s nm, eE6 s n].flatMap entL).toArray 27 (fun b => .slice (some ⟨b, 0, none⟩) 6 6) (fun w => by kernel_rfl) ?_
       intro bE wE hbE hsE)
    | (refine wpList_blk rfl 60 rfl hsE #[.int .i64 (3 + (nm.size : Int)), .int .i64 44, .int .i64 6, .int .i64 (4 + (nm.size : Int)), .int .i64 (4 + (nm.size : Int)), .int .i64 6] 3 (fun b => .slice (some ⟨b, 0, none⟩) 6 6) (fun w => by kernel_rfl) ?_
       intro bW wW hbW hsW)
    | (first
      | (with_reducible refine wpList_neqE rfl _ _ _ rfl _ _ rfl rfl ?_)
      | (with_reducible refine wpList_eqlE rfl _ _ _ rfl _ _ rfl rfl ?_)
      | (with_reducible refine wpList_ld rfl _ _ rfl _ _ rfl (by assumption) ?_)
      | (with_reducible refine wpList_lda rfl _ _ rfl _ _ rfl (by assumption) ?_)
      | (with_reducible refine wpList_stI rfl _ _ _ rfl _ _ rfl _ _ rfl (by assumption) ?_; intro w' hst)
      | (with_reducible refine wpList_stS rfl _ _ _ rfl _ _ rfl _ rfl (by assumption) ?_; intro w' hst)
      | (with_reducible refine wpList_stB rfl _ _ _ rfl _ _ rfl _ rfl (by assumption) ?_; intro w' hst)
      | (with_reducible refine wpList_stA rfl _ _ _ rfl _ _ rfl _ rfl (by assumption) ?_; intro w' hst)
      | (with_reducible refine wpList_box rfl _ _ rfl (by assumption) _ rfl ?_; intro bb w' hst)
      | (with_reducible refine wpList_new rfl _ rfl (by assumption) _ zero_ent ?_; intro bn w' hst)
      | (with_reducible refine wpList_new rfl _ rfl (by assumption) _ zero_run ?_; intro br w' hst)))
  go_loopw [10] (fun iv wr => ∃ k : Nat, k ≤ 6 ∧ iv = .int .i64 k ∧ St [] w wr [(bW, #[.int .i64 (3 + (nm.size : Int)), .int .i64 44, .int .i64 6, .int .i64 (4 + (nm.size : Int)), .int .i64 (4 + (nm.size : Int)), .int .i64 6], 3), (bE, ([eE1 nm, eE2 s n h, eE3 s n, eE4 s nm, eE5 s nm, eE6 s n].flatMap entL).toArray, 27)]) (fun i _ => 6 - (intOf i).toNat)
  case atStart => exact ⟨0, by omega, rfl, hsW.drop2b⟩
  case round =>
    obtain ⟨k, hk, rfl, hs⟩ := hrel
    clear hsW hsE h21
    rcases (by omega : k = 0 ∨ k = 1 ∨ k = 2 ∨ k = 3 ∨ k = 4 ∨ k = 5 ∨ k = 6) with rfl | rfl | rfl | rfl | rfl | rfl | rfl
    · have G := HG1
      have wI : PartAt ([eE1 nm, eE2 s n h, eE3 s n, eE4 s nm, eE5 s nm, eE6 s n].flatMap entL).toArray 0 39 (entL (eE1 nm)) := by
        have := partEnts [eE1 nm, eE2 s n h, eE3 s n, eE4 s nm, eE5 s nm, eE6 s n] [] 0 (by simp)
        rw [List.append_nil] at this
        exact this
      have hrow : EntRow wr (.slice (some ⟨bE, 0, none⟩) 1 6) [eE1 nm] := entRow_cells (hs.has (g := bE)) rfl (by intro x hx; rw [List.mem_singleton.1 hx]; exact G.out.wf) (by unfold maxLen; simp) (fun i hi j hj => by
        obtain rfl : i = 0 := by simpa using hi
        rw [Nat.zero_mul, Nat.zero_add]
        rw [wI.eq j _ (List.getElem?_eq_getElem (show j < (entL (eE1 nm)).length from hj))]
        simp [entC])
      obtain ⟨S, hS⟩ := Good.one (k := 1) G.out (by omega) (by omega)
      have HS := Lib.hid hS
      obtain ⟨hlt2, hat⟩ := hS.at2
      have hsz : S.size = 2 + (3 + nm.size) := hS.size
      have hsz' : ((S.size : Int) != 2 + (3 + (nm.size : Int))) = false := by rw [hsz]; simp
      have hh := hS.head
      have hCE : CellAt #[.int .i64 (3 + (nm.size : Int)), .int .i64 44, .int .i64 6, .int .i64 (4 + (nm.size : Int)), .int .i64 (4 + (nm.size : Int)), .int .i64 6] 0 (.int .i64 (3 + (nm.size : Int))) := ⟨rfl⟩
      clear hS
      generalize hE : eE1 nm = E at *
      have HE := Lib.hid hE
      clear hE
      go_wp2_with fail
      refine (encode_calls _ _ _ hrow (by simp)).mono ?_
      rintro r w1 ⟨rfl, hb1⟩
      rw [(HS.out.enc _ rfl).1, (HS.out.enc _ rfl).2]
      have hs1 := hs.below hb1
      clear hb1 hs hrow
      go_wp2_with (first
      | (with_reducible refine wpList_neqE rfl _ _ _ rfl _ _ rfl rfl ?_)
      | (with_reducible refine wpList_eqlE rfl _ _ _ rfl _ _ rfl rfl ?_)
      | (with_reducible refine wpList_ld rfl _ _ rfl _ _ rfl (by assumption) ?_)
      | (with_reducible refine wpList_lda rfl _ _ rfl _ _ rfl (by assumption) ?_)
      | (with_reducible refine wpList_stI rfl _ _ _ rfl _ _ rfl _ _ rfl (by assumption) ?_; intro w' hst)
      | (with_reducible refine wpList_stS rfl _ _ _ rfl _ _ rfl _ rfl (by assumption) ?_; intro w' hst)
      | (with_reducible refine wpList_stB rfl _ _ _ rfl _ _ rfl _ rfl (by assumption) ?_; intro w' hst)
      | (with_reducible refine wpList_stA rfl _ _ _ rfl _ _ rfl _ rfl (by assumption) ?_; intro w' hst)
      | (with_reducible refine wpList_box rfl _ _ rfl (by assumption) _ rfl ?_; intro bb w' hst)
      | (with_reducible refine wpList_new rfl _ rfl (by assumption) _ zero_ent ?_; intro bn w' hst)
      | (with_reducible refine wpList_new rfl _ rfl (by assumption) _ zero_run ?_; intro br w' hst))
      refine (check_calls E G.out.wf _).mono ?_
      rintro r w2 ⟨rfl, hb2⟩
      rw [G.out.check]
      have hs2 := hs1.below hb2
      clear hb2 hs1
      unfold errOf
      go_wp2_with (first
      | (with_reducible refine wpList_neqE rfl _ _ _ rfl _ _ rfl rfl ?_)
      | (with_reducible refine wpList_eqlE rfl _ _ _ rfl _ _ rfl rfl ?_)
      | (with_reducible refine wpList_ld rfl _ _ rfl _ _ rfl (by assumption) ?_)
      | (with_reducible refine wpList_lda rfl _ _ rfl _ _ rfl (by assumption) ?_)
      | (with_reducible refine wpList_stI rfl _ _ _ rfl _ _ rfl _ _ rfl (by assumption) ?_; intro w' hst)
      | (with_reducible refine wpList_stS rfl _ _ _ rfl _ _ rfl _ rfl (by assumption) ?_; intro w' hst)
      | (with_reducible refine wpList_stB rfl _ _ _ rfl _ _ rfl _ rfl (by assumption) ?_; intro w' hst)
      | (with_reducible refine wpList_stA rfl _ _ _ rfl _ _ rfl _ rfl (by assumption) ?_; intro w' hst)
      | (with_reducible refine wpList_box rfl _ _ rfl (by assumption) _ rfl ?_; intro bb w' hst)
      | (with_reducible refine wpList_new rfl _ rfl (by assumption) _ zero_ent ?_; intro bn w' hst)
      | (with_reducible refine wpList_new rfl _ rfl (by assumption) _ zero_run ?_; intro br w' hst))
      go_roundw
      case rel => exact ⟨1, by omega, rfl, hs2⟩
      case measure => simp [intOf]
    · have G := HG2
      have wI : PartAt ([eE1 nm, eE2 s n h, eE3 s n, eE4 s nm, eE5 s nm, eE6 s n].flatMap entL).toArray 39 39 (entL (eE2 s n h)) := by
        have := partEnts [eE1 nm, eE2 s n h, eE3 s n, eE4 s nm, eE5 s nm, eE6 s n] [] 1 (by simp)
        rw [List.append_nil] at this
        exact this
      have hrow : EntRow wr (.slice (some ⟨bE, 39, none⟩) 1 5) [eE2 s n h] := entRow_cells (hs.has (g := bE)) rfl (by intro x hx; rw [List.mem_singleton.1 hx]; exact G.out.wf) (by unfold maxLen; simp) (fun i hi j hj => by
        obtain rfl : i = 0 := by simpa using hi
        rw [Nat.zero_mul, Nat.zero_add]
        rw [wI.eq j _ (List.getElem?_eq_getElem (show j < (entL (eE2 s n h)).length from hj))]
        simp [entC])
      obtain ⟨S, hS⟩ := Good.one (k := 2) G.out (by omega) (by omega)
      have HS := Lib.hid hS
      obtain ⟨hlt2, hat⟩ := hS.at2
      have hsz : S.size = 2 + (44) := hS.size
      have hsz' : ((S.size : Int) != 2 + (44)) = false := by rw [hsz]; simp
      have hh := hS.head
      have hCE : CellAt #[.int .i64 (3 + (nm.size : Int)), .int .i64 44, .int .i64 6, .int .i64 (4 + (nm.size : Int)), .int .i64 (4 + (nm.size : Int)), .int .i64 6] 1 (.int .i64 (44)) := ⟨rfl⟩
      clear hS
      generalize hE : eE2 s n h = E at *
      have HE := Lib.hid hE
      clear hE
      go_wp2_with fail
      refine (encode_calls _ _ _ hrow (by simp)).mono ?_
      rintro r w1 ⟨rfl, hb1⟩
      rw [(HS.out.enc _ rfl).1, (HS.out.enc _ rfl).2]
      have hs1 := hs.below hb1
      clear hb1 hs hrow
      go_wp2_with (first
      | (with_reducible refine wpList_neqE rfl _ _ _ rfl _ _ rfl rfl ?_)
      | (with_reducible refine wpList_eqlE rfl _ _ _ rfl _ _ rfl rfl ?_)
      | (with_reducible refine wpList_ld rfl _ _ rfl _ _ rfl (by assumption) ?_)
      | (with_reducible refine wpList_lda rfl _ _ rfl _ _ rfl (by assumption) ?_)
      | (with_reducible refine wpList_stI rfl _ _ _ rfl _ _ rfl _ _ rfl (by assumption) ?_; intro w' hst)
      | (with_reducible refine wpList_stS rfl _ _ _ rfl _ _ rfl _ rfl (by assumption) ?_; intro w' hst)
      | (with_reducible refine wpList_stB rfl _ _ _ rfl _ _ rfl _ rfl (by assumption) ?_; intro w' hst)
      | (with_reducible refine wpList_stA rfl _ _ _ rfl _ _ rfl _ rfl (by assumption) ?_; intro w' hst)
      | (with_reducible refine wpList_box rfl _ _ rfl (by assumption) _ rfl ?_; intro bb w' hst)
      | (with_reducible refine wpList_new rfl _ rfl (by assumption) _ zero_ent ?_; intro bn w' hst)
      | (with_reducible refine wpList_new rfl _ rfl (by assumption) _ zero_run ?_; intro br w' hst))
      refine (check_calls E G.out.wf _).mono ?_
      rintro r w2 ⟨rfl, hb2⟩
      rw [G.out.check]
      have hs2 := hs1.below hb2
      clear hb2 hs1
      unfold errOf
      go_wp2_with (first
      | (with_reducible refine wpList_neqE rfl _ _ _ rfl _ _ rfl rfl ?_)
      | (with_reducible refine wpList_eqlE rfl _ _ _ rfl _ _ rfl rfl ?_)
      | (with_reducible refine wpList_ld rfl _ _ rfl _ _ rfl (by assumption) ?_)
      | (with_reducible refine wpList_lda rfl _ _ rfl _ _ rfl (by assumption) ?_)
      | (with_reducible refine wpList_stI rfl _ _ _ rfl _ _ rfl _ _ rfl (by assumption) ?_; intro w' hst)
      | (with_reducible refine wpList_stS rfl _ _ _ rfl _ _ rfl _ rfl (by assumption) ?_; intro w' hst)
      | (with_reducible refine wpList_stB rfl _ _ _ rfl _ _ rfl _ rfl (by assumption) ?_; intro w' hst)
      | (with_reducible refine wpList_stA rfl _ _ _ rfl _ _ rfl _ rfl (by assumption) ?_; intro w' hst)
      | (with_reducible refine wpList_box rfl _ _ rfl (by assumption) _ rfl ?_; intro bb w' hst)
      | (with_reducible refine wpList_new rfl _ rfl (by assumption) _ zero_ent ?_; intro bn w' hst)
      | (with_reducible refine wpList_new rfl _ rfl (by assumption) _ zero_run ?_; intro br w' hst))
      go_roundw
      case rel => exact ⟨2, by omega, rfl, hs2⟩
      case measure => simp [intOf]
    · have G := HG3
      have wI : PartAt ([eE1 nm, eE2 s n h, eE3 s n, eE4 s nm, eE5 s nm, eE6 s n].flatMap entL).toArray 78 39 (entL (eE3 s n)) := by
        have := partEnts [eE1 nm, eE2 s n h, eE3 s n, eE4 s nm, eE5 s nm, eE6 s n] [] 2 (by simp)
        rw [List.append_nil] at this
        exact this
      have hrow : EntRow wr (.slice (some ⟨bE, 78, none⟩) 1 4) [eE3 s n] := entRow_cells (hs.has (g := bE)) rfl (by intro x hx; rw [List.mem_singleton.1 hx]; exact G.out.wf) (by unfold maxLen; simp) (fun i hi j hj => by
        obtain rfl : i = 0 := by simpa using hi
        rw [Nat.zero_mul, Nat.zero_add]
        rw [wI.eq j _ (List.getElem?_eq_getElem (show j < (entL (eE3 s n)).length from hj))]
        simp [entC])
      obtain ⟨S, hS⟩ := Good.one (k := 3) G.out (by omega) (by omega)
      have HS := Lib.hid hS
      obtain ⟨hlt2, hat⟩ := hS.at2
      have hsz : S.size = 2 + (6) := hS.size
      have hsz' : ((S.size : Int) != 2 + (6)) = false := by rw [hsz]; simp
      have hh := hS.head
      have hCE : CellAt #[.int .i64 (3 + (nm.size : Int)), .int .i64 44, .int .i64 6, .int .i64 (4 + (nm.size : Int)), .int .i64 (4 + (nm.size : Int)), .int .i64 6] 2 (.int .i64 (6)) := ⟨rfl⟩
      clear hS
      generalize hE : eE3 s n = E at *
      have HE := Lib.hid hE
      clear hE
      go_wp2_with fail
      refine (encode_calls _ _ _ hrow (by simp)).mono ?_
      rintro r w1 ⟨rfl, hb1⟩
      rw [(HS.out.enc _ rfl).1, (HS.out.enc _ rfl).2]
      have hs1 := hs.below hb1
      clear hb1 hs hrow
      go_wp2_with (first
      | (with_reducible refine wpList_neqE rfl _ _ _ rfl _ _ rfl rfl ?_)
      | (with_reducible refine wpList_eqlE rfl _ _ _ rfl _ _ rfl rfl ?_)
      | (with_reducible refine wpList_ld rfl _ _ rfl _ _ rfl (by assumption) ?_)
      | (with_reducible refine wpList_lda rfl _ _ rfl _ _ rfl (by assumption) ?_)
      | (with_reducible refine wpList_stI rfl _ _ _ rfl _ _ rfl _ _ rfl (by assumption) ?_; intro w' hst)
      | (with_reducible refine wpList_stS rfl _ _ _ rfl _ _ rfl _ rfl (by assumption) ?_; intro w' hst)
      | (with_reducible refine wpList_stB rfl _ _ _ rfl _ _ rfl _ rfl (by assumption) ?_; intro w' hst)
      | (with_reducible refine wpList_stA rfl _ _ _ rfl _ _ rfl _ rfl (by assumption) ?_; intro w' hst)
      | (with_reducible refine wpList_box rfl _ _ rfl (by assumption) _ rfl ?_; intro bb w' hst)
      | (with_reducible refine wpList_new rfl _ rfl (by assumption) _ zero_ent ?_; intro bn w' hst)
      | (with_reducible refine wpList_new rfl _ rfl (by assumption) _ zero_run ?_; intro br w' hst))
      refine (check_calls E G.out.wf _).mono ?_
      rintro r w2 ⟨rfl, hb2⟩
      rw [G.out.check]
      have hs2 := hs1.below hb2
      clear hb2 hs1
      unfold errOf
      go_wp2_with (first
      | (with_reducible refine wpList_neqE rfl _ _ _ rfl _ _ rfl rfl ?_)
      | (with_reducible refine wpList_eqlE rfl _ _ _ rfl _ _ rfl rfl ?_)
      | (with_reducible refine wpList_ld rfl _ _ rfl _ _ rfl (by assumption) ?_)
      | (with_reducible refine wpList_lda rfl _ _ rfl _ _ rfl (by assumption) ?_)
      | (with_reducible refine wpList_stI rfl _ _ _ rfl _ _ rfl _ _ rfl (by assumption) ?_; intro w' hst)
      | (with_reducible refine wpList_stS rfl _ _ _ rfl _ _ rfl _ rfl (by assumption) ?_; intro w' hst)
      | (with_reducible refine wpList_stB rfl _ _ _ rfl _ _ rfl _ rfl (by assumption) ?_; intro w' hst)
      | (with_reducible refine wpList_stA rfl _ _ _ rfl _ _ rfl _ rfl (by assumption) ?_; intro w' hst)
      | (with_reducible refine wpList_box rfl _ _ rfl (by assumption) _ rfl ?_; intro bb w' hst)
      | (with_reducible refine wpList_new rfl _ rfl (by assumption) _ zero_ent ?_; intro bn w' hst)
      | (with_reducible refine wpList_new rfl _ rfl (by assumption) _ zero_run ?_; intro br w' hst))
      go_roundw
      case rel => exact ⟨3, by omega, rfl, hs2⟩
      case measure => simp [intOf]
    · have G := HG4
      have wI : PartAt ([eE1 nm, eE2 s n h, eE3 s n, eE4 s nm, eE5 s nm, eE6 s n].flatMap entL).toArray 117 39 (entL (eE4 s nm)) := by
        have := partEnts [eE1 nm, eE2 s n h, eE3 s n, eE4 s nm, eE5 s nm, eE6 s n] [] 3 (by simp)
        rw [List.append_nil] at this
        exact this
      have hrow : EntRow wr (.slice (some ⟨bE, 117, none⟩) 1 3) [eE4 s nm] := entRow_cells (hs.has (g := bE)) rfl (by intro x hx; rw [List.mem_singleton.1 hx]; exact G.out.wf) (by unfold maxLen; simp) (fun i hi j hj => by
        obtain rfl : i = 0 := by simpa using hi
        rw [Nat.zero_mul, Nat.zero_add]
        rw [wI.eq j _ (List.getElem?_eq_getElem (show j < (entL (eE4 s nm)).length from hj))]
        simp [entC])
      obtain ⟨S, hS⟩ := Good.one (k := 4) G.out (by omega) (by omega)
      have HS := Lib.hid hS
      obtain ⟨hlt2, hat⟩ := hS.at2
      have hsz : S.size = 2 + (4 + nm.size) := hS.size
      have hsz' : ((S.size : Int) != 2 + (4 + (nm.size : Int))) = false := by rw [hsz]; simp
      have hh := hS.head
      have hCE : CellAt #[.int .i64 (3 + (nm.size : Int)), .int .i64 44, .int .i64 6, .int .i64 (4 + (nm.size : Int)), .int .i64 (4 + (nm.size : Int)), .int .i64 6] 3 (.int .i64 (4 + (nm.size : Int))) := ⟨rfl⟩
      clear hS
      generalize hE : eE4 s nm = E at *
      have HE := Lib.hid hE
      clear hE
      go_wp2_with fail
      refine (encode_calls _ _ _ hrow (by simp)).mono ?_
      rintro r w1 ⟨rfl, hb1⟩
      rw [(HS.out.enc _ rfl).1, (HS.out.enc _ rfl).2]
      have hs1 := hs.below hb1
      clear hb1 hs hrow
      go_wp2_with (first
      | (with_reducible refine wpList_neqE rfl _ _ _ rfl _ _ rfl rfl ?_)
      | (with_reducible refine wpList_eqlE rfl _ _ _ rfl _ _ rfl rfl ?_)
      | (with_reducible refine wpList_ld rfl _ _ rfl _ _ rfl (by assumption) ?_)
      | (with_reducible refine wpList_lda rfl _ _ rfl _ _ rfl (by assumption) ?_)
      | (with_reducible refine wpList_stI rfl _ _ _ rfl _ _ rfl _ _ rfl (by assumption) ?_; intro w' hst)
      | (with_reducible refine wpList_stS rfl _ _ _ rfl _ _ rfl _ rfl (by assumption) ?_; intro w' hst)
      | (with_reducible refine wpList_stB rfl _ _ _ rfl _ _ rfl _ rfl (by assumption) ?_; intro w' hst)
      | (with_reducible refine wpList_stA rfl _ _ _ rfl _ _ rfl _ rfl (by assumption) ?_; intro w' hst)
      | (with_reducible refine wpList_box rfl _ _ rfl (by assumption) _ rfl ?_; intro bb w' hst)
      | (with_reducible refine wpList_new rfl _ rfl (by assumption) _ zero_ent ?_; intro bn w' hst)
      | (with_reducible refine wpList_new rfl _ rfl (by assumption) _ zero_run ?_; intro br w' hst))
      refine (check_calls E G.out.wf _).mono ?_
      rintro r w2 ⟨rfl, hb2⟩
      rw [G.out.check]
      have hs2 := hs1.below hb2
      clear hb2 hs1
      unfold errOf
      go_wp2_with (first
      | (with_reducible refine wpList_neqE rfl _ _ _ rfl _ _ rfl rfl ?_)
      | (with_reducible refine wpList_eqlE rfl _ _ _ rfl _ _ rfl rfl ?_)
      | (with_reducible refine wpList_ld rfl _ _ rfl _ _ rfl (by assumption) ?_)
      | (with_reducible refine wpList_lda rfl _ _ rfl _ _ rfl (by assumption) ?_)
      | (with_reducible refine wpList_stI rfl _ _ _ rfl _ _ rfl _ _ rfl (by assumption) ?_; intro w' hst)
      | (with_reducible refine wpList_stS rfl _ _ _ rfl _ _ rfl _ rfl (by assumption) ?_; intro w' hst)
      | (with_reducible refine wpList_stB rfl _ _ _ rfl _ _ rfl _ rfl (by assumption) ?_; intro w' hst)
      | (with_reducible refine wpList_stA rfl _ _ _ rfl _ _ rfl _ rfl (by assumption) ?_; intro w' hst)
      | (with_reducible refine wpList_box rfl _ _ rfl (by assumption) _ rfl ?_; intro bb w' hst)
      | (with_reducible refine wpList_new rfl _ rfl (by assumption) _ zero_ent ?_; intro bn w' hst)
      | (with_reducible refine wpList_new rfl _ rfl (by assumption) _ zero_run ?_; intro br w' hst))
      go_roundw
      case rel => exact ⟨4, by omega, rfl, hs2⟩
      case measure => simp [intOf]
    · have G := HG5
      have wI : PartAt ([eE1 nm, eE2 s n h, eE3 s n, eE4 s nm, eE5 s nm, eE6 s n].flatMap entL).toArray 156 39 (entL (eE5 s nm)) := by
        have := partEnts [eE1 nm, eE2 s n h, eE3 s n, eE4 s nm, eE5 s nm, eE6 s n] [] 4 (by simp)
        rw [List.append_nil] at this
        exact this
      have hrow : EntRow wr (.slice (some ⟨bE, 156, none⟩) 1 2) [eE5 s nm] := entRow_cells (hs.has (g := bE)) rfl (by intro x hx; rw [List.mem_singleton.1 hx]; exact G.out.wf) (by unfold maxLen; simp) (fun i hi j hj => by
        obtain rfl : i = 0 := by simpa using hi
        rw [Nat.zero_mul, Nat.zero_add]
        rw [wI.eq j _ (List.getElem?_eq_getElem (show j < (entL (eE5 s nm)).length from hj))]
        simp [entC])
      obtain ⟨S, hS⟩ := Good.one (k := 5) G.out (by omega) (by omega)
      have HS := Lib.hid hS
      obtain ⟨hlt2, hat⟩ := hS.at2
      have hsz : S.size = 2 + (4 + nm.size) := hS.size
      have hsz' : ((S.size : Int) != 2 + (4 + (nm.size : Int))) = false := by rw [hsz]; simp
      have hh := hS.head
      have hCE : CellAt #[.int .i64 (3 + (nm.size : Int)), .int .i64 44, .int .i64 6, .int .i64 (4 + (nm.size : Int)), .int .i64 (4 + (nm.size : Int)), .int .i64 6] 4 (.int .i64 (4 + (nm.size : Int))) := ⟨rfl⟩
      clear hS
      generalize hE : eE5 s nm = E at *
      have HE := Lib.hid hE
      clear hE
      go_wp2_with fail
      refine (encode_calls _ _ _ hrow (by simp)).mono ?_
      rintro r w1 ⟨rfl, hb1⟩
      rw [(HS.out.enc _ rfl).1, (HS.out.enc _ rfl).2]
      have hs1 := hs.below hb1
      clear hb1 hs hrow
      go_wp2_with (first
      | (with_reducible refine wpList_neqE rfl _ _ _ rfl _ _ rfl rfl ?_)
      | (with_reducible refine wpList_eqlE rfl _ _ _ rfl _ _ rfl rfl ?_)
      | (with_reducible refine wpList_ld rfl _ _ rfl _ _ rfl (by assumption) ?_)
      | (with_reducible refine wpList_lda rfl _ _ rfl _ _ rfl (by assumption) ?_)
      | (with_reducible refine wpList_stI rfl _ _ _ rfl _ _ rfl _ _ rfl (by assumption) ?_; intro w' hst)
      | (with_reducible refine wpList_stS rfl _ _ _ rfl _ _ rfl _ rfl (by assumption) ?_; intro w' hst)
      | (with_reducible refine wpList_stB rfl _ _ _ rfl _ _ rfl _ rfl (by assumption) ?_; intro w' hst)
      | (with_reducible refine wpList_stA rfl _ _ _ rfl _ _ rfl _ rfl (by assumption) ?_; intro w' hst)
      | (with_reducible refine wpList_box rfl _ _ rfl (by assumption) _ rfl ?_; intro bb w' hst)
      | (with_reducible refine wpList_new rfl _ rfl (by assumption) _ zero_ent ?_; intro bn w' hst)
      | (with_reducible refine wpList_new rfl _ rfl (by assumption) _ zero_run ?_; intro br w' hst))
      refine (check_calls E G.out.wf _).mono ?_
      rintro r w2 ⟨rfl, hb2⟩
      rw [G.out.check]
      have hs2 := hs1.below hb2
      clear hb2 hs1
      unfold errOf
      go_wp2_with (first
      | (with_reducible refine wpList_neqE rfl _ _ _ rfl _ _ rfl rfl ?_)
      | (with_reducible refine wpList_eqlE rfl _ _ _ rfl _ _ rfl rfl ?_)
      | (with_reducible refine wpList_ld rfl _ _ rfl _ _ rfl (by assumption) ?_)
      | (with_reducible refine wpList_lda rfl _ _ rfl _ _ rfl (by assumption) ?_)
      | (with_reducible refine wpList_stI rfl _ _ _ rfl _ _ rfl _ _ rfl (by assumption) ?_; intro w' hst)
      | (with_reducible refine wpList_stS rfl _ _ _ rfl _ _ rfl _ rfl (by assumption) ?_; intro w' hst)
      | (with_reducible refine wpList_stB rfl _ _ _ rfl _ _ rfl _ rfl (by assumption) ?_; intro w' hst)
      | (with_reducible refine wpList_stA rfl _ _ _ rfl _ _ rfl _ rfl (by assumption) ?_; intro w' hst)
      | (with_reducible refine wpList_box rfl _ _ rfl (by assumption) _ rfl ?_; intro bb w' hst)
      | (with_reducible refine wpList_new rfl _ rfl (by assumption) _ zero_ent ?_; intro bn w' hst)
      | (with_reducible refine wpList_new rfl _ rfl (by assumption) _ zero_run ?_; intro br w' hst))
      go_roundw
      case rel => exact ⟨5, by omega, rfl, hs2⟩
      case measure => simp [intOf]
    · have G := HG6
      have wI : PartAt ([eE1 nm, eE2 s n h, eE3 s n, eE4 s nm, eE5 s nm, eE6 s n].flatMap entL).toArray 195 39 (entL (eE6 s n)) := by
        have := partEnts [eE1 nm, eE2 s n h, eE3 s n, eE4 s nm, eE5 s nm, eE6 s n] [] 5 (by simp)
        rw [List.append_nil] at this
        exact this
      have hrow : EntRow wr (.slice (some ⟨bE, 195, none⟩) 1 1) [eE6 s n] := entRow_cells (hs.has (g := bE)) rfl (by intro x hx; rw [List.mem_singleton.1 hx]; exact G.out.wf) (by unfold maxLen; simp) (fun i hi j hj => by
        obtain rfl : i = 0 := by simpa using hi
        rw [Nat.zero_mul, Nat.zero_add]
        rw [wI.eq j _ (List.getElem?_eq_getElem (show j < (entL (eE6 s n)).length from hj))]
        simp [entC])
      obtain ⟨S, hS⟩ := Good.one (k := 6) G.out (by omega) (by omega)
      have HS := Lib.hid hS
      obtain ⟨hlt2, hat⟩ := hS.at2
      have hsz : S.size = 2 + (6) := hS.size
      have hsz' : ((S.size : Int) != 2 + (6)) = false := by rw [hsz]; simp
      have hh := hS.head
      have hCE : CellAt #[.int .i64 (3 + (nm.size : Int)), .int .i64 44, .int .i64 6, .int .i64 (4 + (nm.size : Int)), .int .i64 (4 + (nm.size : Int)), .int .i64 6] 5 (.int .i64 (6)) := ⟨rfl⟩
      clear hS
      generalize hE : eE6 s n = E at *
      have HE := Lib.hid hE
      clear hE
      go_wp2_with fail
      refine (encode_calls _ _ _ hrow (by simp)).mono ?_
      rintro r w1 ⟨rfl, hb1⟩
      rw [(HS.out.enc _ rfl).1, (HS.out.enc _ rfl).2]
      have hs1 := hs.below hb1
      clear hb1 hs hrow
      go_wp2_with (first
      | (with_reducible refine wpList_neqE rfl _ _ _ rfl _ _ rfl rfl ?_)
      | (with_reducible refine wpList_eqlE rfl _ _ _ rfl _ _ rfl rfl ?_)
      | (with_reducible refine wpList_ld rfl _ _ rfl _ _ rfl (by assumption) ?_)
      | (with_reducible refine wpList_lda rfl _ _ rfl _ _ rfl (by assumption) ?_)
      | (with_reducible refine wpList_stI rfl _ _ _ rfl _ _ rfl _ _ rfl (by assumption) ?_; intro w' hst)
      | (with_reducible refine wpList_stS rfl _ _ _ rfl _ _ rfl _ rfl (by assumption) ?_; intro w' hst)
      | (with_reducible refine wpList_stB rfl _ _ _ rfl _ _ rfl _ rfl (by assumption) ?_; intro w' hst)
      | (with_reducible refine wpList_stA rfl _ _ _ rfl _ _ rfl _ rfl (by assumption) ?_; intro w' hst)
      | (with_reducible refine wpList_box rfl _ _ rfl (by assumption) _ rfl ?_; intro bb w' hst)
      | (with_reducible refine wpList_new rfl _ rfl (by assumption) _ zero_ent ?_; intro bn w' hst)
      | (with_reducible refine wpList_new rfl _ rfl (by assumption) _ zero_run ?_; intro br w' hst))
      refine (check_calls E G.out.wf _).mono ?_
      rintro r w2 ⟨rfl, hb2⟩
      rw [G.out.check]
      have hs2 := hs1.below hb2
      clear hb2 hs1
      unfold errOf
      go_wp2_with (first
      | (with_reducible refine wpList_neqE rfl _ _ _ rfl _ _ rfl rfl ?_)
      | (with_reducible refine wpList_eqlE rfl _ _ _ rfl _ _ rfl rfl ?_)
      | (with_reducible refine wpList_ld rfl _ _ rfl _ _ rfl (by assumption) ?_)
      | (with_reducible refine wpList_lda rfl _ _ rfl _ _ rfl (by assumption) ?_)
      | (with_reducible refine wpList_stI rfl _ _ _ rfl _ _ rfl _ _ rfl (by assumption) ?_; intro w' hst)
      | (with_reducible refine wpList_stS rfl _ _ _ rfl _ _ rfl _ rfl (by assumption) ?_; intro w' hst)
      | (with_reducible refine wpList_stB rfl _ _ _ rfl _ _ rfl _ rfl (by assumption) ?_; intro w' hst)
      | (with_reducible refine wpList_stA rfl _ _ _ rfl _ _ rfl _ rfl (by assumption) ?_; intro w' hst)
      | (with_reducible refine wpList_box rfl _ _ rfl (by assumption) _ rfl ?_; intro bb w' hst)
      | (with_reducible refine wpList_new rfl _ rfl (by assumption) _ zero_ent ?_; intro bn w' hst)
      | (with_reducible refine wpList_new rfl _ rfl (by assumption) _ zero_run ?_; intro br w' hst))
      go_roundw
      case rel => exact ⟨6, by omega, rfl, hs2⟩
      case measure => simp [intOf]
    · go_wp2_with fail
      refine (does_calls _).mono ?_
      rintro e w7 ⟨rfl, hb7⟩
      have h7 := belw hs.end hb7
      go_wp2_with fail
      go_ret
      exact ⟨rfl, h7⟩
end Go.Proofs.Ytgjgjhikimnknaa
