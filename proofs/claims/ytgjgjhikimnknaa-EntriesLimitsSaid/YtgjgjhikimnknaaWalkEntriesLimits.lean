/- The walk of EntriesLimits: the law returns true. -/
import Derived.Test.YtgjgjhikimnknaaRowAct
import Derived.Test.YtgjgjhikimnknaaDoes15
import Derived.OpenShut
import Derived.Deep.RegionHeld3
import Derived.Deep.DrawnRows
set_option linter.unusedVariables false
set_option linter.unusedSimpArgs false
namespace Go.Proofs.Ytgjgjhikimnknaa
open Go.RowKit

/-- The i-th entry. -/
def limE (i : Nat) : Ent := ⟨3, ((i % 8 : Nat) : Int), (i : Int), 0, noS, zeros 32, 0, 0⟩
def limL (k n : Nat) : List Ent := (List.range k).map limE ++ List.replicate (n - k) ent0
theorem limL_len {k n : Nat} (h : k ≤ n) : (limL k n).length = n := by simp [limL]; omega
theorem limL_set {k n : Nat} (h : k < n) : (limL k n).set k (limE k) = limL (k + 1) n := by
  obtain ⟨d, rfl⟩ : ∃ d, n = k + 1 + d := ⟨n - (k + 1), by omega⟩
  unfold limL
  rw [show k + 1 + d - k = d + 1 from by omega, show k + 1 + d - (k + 1) = d from by omega, List.set_append, if_neg (by simp), List.length_map, List.length_range, Nat.sub_self, List.replicate_succ, List.set_cons_zero, List.range_succ, List.map_append, List.append_assoc]
  rfl
theorem limE_ok {i : Nat} (h : i ≤ 203) : checkB (limE i) = true := by
  have h1 : withinB ((i % 8 : Nat) : Int) 7 = true := by simp [withinB]; omega
  have h2 : withinB (i : Int) (mostN 3) = true := by simp [withinB, mostN]; omega
  have e : checkB (limE i) = (((withinB ((i % 8 : Nat) : Int) 7 && (withinB (i : Int) (mostN 3) && true)) && true) && entEq ent0 ent0) := rfl
  have h3 : entEq ent0 ent0 = true := by simp [entEq]
  rw [e, h1, h2, h3]
  rfl
theorem limE_wf {i : Nat} (h : i ≤ 203) : (limE i).Wf :=
  entN_wf (by unfold I64; decide) (by unfold I64; omega) (by unfold I64; omega) (by unfold I64; decide) (by decide) rfl (by unfold I64; decide) (by unfold I64; decide)
theorem lims_wf {l : List Nat} (h : ∀ i ∈ l, i ≤ 203) : ∀ e ∈ l.map limE, e.Wf := fun e he => by
  obtain ⟨i, hi, rfl⟩ := List.mem_map.1 he
  exact limE_wf (h i hi)
theorem lims_ok {l : List Nat} (h : ∀ i ∈ l, i ≤ 203) : (l.map limE).all checkB = true := by
  rw [List.all_eq_true]
  intro e he
  obtain ⟨i, hi, rfl⟩ := List.mem_map.1 he
  exact limE_ok (h i hi)
theorem limE_len {i : Nat} (h : i ≤ 203) : (entBytes (limE i)).length = 6 := by
  have e : entBytes (limE i) = putL 3 1 ++ (putL ((i % 8 : Nat) : Int) 1 ++ (putL (i : Int) 4 ++ [])) := rfl
  have h1 := putL_fits (b := 1) (fits1 (n := 3) (by omega) (by omega))
  have h2 := putL_fits (b := 1) (fits1 (n := ((i % 8 : Nat) : Int)) (by omega) (by omega))
  have h3 := putL_fits (b := 4) (fits4 (n := (i : Int)) (by omega) (by omega))
  rw [show ((1 : Nat) : Int) = 1 from rfl] at h1 h2
  rw [show ((4 : Nat) : Int) = 4 from rfl] at h3
  rw [e, h1, h2, h3]
  simp [be_length]
theorem lims_len : ∀ {l : List Nat}, (∀ i ∈ l, i ≤ 203) → ((l.map limE).flatMap entBytes).length = 6 * l.length
  | [], _ => rfl
  | i :: l, h => by
    rw [List.map_cons, List.flatMap_cons, List.length_append, limE_len (h i (by simp)), lims_len (fun j hj => h j (by simp [hj])), List.length_cons]
    omega
theorem two_bytes {n : Nat} (h : n ≤ 255) : putL (n : Int) 2 = [0, UInt8.ofNat n] := by
  have h1 := putL_fits (b := 2) (fits2 (n := (n : Int)) (by omega) (by omega))
  rw [show ((2 : Nat) : Int) = 2 from rfl] at h1
  rw [h1]
  show [UInt8.ofNat ((n : Int).toNat / 256 ^ 1), UInt8.ofNat ((n : Int).toNat / 256 ^ 0)] = _
  rw [show (n : Int).toNat = n from rfl, Nat.pow_one, Nat.pow_zero, Nat.div_one, Nat.div_eq_of_lt (by omega)]
  rfl
/-- What is laid together. -/
theorem lim_join {n : Nat} (h : 100 ≤ n) (h2 : n ≤ 203) : [0, UInt8.ofNat n] ++ (encBytes ((List.range 100).map limE)).drop 2 ++ (encBytes ((List.range' 100 (n - 100)).map limE)).drop 2 = encBytes ((List.range n).map limE) := by
  have e1 : ∀ l : List Ent, l.length ≤ 255 → (encBytes l).drop 2 = l.flatMap entBytes := fun l hl => by
    unfold encBytes
    rw [two_bytes hl]
    rfl
  rw [e1 _ (by simp), e1 _ (by simp; omega)]
  unfold encBytes
  rw [two_bytes (by simp; omega), List.length_map, List.length_range, List.append_assoc, ← List.flatMap_append, ← List.map_append]
  congr 3
  obtain ⟨d, rfl⟩ : ∃ d, n = 100 + d := ⟨n - 100, by omega⟩
  rw [List.range_eq_range', List.range_eq_range', List.range'_append_1, Nat.add_sub_cancel_left]
theorem lim_dec {n : Nat} (h : 100 ≤ n) (h2 : n ≤ 203) : decF (mkS (encBytes ((List.range n).map limE))) = if n ≤ 200 then some ((List.range n).map limE) else none := by
  have hr : ∀ i ∈ List.range n, i ≤ 203 := fun i hi => by have := List.mem_range.1 hi; omega
  split
  · rename_i h3
    have := dec_enc (more := []) (enc_of (lims_ok hr) (by simp; exact h3)) (fun e he => (lims_wf hr e he).hash)
    rw [List.append_nil, if_pos rfl] at this
    exact this
  · rename_i h3
    have hN : numN (mkS (encBytes ((List.range n).map limE))) 0 2 = n := by
      have r := Reads.mid [] (encBytes ((List.range n).map limE)) []
      rw [List.nil_append, List.append_nil] at r
      obtain ⟨r1, r2⟩ := r.split
      have := (reads_num (b := 2) (fits2 (n := (((List.range n).map limE).length : Int)) (by omega) (by simp; omega)) (by simp; omega) r1).2.1
      rw [show ((2 : Nat) : Int) = 2 from rfl] at this
      simpa using this
    unfold decF
    rw [hN]
    have : decide (200 < (n : Int)) = true := by simp; omega
    rw [this]
    split
    · rfl
    · simp
theorem lim_enc {n : Nat} (h2 : n ≤ 203) : encF ((List.range n).map limE) = if n ≤ 200 then (encBytes ((List.range n).map limE), 0) else ([], 3) := by
  have hr : ∀ i ∈ List.range n, i ≤ 203 := fun i hi => by have := List.mem_range.1 hi; omega
  unfold encF
  rw [if_pos (lims_ok hr), List.length_map, List.length_range]
theorem conv_two (k : Nat) (hk : k ≤ 255) (w : World) : (convert 42 9 (.slice (some ⟨w.heap.size, 0, none⟩) 2 2)).run Try.prog (w.alloc (.cells #[.int .u8 0, .int .u8 (k : Int)] 5)).drew = .ok (.string (mkS [0, UInt8.ofNat k])) (w.alloc (.cells #[.int .u8 0, .int .u8 (k : Int)] 5)).drew := by
  have e : ((UInt8.ofNat k).toNat : Int) = k := by rw [UInt8.toNat_ofNat']; omega
  have hh := run_convert_bytes_back (P := Try.prog) (w.alloc (.cells #[.int .u8 0, .int .u8 (k : Int)] 5)).drew 42 9 5 ⟨w.heap.size, 0, none⟩ 2 [0, UInt8.ofNat k] T29 U5 T9 (fun j hj => by
    have ha : (⟨w.heap.size, 0, none⟩ : Addr).add j = ⟨w.heap.size, j, none⟩ := by unfold Addr.add; split <;> simp_all
    rw [ha]
    show (w.alloc (.cells #[.int .u8 0, .int .u8 (k : Int)] 5)).cell? _ = _
    rw [World.cell?_alloc_at _ _ _ _ rfl]
    match j, hj with
    | 0, _ => rfl
    | 1, _ => simp only [List.getElem_cons_succ, List.getElem_cons_zero, e]; rfl)
  exact hh
theorem join_str (k : Nat) (SA SB : ByteArray) (ta tb tm : List UInt8) (h1 : ls SA = ta) (h2 : ls SB = tb) (hj : [0, UInt8.ofNat k] ++ ta.drop 2 ++ tb.drop 2 = tm) : mkS [0, UInt8.ofNat k] ++ SA.extract 2 SA.size ++ SB.extract 2 SB.size = mkS tm := by
  apply eq_mkS
  rw [ls_append, ls_append, ls_mkS, ← hj, ← h1, ← h2]
  congr 1
  · congr 1
    simp [ls, ByteArray.data_extract, Array.toList_extract, List.extract_eq_take_drop]
    rw [List.take_of_length_le]
    simp
  · simp [ls, ByteArray.data_extract, Array.toList_extract, List.extract_eq_take_drop]
    rw [List.take_of_length_le]
    simp
theorem wrEnts0 (l : List Ent) (i : Nat) (hi : i < l.length) (e : Ent) (v : Value) (hv : v = .agg (entL e).toArray) (m : List Ent) (hm : l.set i e = m) : WrAt (l.flatMap entL).toArray (i * 39) 39 v (m.flatMap entL).toArray := by
  subst hv hm
  have := wrEnts l [] i hi e
  rwa [List.append_nil, List.append_nil] at this

set_option maxHeartbeats 8000000 in
set_option maxRecDepth 100000 in
theorem entriesLimits_walk (more : Int) (hw1 : (Lit.int .u8 more).wf = true) (w : World) :
    Calls Try.prog 8 #[.int .u8 more] w fun e w' => e = .returned (.bool true) ∧ Below w.heap.size w w' := by
  obtain ⟨c0, c1⟩ := bounds_u8 hw1
  obtain ⟨c, rfl⟩ := Int.eq_ofNat_of_zero_le c0
  clear hw1
  obtain ⟨n, hn⟩ : ∃ n : Nat, n = 197 + c % 7 := ⟨_, rfl⟩
  have hN : 197 + (c : Int) % 7 = (n : Int) := by omega
  have hn0 : 197 ≤ n := by omega
  have hn1 : n ≤ 203 := by omega
  have HNN := Lib.hid hn
  clear hn
  have hst := St.start w
  go_enter Try.func8, Try.ntmps8
  go_wp2_with (refine wpList_mkEn rfl _ _ rfl n rfl rfl (by omega) hst ?_; intro b w1 hs1)
  go_loopw [5] (fun iv wr => ∃ k : Nat, k ≤ n ∧ iv = .int .i64 k ∧ St [] w wr [(b, ((limL k n).flatMap entL).toArray, 27)]) (fun i _ => n - (intOf i).toNat)
  case atStart => exact ⟨0, by omega, rfl, by simpa [limL] using hs1⟩
  case round =>
    obtain ⟨k, hk, rfl, hs⟩ := hrel
    clear hs1 hst
    by_cases hlt : k < n
    · have hkl : k < (limL k n).length := by rw [limL_len hk]; exact hlt
      have wI := wrEnts0 (limL k n) k hkl (limE k) (.agg #[.int .i64 3, .int .i64 ((k : Int) % 8), .int .i64 (k : Int), .int .i64 0, .string { data := #[] }, .int .u8 0, .int .u8 0, .int .u8 0, .int .u8 0, .int .u8 0, .int .u8 0, .int .u8 0, .int .u8 0, .int .u8 0, .int .u8 0, .int .u8 0, .int .u8 0, .int .u8 0, .int .u8 0, .int .u8 0, .int .u8 0, .int .u8 0, .int .u8 0, .int .u8 0, .int .u8 0, .int .u8 0, .int .u8 0, .int .u8 0, .int .u8 0, .int .u8 0, .int .u8 0, .int .u8 0, .int .u8 0, .int .u8 0, .int .u8 0, .int .u8 0, .int .u8 0, .int .i64 0, .int .i64 0]) rfl _ (limL_set hlt)
      go_wp2_with (first
      | (with_reducible refine wpList_neqE rfl _ _ _ rfl _ _ rfl rfl ?_)
      | (with_reducible refine wpList_eqlE rfl _ _ _ rfl _ _ rfl rfl ?_)
      | (with_reducible refine wpList_ld rfl _ _ rfl _ _ rfl (by assumption) ?_)
      | (with_reducible refine wpList_lda rfl _ _ rfl _ _ rfl (by assumption) ?_)
      | (with_reducible refine wpList_stI rfl _ _ _ rfl _ _ rfl _ _ rfl (by assumption) ?_; intro w' hst)
      | (with_reducible refine wpList_stS rfl _ _ _ rfl _ _ rfl _ rfl (by assumption) ?_; intro w' hst)
      | (with_reducible refine wpList_stB rfl _ _ _ rfl _ _ rfl _ rfl (by assumption) ?_; intro w' hst)
      | (with_reducible refine wpList_stA rfl _ _ _ rfl _ _ rfl _ rfl (by assumption) ?_; intro w' hst)
      | (with_reducible refine wpList_box rfl _ _ rfl (by assumption) _ rfl ?_; intro bb w' hst)
      | (with_reducible refine wpList_new rfl _ rfl (by assumption) _ zero_ent ?_; intro bn w' hst)
      | (with_reducible refine wpList_new rfl _ rfl (by assumption) _ zero_run ?_; intro br w' hst))
      go_roundw
      case rel => exact ⟨k + 1, by omega, by go_num, hst⟩
      case measure => simp [intOf]; omega
    · obtain rfl : k = n := by omega
      have hs : St [] w wr [(b, (((List.range k).map limE).flatMap entL).toArray, 27)] := by simpa [limL] using hs
      have hr : ∀ i ∈ List.range k, i ≤ 203 := fun i hi => by have := List.mem_range.1 hi; omega
      have hr1 : ∀ i ∈ List.range 100, i ≤ 203 := fun i hi => by have := List.mem_range.1 hi; omega
      have hr2 : ∀ i ∈ List.range' 100 (k - 100), i ≤ 203 := fun i hi => by have := List.mem_range'_1.1 hi; omega
      have hrow := entRow_pre (n := k) (cap := k) (l := (List.range k).map limE) (rest := []) (by rw [List.append_nil]; exact hs.has (g := b)) (by simp) (lims_wf hr) (by simp; unfold maxLen; omega)
      have hsp : (List.range k).map limE = (List.range 100).map limE ++ (List.range' 100 (k - 100)).map limE := by
        obtain ⟨d, rfl⟩ : ∃ d, k = 100 + d := ⟨k - 100, by omega⟩
        rw [← List.map_append, List.range_eq_range', List.range_eq_range', List.range'_append_1, Nat.add_sub_cancel_left]
      have hrow1 : EntRow wr (.slice (some ⟨b, 0, none⟩) 100 k) ((List.range 100).map limE) := entRow_cells (hs.has (g := b)) (by simp) (lims_wf hr1) (by simp; unfold maxLen; omega) (fun i hi j hj => by
        rw [Nat.zero_add, hsp, List.getElem?_toArray, List.flatMap_append, List.getElem?_append_left (by rw [entsL_length]; omega)]
        exact ents_at _ i hi j hj)
      have hrow2 : EntRow wr (.slice (some ⟨b, 3900, none⟩) (k - 100) (k - 100)) ((List.range' 100 (k - 100)).map limE) := entRow_cells (hs.has (g := b)) (by simp) (lims_wf hr2) (by simp; unfold maxLen; omega) (fun i hi j hj => by
        have h39 : (((List.range 100).map limE).flatMap entL).length = 3900 := by rw [entsL_length]; simp
        rw [hsp, List.getElem?_toArray, List.flatMap_append, List.getElem?_append_right (by omega), h39, Nat.add_sub_cancel_left]
        exact ents_at _ i hi j hj)
      have hbel := hs.end
      have HROW := Lib.hid hrow
      have HROW1 := Lib.hid hrow1
      have HROW2 := Lib.hid hrow2
      have e0 := lim_enc hn1
      have e1 := enc_of (lims_ok hr1) (by simp)
      have e2 := enc_of (lims_ok hr2) (by simp; omega)
      have ej := lim_join (n := k) (by omega) hn1
      have ed := lim_dec (n := k) (by omega) hn1
      have q1 : 2 ≤ (encBytes ((List.range 100).map limE)).length := by unfold encBytes; rw [two_bytes (by simp), List.length_append]; simp
      have q2 : 2 ≤ (encBytes ((List.range' 100 (k - 100)).map limE)).length := by unfold encBytes; rw [two_bytes (by simp; omega), List.length_append]; simp
      have q3 : (encBytes ((List.range 100).map limE)).length = 602 := by unfold encBytes; rw [two_bytes (by simp), List.length_append, lims_len hr1]; simp
      have q4 : (encBytes ((List.range' 100 (k - 100)).map limE)).length ≤ 1000 := by unfold encBytes; rw [two_bytes (by simp; omega), List.length_append, lims_len hr2]; simp; omega
      have q5 : (encBytes ((List.range k).map limE)).length = 2 + 6 * k := by unfold encBytes; rw [two_bytes (by simp; omega), List.length_append, lims_len hr]; simp
      have hwM := lims_wf hr
      have hlM : ((List.range k).map limE).length = k := by simp
      have hlA : ((List.range 100).map limE).length = 100 := by simp
      have hlB : ((List.range' 100 (k - 100)).map limE).length = k - 100 := by simp
      have HROW := Lib.hid hrow
      have HROW1 := Lib.hid hrow1
      have HROW2 := Lib.hid hrow2
      have hle2 : (100 : Int) ≤ (k : Int) := by omega
      clear hs hrow hrow1 hrow2 hsp hr hr1 hr2
      generalize (List.range k).map limE = M at *
      generalize (List.range 100).map limE = A at *
      generalize (List.range' 100 (k - 100)).map limE = B at *
      generalize encBytes M = tm at *
      generalize encBytes A = ta at *
      generalize encBytes B = tb at *
      have E0 := Lib.hid e0
      have E1 := Lib.hid e1
      have E2 := Lib.hid e2
      have EJ := Lib.hid ej
      have ED := Lib.hid ed
      have HM := Lib.hid hlM
      clear e0 e1 e2 ej ed hlM
      go_wp2_with fail
      refine (encode_calls _ _ _ HROW.out (by have := HM.out; omega)).mono ?_
      rintro e w2 ⟨rfl, hb2⟩
      have h2 := belw hbel hb2
      go_wp2_with fail
      refine (encode_calls _ _ _ (HROW1.out.old hb2) (by omega)).mono ?_
      rintro e w3 ⟨rfl, hb3⟩
      have h3 := belw h2 hb3
      rw [E1.out]
      dsimp only
      go_wp2_with fail
      refine (encode_calls _ _ _ ((HROW2.out.old hb2).old hb3) (by omega)).mono ?_
      rintro e w4 ⟨rfl, hb4⟩
      have h4 := belw h3 hb4
      rw [E2.out]
      dsimp only
      have HROW := Lib.hid (((HROW.out.old hb2).old hb3).old hb4)
      clear hb2 hb3 hb4 hbel h2 h3
      have g1 : decide ((ta.length : Int) < 2) = false := by simp; omega
      have g2 : decide ((tb.length : Int) < 2) = false := by simp; omega
      have z1 : (mkS ta).size = ta.length := size_mkS ta
      have z2 : (mkS tb).size = tb.length := size_mkS tb
      go_wp2_with fail
      have HCV := fun w => conv_two k (by omega) w
      have hwr : IntKind.u8.wrap (k : Int) = (k : Int) := by simp [IntKind.wrap, IntKind.signed, IntKind.bits]; omega
      have hJ : Hid (∀ SA SB : ByteArray, ls SA = ta → ls SB = tb → mkS [0, UInt8.ofNat k] ++ SA.extract 2 SA.size ++ SB.extract 2 SB.size = mkS tm) := Lib.hid (fun SA SB h1 h2 => join_str k SA SB ta tb tm h1 h2 EJ.out)
      obtain ⟨SP, hSP⟩ : ∃ S, S = mkS [0, UInt8.ofNat k] := ⟨_, rfl⟩
      have p0 : SP.size = 2 := by rw [hSP]; rfl
      rw [← hSP] at HCV hJ
      have hJ := Lib.hid (hJ.out (mkS ta) (mkS tb) (ls_mkS _) (ls_mkS _))
      generalize mkS ta = SA at *
      generalize mkS tb = SB at *
      have i1 : (2 : Int) ≤ (SA.size : Int) := by omega
      have i2 : (2 : Int) ≤ (SB.size : Int) := by omega
      have j1 : SA.size ≤ 2000 := by omega
      have j2 : SB.size ≤ 2000 := by omega
      have j3 : SP.size ≤ 2000 := by omega
      have x1 : (SA.extract 2 SA.size).size ≤ 2000 := by simp; omega
      have x2 : (SB.extract 2 SB.size).size ≤ 2000 := by simp; omega
      have k1 : ¬ 9223372036854775807 < SP.size + (SA.extract 2 SA.size).size := by omega
      have k2 : ¬ 9223372036854775807 < (SP ++ SA.extract 2 SA.size).size + (SB.extract 2 SB.size).size := by rw [ByteArray.size_append]; omega
      have k3 : (SP ++ SA.extract 2 SA.size ++ SB.extract 2 SB.size).size ≤ 140737488351232 := by rw [ByteArray.size_append, ByteArray.size_append]; omega
      have K3 := Lib.hid k3
      clear z1 z2 hSP p0 k3 q1 q2 q3 q4 hlA hlB HROW1 HROW2 E1 E2 EJ
      by_cases h200 : k ≤ 200
      · have EF : Hid (encF M = (tm, 0)) := Lib.hid (by rw [E0.out, if_pos h200])
        have DF : Hid (decF (mkS tm) = some M) := Lib.hid (by rw [ED.out, if_pos h200])
        have l1 : decide ((k : Int) ≤ 200) = true := by simp; omega
        rw [EF.out]
        dsimp only
        clear E0 ED h200
        go_region_with ((go_at_call 18; refine (decode_calls _ K3.out _).mono ?_; rintro e w5 ⟨hp, hb5⟩; unfold DecPost at hp; rw [hJ.out, DF.out] at hp; obtain ⟨u, rfl, hown, hwm⟩ := hp))
        have h5 := belw (h4.alloc h4.size (.cells #[.int .u8 0, .int .u8 (k : Int)] 5)).drew hb5
        have r5 := (HROW.out.old ((Below.refl _ _).alloc (Nat.le_refl _) (.cells #[.int .u8 0, .int .u8 (k : Int)] 5)).drew).old hb5
        have HM5 := Lib.hid (entRow_owns hown hwm (by have := HM.out; unfold maxLen; omega))
        have HR5 := Lib.hid r5
        have q6 : (mkS tm).size = 2 + 6 * k := by rw [size_mkS, q5]
        clear hown r5 hb5 h4
        go_wp2_with fail
        refine (same_calls _ _ M M _ HM5.out HR5.out).mono ?_
        rintro e w6 ⟨rfl, hb6⟩
        rw [sameB_self M (fun e he => (hwm e he).hash)]
        have h6 := belw h5 hb6
        clear h5 hb6
        go_wp2_with fail
        refine (does_calls _).mono ?_
        rintro e w7 ⟨rfl, hb7⟩
        have h7 := belw h6 hb7
        clear h6 hb7
        go_wp2_with fail
        go_ret
        exact ⟨rfl, h7⟩
      · have EF : Hid (encF M = ([], 3)) := Lib.hid (by rw [E0.out, if_neg h200])
        have DF : Hid (decF (mkS tm) = none) := Lib.hid (by rw [ED.out, if_neg h200])
        have l1 : decide ((k : Int) ≤ 200) = false := by simp; omega
        rw [EF.out]
        dsimp only
        clear E0 ED h200
        go_region_with ((go_at_call 18; refine (decode_calls _ K3.out _).mono ?_; rintro e w5 ⟨hp, hb5⟩; unfold DecPost at hp; rw [hJ.out, DF.out] at hp; obtain rfl := hp))
        have h5 := belw (h4.alloc h4.size (.cells #[.int .u8 0, .int .u8 (k : Int)] 5)).drew hb5
        have q2 : (mkS []).toList = [] := toList_ls _
        clear hb5 h4
        go_wp2_with fail
        refine (does_calls _).mono ?_
        rintro e w7 ⟨rfl, hb7⟩
        have h7 := belw h5 hb7
        clear h5 hb7
        go_wp2_with fail
        go_ret
        exact ⟨rfl, h7⟩
end Go.Proofs.Ytgjgjhikimnknaa
