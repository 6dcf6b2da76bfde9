/- The walk of WordsCut: the law returns true. -/
import Derived.Test.YtbbokdnkabbmfaaBackPlain
import Derived.Test.YtbbokdnkabbmfaaRegion
import Derived.Test.YtbbokdnkabbmfaaWalkWordsWay
set_option linter.unusedVariables false
set_option linter.unusedSimpArgs false
namespace Go.Proofs.Ytbbokdnkabbmfaa
open Go.RowKit

theorem size_cut (s : ByteArray) (i : Nat) (h : i ≤ s.size) : (s.extract 0 i).size = i := by simp [ByteArray.size_extract]; omega
theorem cut_num (s : ByteArray) (h : s.size < 8) : getV (getF s 0 8) = .tuple #[.int .i64 0, .int .i64 0, .bool false] := by
  have ht : thereB s 0 8 = false := by simp [thereB]; omega
  unfold getF
  rw [ht]
  rfl
theorem cut_hash (s : ByteArray) (h : s.size < 32) : getHashV s 0 = .tuple #[arr (zeros 32), .int .i64 0, .bool false] := by
  have ht : thereB s 0 32 = false := by simp [thereB]; omega
  exact way_no_hash ht
theorem cut_text (t : ByteArray) (i : Nat) (ht : t.size ≤ 300) (hi : i < t.size + 2) :
    getTextV (getTextF ((mkS (be 2 t.size ++ ls t)).extract 0 i) 0) = .tuple #[.string ⟨#[]⟩, .int .i64 0, .bool false] := by
  have hsz : ((mkS (be 2 t.size ++ ls t)).extract 0 i).size = i := size_cut _ _ (by simp [size_mkS, be_length, ls_length]; omega)
  have hn : getTextF ((mkS (be 2 t.size ++ ls t)).extract 0 i) 0 = none := by
    unfold getTextF
    cases hg : getF ((mkS (be 2 t.size ++ ls t)).extract 0 i) 0 2 with
    | none => rfl
    | some p =>
      obtain ⟨n, nx⟩ := p
      obtain ⟨h0, h1, h2, h3, h4, h5, h6⟩ := getF_le hg
      rw [hsz] at h2
      have e : sub ((mkS (be 2 t.size ++ ls t)).extract 0 i) 0 2 = be 2 t.size := by
        have e1 : ls ((mkS (be 2 t.size ++ ls t)).extract 0 i) = (be 2 t.size ++ ls t).take i := by
          simp [ls, ByteArray.data_extract, mkS]
        unfold sub
        rw [e1]
        simp only [Int.toNat_zero, List.drop_zero]
        rw [List.take_take, show min (2 : Int).toNat i = 2 by omega]
        rw [List.take_append_of_le_length (by rw [be_length]; omega), List.take_of_length_le (by rw [be_length]; omega)]
      rw [e, bv_be _ _ (by omega)] at h4
      simp only
      rw [if_neg (by rw [hsz]; omega)]
  rw [hn]; rfl
theorem slice_to (s : ByteArray) (i : Nat) (h : i ≤ s.size) (W : World) : (Instr.slice 9 (.string s) none (some (.int .i64 i)) none).run Try.prog W = .ok (.string (s.extract 0 i)) W := by
  have := run_slice_string_h (P := Try.prog) W 9 s T9 .i64 i (by omega) (by omega)
  simpa using this
theorem size_put8 (n : Int) (h : 0 ≤ n) : (putF n 8).size = 8 := by
  obtain ⟨n, rfl⟩ := Int.eq_ofNat_of_zero_le h
  have hf : fitsB (n : Int) ((8 : Nat) : Int) = true := by
    have h1 : sizeB ((8 : Nat) : Int) = true := rfl
    have h2 : decide ((8 : Int) ≤ ((8 : Nat) : Int)) = true := rfl
    simp only [fitsB, h1, h2, Bool.true_or, Bool.and_true, Bool.true_and]
    simp
  have hp : putF (n : Int) 8 = mkS (be 8 n) := putF_of (b := 8) hf
  rw [hp, size_mkS, be_length]

set_option maxRecDepth 100000 in
set_option maxHeartbeats 4000000 in
theorem cut_walk (n : Int) (t : ByteArray) (h : List UInt8) (h63 : n ≤ 9223372036854775807) (hn : 0 ≤ n) (ht : t.size ≤ 300) (hl : h.length = 32) (w : World) :
    Calls Try.prog 10 #[.int .i64 n, .string t, arr h] w fun e w' => e = .returned (.bool true) ∧ Below w.heap.size w w' := by
  have f1 : decide ((300 : Int) < (t.size : Int)) = false := by simp; omega
  have f2 : decide (n < 0) = false := by simpa using hn
  have HU : Hid (putTextV (putTextF t) = .tuple #[.string (mkS (be 2 t.size ++ ls t)), .int .i64 0]) := Lib.hid (by unfold putTextF; rw [if_pos (by omega)]; rfl)
  have HCT := Lib.hid (cut_text t)
  have HUS := Lib.hid (show (mkS (be 2 t.size ++ ls t)).size = t.size + 2 by simp [size_mkS, be_length, ls_length]; omega)
  have HS := Lib.hid (size_put8 n hn)
  have HHS := Lib.hid (show (mkS h).size = 32 by rw [size_mkS, hl])
  generalize mkS (be 2 t.size ++ ls t) = u at *
  generalize hv : mkS h = v at *
  have HV := Lib.hid hv
  clear hv
  rw [arr_eq]
  generalize hC : arrC h = C at *
  have HC := Lib.hid hC
  clear hC
  have hul : u.size ≤ 302 := by rw [HUS.out]; omega
  go_enter Try.func10, Try.ntmps10
  go_wp2_with fail
  refine (put_text_calls _ (by unfold maxLen; omega) _).mono ?_
  rintro e w1 ⟨rfl, hb1⟩
  rw [HU.out]
  go_wp2_with fail
  have HB : Hid (∀ n : Ix w1, n.1.heap[w.heap.size]? = some (.cells (arrC h) 37 (0, 0))) := Lib.hid (fun n => by
    have h1 := hb1.size
    rw [HC.out, n.2.block _ (by simp at h1; omega), hb1.block _ (by simp), heap_alloc_new])
  have hbel : Below w.heap.size w w1 := bel (bel_alloc (bel_refl w)) hb1
  refine wp_region_below_lit (by kernel_rfl) (by kernel_rfl) ?_
  repeat (first
    | go_big_quiet_step ((first | (go_at_call 14; refine Calls.below_of (put_any _ _ h63 _)) | (go_at_call 23; refine Calls.below_of (put_hash_calls h hl _))))
    | (with_reducible refine wpQuiet_load_hash rfl (.tmp 5) rfl w.heap.size rfl h hl _ (by rintro _ ⟨n, rfl⟩; exact HB.out n) ?_; simp only [Act.put, List.setIfInBounds_toArray, List.set_cons_succ, List.set_cons_zero]))
  refine wpQuiet_nil ?_
  intro w2 hw2
  obtain ⟨⟨x2, hb2⟩, hx2⟩ := hw2
  obtain rfl : w2 = x2 := hx2
  rw [HV.out]
  generalize putF n 8 = S at *
  have hbel2 := bel hbel hb2
  clear hbel hb1 hb2 HB HC
  go_wp2_with fail
  go_loop [11] (fun i => ∃ k : Nat, k ≤ 8 ∧ i = .int .i64 k) (fun i => 8 - (intOf i).toNat)
  case atStart => exact ⟨0, by omega, rfl⟩
  case round =>
    obtain ⟨k, hk, rfl⟩ := hrel
    by_cases hlt : k < 8
    · have g1 : decide (k < S.size) = true := by rw [HS.out]; simpa using hlt
      have hle : k ≤ S.size := by rw [HS.out]; omega
      have g2 := slice_to S k hle
      have G3 := Lib.hid (cut_num (S.extract 0 k) (by rw [size_cut _ _ hle]; exact hlt))
      have G4 : Hid ((S.extract 0 k).size ≤ maxLen) := Lib.hid (by rw [size_cut _ _ hle]; unfold maxLen; omega)
      clear hle
      generalize S.extract 0 k = X at *
      go_wp2_with fail
      refine (get_any _ _ _ G4.out _).mono ?_
      rintro e w' ⟨rfl, rfl⟩
      rw [G3.out]
      go_wp2_with fail
      go_round
      case rel => exact ⟨k + 1, by omega, by go_num⟩
      case measure => simp [intOf]; omega
    · obtain rfl : k = 8 := by omega
      clear hlt hk
      go_wp2_with fail
      go_loop [15] (fun i => ∃ k : Nat, k ≤ u.size ∧ i = .int .i64 k) (fun i => u.size - (intOf i).toNat)
      case atStart => exact ⟨0, by omega, rfl⟩
      case round =>
        obtain ⟨k, hk, rfl⟩ := hrel
        by_cases hlt : k < u.size
        · have g2 := slice_to u k hk
          have G3 := Lib.hid (HCT.out k ht (by rw [← HUS.out]; exact hlt))
          have G4 : Hid ((u.extract 0 k).size ≤ maxLen) := Lib.hid (by rw [size_cut _ _ hk]; unfold maxLen; omega)
          generalize u.extract 0 k = X at *
          go_wp2_with fail
          refine (get_text_calls _ _ G4.out _).mono ?_
          rintro e w' ⟨rfl, rfl⟩
          rw [G3.out]
          go_wp2_with fail
          go_round
          case rel => exact ⟨k + 1, by omega, by go_num⟩
          case measure => simp [intOf]; omega
        · obtain rfl : k = u.size := by omega
          go_wp2_with fail
          go_loopw [19] (fun i wr => ∃ k : Nat, k ≤ 32 ∧ i = .int .i64 k ∧ Below w.heap.size w wr) (fun i _ => 32 - (intOf i).toNat)
          case atStart => exact ⟨0, by omega, rfl, hbel2⟩
          case round =>
            obtain ⟨k, hk, rfl, hbw⟩ := hrel
            by_cases hlt : k < 32
            · have g1 : decide (k < v.size) = true := by rw [HHS.out]; simpa using hlt
              have hle : k ≤ v.size := by rw [HHS.out]; omega
              have g2 := slice_to v k hle
              have G3 := Lib.hid (cut_hash (v.extract 0 k) (by rw [size_cut _ _ hle]; exact hlt))
              have G4 : Hid ((v.extract 0 k).size ≤ maxLen) := Lib.hid (by rw [size_cut _ _ hle]; unfold maxLen; omega)
              clear hle
              generalize v.extract 0 k = X at *
              go_wp2_with fail
              refine (get_hash_calls _ _ G4.out _).mono ?_
              rintro e w3 ⟨rfl, hb3⟩
              rw [G3.out]
              go_wp2_with (first
                | (with_reducible refine wpList_alloc_row rfl 37 rfl (arrC (zeros 32)) alloc_hash ?_)
                | (with_reducible refine wpList_store_hash rfl (.tmp 20) (.tmp 85) rfl (zeros 32) (zeros 32) rfl rfl (zeros_length 32) (zeros_length 32) _ ?_))
              go_roundw
              case rel => exact ⟨k + 1, by omega, by go_num, bel_alloc (bel hbw hb3)⟩
              case measure => simp [intOf]; omega
            · obtain rfl : k = 32 := by omega
              have g1 : decide (32 < v.size) = false := by rw [HHS.out]; rfl
              have g1' : decide ((32 : Int) < (v.size : Int)) = false := by rw [HHS.out]; rfl
              go_wp2_with fail
              refine (does_calls _).mono ?_
              rintro e w4 ⟨rfl, hb4⟩
              go_wp2_with fail
              go_ret
              exact ⟨rfl, bel hbw hb4⟩

set_option maxRecDepth 100000 in
set_option maxHeartbeats 4000000 in
theorem cut_none (n : Int) (t : ByteArray) (h : List UInt8) (mt : t.size ≤ maxLen) (hx : ¬ (0 ≤ n ∧ t.size ≤ 300)) (hl : h.length = 32) (w : World) :
    Calls Try.prog 10 #[.int .i64 n, .string t, arr h] w fun e w' => e = .returned (.bool true) ∧ Below w.heap.size w w' := by
  unfold maxLen at mt
  have hcase : decide ((300 : Int) < (t.size : Int)) = true ∨ (decide ((300 : Int) < (t.size : Int)) = false ∧ decide (n < 0) = true) := by
    simp only [decide_eq_true_eq, decide_eq_false_iff_not]; omega
  clear hx
  rw [arr_eq]
  generalize arrC h = C at *
  rcases hcase with f1 | ⟨f1, f2⟩
  all_goals
    go_enter Try.func10, Try.ntmps10
    go_wp2_with fail
    refine (does_calls _).mono ?_
    rintro e w4 ⟨rfl, hb4⟩
    go_wp2_with fail
    go_ret
    exact ⟨rfl, bel (bel_alloc (bel_refl w)) hb4⟩

theorem wordsCut_walk (a0 : Int) (a1 : ByteArray) (v2 : Value) (l2 : List UInt8) (w0 : (Lit.int .i64 a0).wf = true) (w1 : a1.size ≤ 140737488351232) (w : World)
    (r2 : v2 = .agg (u8s l2).toArray ∧ l2.length = 32) :
    Calls Try.prog 10 #[.int .i64 a0, .string a1, v2] w fun e w' => e = .returned (.bool true) ∧ Below w.heap.size w w' := by
  obtain ⟨rfl, hl⟩ := r2
  have h63 := (bounds_i64 w0).2
  by_cases hx : 0 ≤ a0 ∧ a1.size ≤ 300
  · exact cut_walk a0 a1 l2 h63 hx.1 hx.2 hl w
  · exact cut_none a0 a1 l2 (by unfold maxLen; omega) hx hl w
end Go.Proofs.Ytbbokdnkabbmfaa
