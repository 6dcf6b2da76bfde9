/- The walk of WordsBack: the law returns true. -/
import Derived.Test.YtbbokdnkabbmfaaBackPlain
import Derived.Test.YtbbokdnkabbmfaaRegion
import Derived.Test.YtbbokdnkabbmfaaShapes
set_option linter.unusedVariables false
set_option linter.unusedSimpArgs false
namespace Go.Proofs.Ytbbokdnkabbmfaa
open Go.RowKit

theorem back_cat (a s b : ByteArray) : a ++ s ++ b = mkS (ls a ++ (ls s ++ ls b)) := by
  apply eq_mkS
  rw [ls_append, ls_append, List.append_assoc]
theorem size_cat (a s : ByteArray) : (a ++ s).size = a.size + s.size := by rw [← ls_length, ls_append, List.length_append, ls_length, ls_length]

/-- What the law asks of a number's bytes between two texts. -/
theorem back_num (n : Int) (a b : ByteArray) (h63 : n ≤ 9223372036854775807) (h0 : 0 ≤ n) :
    getV (getF (a ++ putF n 8 ++ b) a.size 8) = .tuple #[.int .i64 n, .int .i64 ((a.size : Int) + 8), .bool true] ∧ (putF n 8).size = 8 := by
  obtain ⟨n, rfl⟩ := Int.eq_ofNat_of_zero_le h0
  have hf : fitsB (n : Int) ((8 : Nat) : Int) = true := by
    have h1 : sizeB ((8 : Nat) : Int) = true := rfl
    have h2 : decide ((8 : Int) ≤ ((8 : Nat) : Int)) = true := rfl
    simp only [fitsB, h1, h2, Bool.true_or, Bool.and_true, Bool.true_and]
    simp
  have hp : putF (n : Int) 8 = mkS (be 8 n) := putF_of (b := 8) hf
  rw [hp, back_cat, ls_mkS]
  have hg := get_back (ls a) (ls b) n 8 rfl (by omega) (by omega)
  rw [ls_length] at hg
  have hg' : getF (mkS (ls a ++ (be 8 n ++ ls b))) a.size 8 = some (n, (a.size : Int) + 8) := hg
  rw [hg']
  exact ⟨rfl, by rw [size_mkS, be_length]⟩

theorem back_text (t a b : ByteArray) (ht : t.size ≤ 1000) :
    ∃ u : ByteArray, u.size = t.size + 2 ∧ putTextV (putTextF t) = .tuple #[.string u, .int .i64 0] ∧ getTextV (getTextF (a ++ u ++ b) a.size) = .tuple #[.string t, .int .i64 ((a.size : Int) + u.size), .bool true] := by
  refine ⟨mkS (be 2 t.size ++ ls t), by simp [size_mkS, be_length, ls_length]; omega, by unfold putTextF; rw [if_pos (by omega)]; rfl, ?_⟩
  rw [back_cat, ls_mkS, List.append_assoc]
  have h := text_back (ls a) (ls t) (ls b) (by rw [ls_length]; omega)
  rw [ls_length, ls_length] at h
  rw [h]
  simp only [getTextV, mkS_ls, size_mkS, List.length_append, be_length, ls_length]
  rw [show (a.size : Int) + 2 + t.size = (a.size : Int) + ((2 + t.size : Nat) : Int) from by omega]

theorem back_hash (h : List UInt8) (hl : h.length = 32) (a b : ByteArray) :
    getHashV (a ++ mkS h ++ b) a.size = .tuple #[arr h, .int .i64 ((a.size : Int) + 32), .bool true] := by
  rw [back_cat, ls_mkS]
  have := hash_back' (ls a) h (ls b) hl
  rwa [ls_length] at this

set_option maxRecDepth 100000 in
set_option maxHeartbeats 4000000 in
theorem back_walk_pos (n : Int) (h : List UInt8) (a t b : ByteArray) (h63 : n ≤ 9223372036854775807) (hn : 0 ≤ n) (hl : h.length = 32) (ha : a.size ≤ 1000) (ht : t.size ≤ 1000) (hb : b.size ≤ 1000) (w : World) :
    Calls Try.prog 8 #[.int .i64 n, arr h, arr3 a t b] w fun e w' => e = .returned (.bool true) ∧ Below w.heap.size w w' := by
  have f1 : decide ((1000 : Int) < (a.size : Int)) = false := by simp; omega
  have f2 : decide ((1000 : Int) < (t.size : Int)) = false := by simp; omega
  have f3 : decide ((1000 : Int) < (b.size : Int)) = false := by simp; omega
  obtain ⟨u, hu, hu1, hu2⟩ := back_text t a b ht
  have HU1 := Lib.hid hu1
  have HU2 := Lib.hid hu2
  have HU := Lib.hid hu
  have hule : u.size ≤ 1002 := by omega
  have HH := Lib.hid (back_hash h hl a b)
  have hsz := putF_size n 8
  have hhs : (mkS h).size = 32 := by rw [size_mkS, hl]
  have HHS := Lib.hid hhs
  have hhle : (mkS h).size ≤ 32 := by omega
  clear hu1 hu2 hu hhs
  rw [arr_eq]
  unfold arr3
  have HA := Lib.hid (heap_alloc2_old w (.cells (arrC h) 37) (.cells #[.string a, .string t, .string b] 41))
  have HB := Lib.hid (heap_alloc2_new w (.cells (arrC h) 37) (.cells #[.string a, .string t, .string b] 41))
  have hw2 : ((w.alloc (.cells (arrC h) 37)).alloc (.cells #[.string a, .string t, .string b] 41)).heap.size = w.heap.size + 2 := by simp
  have HW2 := Lib.hid hw2
  clear hw2
  generalize hC : arrC h = C at *
  have HC := Lib.hid hC
  clear hC
  go_enter Try.func8, Try.ntmps8
  go_wp2_with fail
  generalize hW0 : (w.alloc (.cells C 37)).alloc (.cells #[.string a, .string t, .string b] 41) = W0 at *
  have HW0 := Lib.hid hW0
  clear hW0
  have hc0 : ∀ n : Ix W0, n.1.cell? ⟨w.heap.size + 1, 0, none⟩ = some (.string a) := fun n => by
    rw [n.2.cell (by rw [HW2.out]; exact Nat.lt_succ_self _)]; exact cell_of_row W0 _ _ _ _ _ HB.out
  have hc1 : ∀ n : Ix W0, n.1.cell? ⟨w.heap.size + 1, 1, none⟩ = some (.string t) := fun n => by
    rw [n.2.cell (by rw [HW2.out]; exact Nat.lt_succ_self _)]; exact cell_of_row W0 _ _ _ _ _ HB.out
  have hc2 : ∀ n : Ix W0, n.1.cell? ⟨w.heap.size + 1, 2, none⟩ = some (.string b) := fun n => by
    rw [n.2.cell (by rw [HW2.out]; exact Nat.lt_succ_self _)]; exact cell_of_row W0 _ _ _ _ _ HB.out
  refine wp_region_below_lit (by kernel_rfl) (by kernel_rfl) ?_
  repeat (go_big_quiet_step (fail))
  refine wpQuiet_nil ?_
  intro w1 hw1
  obtain ⟨⟨x1, hb1⟩, hx1⟩ := hw1
  obtain rfl : w1 = x1 := hx1
  clear hc0 hc1 hc2
  have HA1 : Hid (w1.heap[w.heap.size]? = some (.cells (arrC h) 37 (0, 0))) := Lib.hid (by rw [HC.out, hb1.block _ (by rw [HW2.out]; omega)]; exact HA.out)
  have hlt : w.heap.size < w1.heap.size := by have := hb1.size; rw [HW2.out] at this; omega
  have hbel : Below w.heap.size w w1 := by
    refine Below.trans ?_ (hb1.mono (by rw [HW2.out]; omega))
    rw [← HW0.out]
    exact bel_alloc (bel_alloc (bel_refl w))
  clear HW2 HW0 HA HB hb1
  have hcat : ∀ x : ByteArray, (a ++ x).size = a.size + x.size := size_cat a
  obtain ⟨hg, h8⟩ := back_num n a b h63 hn
  have HG := Lib.hid hg
  have g1 : decide (0 ≤ n) = true := by simpa using hn
  have g2 : (((putF n 8).size : Int) != 8) = false := by rw [h8]; rfl
  clear hg h8
  go_wp2_with fail
  refine (put_any _ _ h63 _).mono ?_
  rintro e w2 ⟨rfl, hb2⟩
  have HA2 : Hid (w2.heap[w.heap.size]? = some (.cells (arrC h) 37 (0, 0))) := Lib.hid (by rw [hb2.block _ hlt]; exact HA1.out)
  have hlt2 : w.heap.size < w2.heap.size := Nat.lt_of_lt_of_le hlt hb2.size
  clear hlt HA1
  generalize putF n 8 = S at *
  go_wp2_with fail
  refine (get_any _ _ _ (by rw [size_cat, size_cat]; unfold maxLen; omega) _).mono ?_
  rintro e w' ⟨rfl, rfl⟩
  rw [HG.out]
  go_wp2_with fail
  refine (put_text_calls _ (by unfold maxLen; omega) _).mono ?_
  rintro e w3 ⟨rfl, hb3⟩
  rw [HU1.out]
  have HA3 : Hid (w3.heap[w.heap.size]? = some (.cells (arrC h) 37 (0, 0))) := Lib.hid (by rw [hb3.block _ hlt2]; exact HA2.out)
  have hlt3 : w.heap.size < w3.heap.size := Nat.lt_of_lt_of_le hlt2 hb3.size
  clear hlt2 HA2
  go_wp2_with fail
  refine (get_text_calls _ _ (by rw [size_cat, size_cat]; unfold maxLen; omega) _).mono ?_
  rintro e w' ⟨rfl, rfl⟩
  rw [HU2.out]
  go_wp2_with (with_reducible refine wpList_load_hash rfl (.tmp 4) rfl w.heap.size rfl h hl _ HA3.out ?_)
  refine (put_hash_calls h hl _).mono ?_
  rintro e w4 ⟨rfl, hb4⟩
  have HA4 : Hid (w4.heap[w.heap.size]? = some (.cells (arrC h) 37 (0, 0))) := Lib.hid (by rw [hb4.block _ hlt3]; exact HA3.out)
  have hlt4 : w.heap.size < w4.heap.size := Nat.lt_of_lt_of_le hlt3 hb4.size
  clear hlt3 HA3
  generalize mkS h = U at *
  have g3 : ((U.size : Int) == 32) = true := by rw [HHS.out]; rfl
  go_wp2_with fail
  refine (get_hash_calls _ _ (by rw [size_cat, size_cat]; unfold maxLen; omega) _).mono ?_
  rintro e w5 ⟨rfl, hb5⟩
  rw [HH.out]
  have HA5 : Hid ((w5.alloc (.cells (arrC h) 37)).heap[w.heap.size]? = some (.cells (arrC h) 37 (0, 0))) := Lib.hid (by
    have := hb5.size
    rw [Below.heap_alloc _ _ _ (by omega), hb5.block _ hlt4]; exact HA4.out)
  clear hlt4 HA4
  have heq := eql_hash h h hl hl
  have hgd := fun x y => guard_hash .eql x y h h
  go_wp2_with (first
    | (with_reducible refine wpList_alloc_row rfl 37 rfl (arrC (zeros 32)) alloc_hash ?_)
    | (with_reducible refine wpList_store_hash rfl (.tmp 20) (.tmp 115) rfl (zeros 32) h rfl rfl hl (zeros_length 32) _ ?_)
    | (with_reducible refine wpList_load_hash_w rfl (.tmp 20) rfl w5.heap.size rfl h hl _ (alloc_at _ _) ?_)
    | (with_reducible refine wpList_load_hash_w rfl (.tmp 4) rfl w.heap.size rfl h hl _ HA5.out ?_))
  refine (does_calls _).mono ?_
  rintro e w6 ⟨rfl, hb6⟩
  go_wp2_with fail
  go_ret
  exact ⟨rfl, bel (bel_alloc (bel (bel (bel (bel hbel hb2) hb3) hb4) hb5)) hb6⟩

set_option maxRecDepth 100000 in
set_option maxHeartbeats 4000000 in
theorem back_walk_neg (n : Int) (h : List UInt8) (a t b : ByteArray) (h63 : n ≤ 9223372036854775807) (hn : ¬ 0 ≤ n) (hl : h.length = 32) (ha : a.size ≤ 1000) (ht : t.size ≤ 1000) (hb : b.size ≤ 1000) (w : World) :
    Calls Try.prog 8 #[.int .i64 n, arr h, arr3 a t b] w fun e w' => e = .returned (.bool true) ∧ Below w.heap.size w w' := by
  have f1 : decide ((1000 : Int) < (a.size : Int)) = false := by simp; omega
  have f2 : decide ((1000 : Int) < (t.size : Int)) = false := by simp; omega
  have f3 : decide ((1000 : Int) < (b.size : Int)) = false := by simp; omega
  obtain ⟨u, hu, hu1, hu2⟩ := back_text t a b ht
  have HU1 := Lib.hid hu1
  have HU2 := Lib.hid hu2
  have HU := Lib.hid hu
  have hule : u.size ≤ 1002 := by omega
  have HH := Lib.hid (back_hash h hl a b)
  have hsz := putF_size n 8
  have hhs : (mkS h).size = 32 := by rw [size_mkS, hl]
  have HHS := Lib.hid hhs
  have hhle : (mkS h).size ≤ 32 := by omega
  clear hu1 hu2 hu hhs
  rw [arr_eq]
  unfold arr3
  have HA := Lib.hid (heap_alloc2_old w (.cells (arrC h) 37) (.cells #[.string a, .string t, .string b] 41))
  have HB := Lib.hid (heap_alloc2_new w (.cells (arrC h) 37) (.cells #[.string a, .string t, .string b] 41))
  have hw2 : ((w.alloc (.cells (arrC h) 37)).alloc (.cells #[.string a, .string t, .string b] 41)).heap.size = w.heap.size + 2 := by simp
  have HW2 := Lib.hid hw2
  clear hw2
  generalize hC : arrC h = C at *
  have HC := Lib.hid hC
  clear hC
  go_enter Try.func8, Try.ntmps8
  go_wp2_with fail
  generalize hW0 : (w.alloc (.cells C 37)).alloc (.cells #[.string a, .string t, .string b] 41) = W0 at *
  have HW0 := Lib.hid hW0
  clear hW0
  have hc0 : ∀ n : Ix W0, n.1.cell? ⟨w.heap.size + 1, 0, none⟩ = some (.string a) := fun n => by
    rw [n.2.cell (by rw [HW2.out]; exact Nat.lt_succ_self _)]; exact cell_of_row W0 _ _ _ _ _ HB.out
  have hc1 : ∀ n : Ix W0, n.1.cell? ⟨w.heap.size + 1, 1, none⟩ = some (.string t) := fun n => by
    rw [n.2.cell (by rw [HW2.out]; exact Nat.lt_succ_self _)]; exact cell_of_row W0 _ _ _ _ _ HB.out
  have hc2 : ∀ n : Ix W0, n.1.cell? ⟨w.heap.size + 1, 2, none⟩ = some (.string b) := fun n => by
    rw [n.2.cell (by rw [HW2.out]; exact Nat.lt_succ_self _)]; exact cell_of_row W0 _ _ _ _ _ HB.out
  refine wp_region_below_lit (by kernel_rfl) (by kernel_rfl) ?_
  repeat (go_big_quiet_step (fail))
  refine wpQuiet_nil ?_
  intro w1 hw1
  obtain ⟨⟨x1, hb1⟩, hx1⟩ := hw1
  obtain rfl : w1 = x1 := hx1
  clear hc0 hc1 hc2
  have HA1 : Hid (w1.heap[w.heap.size]? = some (.cells (arrC h) 37 (0, 0))) := Lib.hid (by rw [HC.out, hb1.block _ (by rw [HW2.out]; omega)]; exact HA.out)
  have hlt : w.heap.size < w1.heap.size := by have := hb1.size; rw [HW2.out] at this; omega
  have hbel : Below w.heap.size w w1 := by
    refine Below.trans ?_ (hb1.mono (by rw [HW2.out]; omega))
    rw [← HW0.out]
    exact bel_alloc (bel_alloc (bel_refl w))
  clear HW2 HW0 HA HB hb1
  have hcat : ∀ x : ByteArray, (a ++ x).size = a.size + x.size := size_cat a
  have HG0 := Lib.hid (getV_form (getF (a ++ putF n 8 ++ b) a.size 8))
  obtain ⟨m, nx, ok, hg⟩ := HG0.out
  have HG := Lib.hid hg
  have g1 : decide (0 ≤ n) = false := by simpa using hn
  have hf : fitsB n 8 = false := by simp [fitsB, g1]
  have HE := Lib.hid (show putF n 8 = ⟨#[]⟩ by unfold putF; rw [hf]; rfl)
  have g2 : (putF n 8).toList = [] := by rw [HE.out, toList_ls]; rfl
  clear hg hf
  go_wp2_with fail
  refine (put_any _ _ h63 _).mono ?_
  rintro e w2 ⟨rfl, hb2⟩
  have HA2 : Hid (w2.heap[w.heap.size]? = some (.cells (arrC h) 37 (0, 0))) := Lib.hid (by rw [hb2.block _ hlt]; exact HA1.out)
  have hlt2 : w.heap.size < w2.heap.size := Nat.lt_of_lt_of_le hlt hb2.size
  clear hlt HA1
  generalize putF n 8 = S at *
  go_wp2_with fail
  refine (get_any _ _ _ (by rw [size_cat, size_cat]; unfold maxLen; omega) _).mono ?_
  rintro e w' ⟨rfl, rfl⟩
  rw [HG.out]
  go_wp2_with fail
  refine (put_text_calls _ (by unfold maxLen; omega) _).mono ?_
  rintro e w3 ⟨rfl, hb3⟩
  rw [HU1.out]
  have HA3 : Hid (w3.heap[w.heap.size]? = some (.cells (arrC h) 37 (0, 0))) := Lib.hid (by rw [hb3.block _ hlt2]; exact HA2.out)
  have hlt3 : w.heap.size < w3.heap.size := Nat.lt_of_lt_of_le hlt2 hb3.size
  clear hlt2 HA2
  go_wp2_with fail
  refine (get_text_calls _ _ (by rw [size_cat, size_cat]; unfold maxLen; omega) _).mono ?_
  rintro e w' ⟨rfl, rfl⟩
  rw [HU2.out]
  go_wp2_with (with_reducible refine wpList_load_hash rfl (.tmp 4) rfl w.heap.size rfl h hl _ HA3.out ?_)
  refine (put_hash_calls h hl _).mono ?_
  rintro e w4 ⟨rfl, hb4⟩
  have HA4 : Hid (w4.heap[w.heap.size]? = some (.cells (arrC h) 37 (0, 0))) := Lib.hid (by rw [hb4.block _ hlt3]; exact HA3.out)
  have hlt4 : w.heap.size < w4.heap.size := Nat.lt_of_lt_of_le hlt3 hb4.size
  clear hlt3 HA3
  generalize mkS h = U at *
  have g3 : ((U.size : Int) == 32) = true := by rw [HHS.out]; rfl
  go_wp2_with fail
  refine (get_hash_calls _ _ (by rw [size_cat, size_cat]; unfold maxLen; omega) _).mono ?_
  rintro e w5 ⟨rfl, hb5⟩
  rw [HH.out]
  have HA5 : Hid ((w5.alloc (.cells (arrC h) 37)).heap[w.heap.size]? = some (.cells (arrC h) 37 (0, 0))) := Lib.hid (by
    have := hb5.size
    rw [Below.heap_alloc _ _ _ (by omega), hb5.block _ hlt4]; exact HA4.out)
  clear hlt4 HA4
  have heq := eql_hash h h hl hl
  have hgd := fun x y => guard_hash .eql x y h h
  go_wp2_with (first
    | (with_reducible refine wpList_alloc_row rfl 37 rfl (arrC (zeros 32)) alloc_hash ?_)
    | (with_reducible refine wpList_store_hash rfl (.tmp 20) (.tmp 115) rfl (zeros 32) h rfl rfl hl (zeros_length 32) _ ?_)
    | (with_reducible refine wpList_load_hash_w rfl (.tmp 20) rfl w5.heap.size rfl h hl _ (alloc_at _ _) ?_)
    | (with_reducible refine wpList_load_hash_w rfl (.tmp 4) rfl w.heap.size rfl h hl _ HA5.out ?_))
  refine (does_calls _).mono ?_
  rintro e w6 ⟨rfl, hb6⟩
  go_wp2_with fail
  go_ret
  exact ⟨rfl, bel (bel_alloc (bel (bel (bel (bel hbel hb2) hb3) hb4) hb5)) hb6⟩

set_option maxRecDepth 100000 in
set_option maxHeartbeats 4000000 in
theorem back_long (n : Int) (h : List UInt8) (a t b : ByteArray) (hl : h.length = 32) (ma : a.size ≤ maxLen) (mt : t.size ≤ maxLen) (mb : b.size ≤ maxLen) (hx : ¬ (a.size ≤ 1000 ∧ t.size ≤ 1000 ∧ b.size ≤ 1000)) (w : World) :
    Calls Try.prog 8 #[.int .i64 n, arr h, arr3 a t b] w fun e w' => e = .returned (.bool true) ∧ Below w.heap.size w w' := by
  unfold maxLen at ma mt mb
  have hcase : decide ((1000 : Int) < (a.size : Int)) = true ∨ (decide ((1000 : Int) < (a.size : Int)) = false ∧ decide ((1000 : Int) < (t.size : Int)) = true) ∨ (decide ((1000 : Int) < (a.size : Int)) = false ∧ decide ((1000 : Int) < (t.size : Int)) = false ∧ decide ((1000 : Int) < (b.size : Int)) = true) := by
    simp only [decide_eq_true_eq, decide_eq_false_iff_not]; omega
  clear hx
  rw [arr_eq]
  unfold arr3
  have HA := Lib.hid (heap_alloc2_old w (.cells (arrC h) 37) (.cells #[.string a, .string t, .string b] 41))
  have HB := Lib.hid (heap_alloc2_new w (.cells (arrC h) 37) (.cells #[.string a, .string t, .string b] 41))
  have hw2 : ((w.alloc (.cells (arrC h) 37)).alloc (.cells #[.string a, .string t, .string b] 41)).heap.size = w.heap.size + 2 := by simp
  have HW2 := Lib.hid hw2
  clear hw2
  generalize hC : arrC h = C at *
  have HC := Lib.hid hC
  clear hC
  rcases hcase with f1 | ⟨f1, f2⟩ | ⟨f1, f2, f3⟩
  all_goals
    go_enter Try.func8, Try.ntmps8
    go_wp2_with fail
    generalize hW0 : (w.alloc (.cells C 37)).alloc (.cells #[.string a, .string t, .string b] 41) = W0 at *
    have HW0 := Lib.hid hW0
    clear hW0
    have hc0 : ∀ n : Ix W0, n.1.cell? ⟨w.heap.size + 1, 0, none⟩ = some (.string a) := fun n => by
      rw [n.2.cell (by rw [HW2.out]; exact Nat.lt_succ_self _)]; exact cell_of_row W0 _ _ _ _ _ HB.out
    have hc1 : ∀ n : Ix W0, n.1.cell? ⟨w.heap.size + 1, 1, none⟩ = some (.string t) := fun n => by
      rw [n.2.cell (by rw [HW2.out]; exact Nat.lt_succ_self _)]; exact cell_of_row W0 _ _ _ _ _ HB.out
    have hc2 : ∀ n : Ix W0, n.1.cell? ⟨w.heap.size + 1, 2, none⟩ = some (.string b) := fun n => by
      rw [n.2.cell (by rw [HW2.out]; exact Nat.lt_succ_self _)]; exact cell_of_row W0 _ _ _ _ _ HB.out
    refine wp_region_below_lit (by kernel_rfl) (by kernel_rfl) ?_
    repeat (go_big_quiet_step (fail))
    refine wpQuiet_nil ?_
    intro w1 hw1
    obtain ⟨⟨x1, hb1⟩, hx1⟩ := hw1
    obtain rfl : w1 = x1 := hx1
    clear hc0 hc1 hc2
    have hbel : Below w.heap.size w w1 := by
      refine Below.trans ?_ (hb1.mono (by rw [HW2.out]; omega))
      rw [← HW0.out]
      exact bel_alloc (bel_alloc (bel_refl w))
    go_wp2_with fail
    go_ret
    exact ⟨rfl, hbel⟩

theorem wordsBack_walk (a0 : Int) (v1 : Value) (l1 : List UInt8) (v2 : Value) (l2 : ByteArray × ByteArray × ByteArray) (w0 : (Lit.int .i64 a0).wf = true) (w : World)
    (r1 : v1 = .agg (u8s l1).toArray ∧ l1.length = 32) (r2 : v2 = arr3 l2.1 l2.2.1 l2.2.2 ∧ l2.1.size ≤ maxLen ∧ l2.2.1.size ≤ maxLen ∧ l2.2.2.size ≤ maxLen) :
    Calls Try.prog 8 #[.int .i64 a0, v1, v2] w fun e w' => e = .returned (.bool true) ∧ Below w.heap.size w w' := by
  obtain ⟨rfl, hl⟩ := r1
  obtain ⟨rfl, ma, mt, mb⟩ := r2
  have h63 := (bounds_i64 w0).2
  by_cases hx : l2.1.size ≤ 1000 ∧ l2.2.1.size ≤ 1000 ∧ l2.2.2.size ≤ 1000
  · obtain ⟨ha, ht, hb⟩ := hx
    by_cases hn : 0 ≤ a0
    · exact back_walk_pos a0 l1 _ _ _ h63 hn hl ha ht hb w
    · exact back_walk_neg a0 l1 _ _ _ h63 hn hl ha ht hb w
  · exact back_long a0 l1 _ _ _ hl ma mt mb hx w
end Go.Proofs.Ytbbokdnkabbmfaa
