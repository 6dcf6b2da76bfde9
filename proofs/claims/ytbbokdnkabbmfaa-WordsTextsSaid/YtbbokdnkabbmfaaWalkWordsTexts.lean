/- The walk of WordsTexts: the law returns true. -/
import Derived.Test.YtbbokdnkabbmfaaBackPlain
import Derived.Test.YtbbokdnkabbmfaaShapes
set_option linter.unusedVariables false
set_option linter.unusedSimpArgs false
namespace Go.Proofs.Ytbbokdnkabbmfaa
open Go.RowKit

/-- The first k texts are short. -/
def shortTo (ss : List ByteArray) (k : Nat) : Prop := ∀ s ∈ ss.take k, s.size ≤ 200
theorem shortTo_succ {ss : List ByteArray} {k : Nat} (h : k < ss.length) (hs : shortTo ss k) (h1 : ss[k].size ≤ 200) : shortTo ss (k + 1) := fun s hm => by
  rw [List.take_succ_eq_append_getElem h] at hm
  rcases List.mem_append.1 hm with h2 | h2
  · exact hs s h2
  · simp at h2; subst h2; exact h1
theorem short_len {ss : List ByteArray} {k : Nat} (hs : shortTo ss k) (hl : ss.length ≤ 30) : (textsL (ss.take k)).length ≤ 6060 := by
  have h1 := textsL_le (ss.take k) 200 hs
  have h2 : (ss.take k).length ≤ 30 := by simp; omega
  have : (ss.take k).length * (200 + 2) ≤ 30 * 202 := Nat.mul_le_mul_right _ h2
  omega
theorem texts_put (t : ByteArray) (h : t.size ≤ 200) : putTextV (putTextF t) = .tuple #[.string (mkS (be 2 t.size ++ ls t)), .int .i64 0] := by
  unfold putTextF; rw [if_pos (by omega)]; rfl
theorem size_one (t : ByteArray) : (mkS (be 2 t.size ++ ls t)).size = t.size + 2 := by simp [size_mkS, be_length, ls_length]; omega
theorem texts_more (ss : List ByteArray) (k : Nat) (h : k < ss.length) : mkS (textsL (ss.take k)) ++ mkS (be 2 ss[k].size ++ ls ss[k]) = mkS (textsL (ss.take (k + 1))) := by
  apply eq_mkS
  rw [ls_append, ls_mkS, ls_mkS, textsL_take_succ ss k h]

theorem texts_tell (ss : List ByteArray) (k : Nat) (h : k < ss.length) (hs : ss[k].size ≤ 65535) :
    getTextV (getTextF (mkS (textsL ss)) (textsL (ss.take k)).length) = .tuple #[.string ss[k], .int .i64 (textsL (ss.take (k + 1))).length, .bool true] := by
  rw [texts_read ss k h hs]; rfl
theorem texts_next (ss : List ByteArray) (k : Nat) (h : k < ss.length) : ((textsL (ss.take (k + 1))).length : Int) = (textsL (ss.take k)).length + 2 + ss[k].size := by
  rw [textsL_take_succ ss k h]; simp [be_length, ls_length]; omega

set_option maxRecDepth 100000 in
set_option maxHeartbeats 2000000 in
theorem wordsTexts_walk (v : Value) (ss : List ByteArray) (w : World) (hrow : StrRow w v ss) :
    Calls Try.prog 6 #[v] w fun e w' => e = .returned (.bool true) ∧ Below w.heap.size w w' := by
  obtain ⟨a, cap, rfl, hsz, hml, hcells⟩ := hrow
  unfold maxLen at hml
  by_cases hbig : 30 < ss.length
  · have f1 : decide ((30 : Int) < (ss.length : Int)) = true := by simp; omega
    go_enter Try.func6, Try.ntmps6
    go_wp2
    go_ret
    exact ⟨rfl, Below.refl _ _⟩
  have f1 : decide ((30 : Int) < (ss.length : Int)) = false := by simp; omega
  have HC := Lib.hid hcells
  have HZ := Lib.hid hsz
  clear hcells hsz
  go_enter Try.func6, Try.ntmps6
  go_wp2_with fail
  go_loopw [3, 4] (fun s i wr => ∃ k : Nat, k ≤ ss.length ∧ i = .int .i64 k ∧ s = .string (mkS (textsL (ss.take k))) ∧ Hid (shortTo ss k) ∧ Below w.heap.size w wr) (fun _ i _ => ss.length - (intOf i).toNat)
  case atStart => exact ⟨0, by omega, rfl, rfl, fun s hs => by simp at hs, Below.refl _ _⟩
  case round =>
    obtain ⟨k, hk, rfl, rfl, hsh, hbel⟩ := hrel
    by_cases hlt : k < ss.length
    · obtain ⟨x, hx, hcell⟩ := HC.out (by intro h; simp [h] at hlt)
      have hc0 := hcell k hlt
      have hc : wr.cell? (x.add k) = some (.string ss[k]) := by rw [← hc0]; exact hbel.cell (block_lt_of_cell hc0)
      have hm : ss[k].size ≤ maxLen := HZ.out _ (List.getElem_mem _)
      clear hc0 hcell
      generalize hsk : ss[k] = t at *
      have HK := Lib.hid hsk
      clear hsk
      subst hx
      by_cases h200 : t.size ≤ 200
      · have f2 : decide ((200 : Int) < (t.size : Int)) = false := by simp; omega
        have HP := Lib.hid (texts_put t h200)
        have HS := Lib.hid (size_one t)
        go_wp2_with fail
        refine (put_text_calls _ hm _).mono ?_
        rintro e w1 ⟨rfl, hb1⟩
        rw [HP.out]
        have hc1 : w1.cell? (x.add k) = some (.string t) := by rw [← hc]; exact hb1.cell (block_lt_of_cell hc)
        clear hc
        have f3 : (((mkS (be 2 t.size ++ ls t)).size : Int) != (t.size : Int) + 2) = false := by rw [HS.out]; simp
        have hle := short_len hsh (by omega)
        have f4 : (mkS (textsL (ss.take k))).size + (mkS (be 2 t.size ++ ls t)).size ≤ 9223372036854775807 := by rw [HS.out]; simp only [size_mkS]; omega
        go_wp2_with fail
        go_roundw
        case rel => exact ⟨k + 1, by omega, by go_num, by rw [← HK.out, texts_more ss k hlt], shortTo_succ hlt hsh (by rw [HK.out]; exact h200), bel hbel hb1⟩
        case measure => simp [intOf]; omega
      · have f2 : decide ((200 : Int) < (t.size : Int)) = true := by simp; omega
        go_wp2_with fail
        go_ret
        exact ⟨rfl, hbel⟩
    · obtain rfl : k = ss.length := by omega
      rw [List.take_length]
      go_wp2_with fail
      go_loop [7, 8] (fun p i => ∃ k : Nat, k ≤ ss.length ∧ i = .int .i64 k ∧ p = .int .i64 (textsL (ss.take k)).length) (fun _ i => ss.length - (intOf i).toNat)
      case atStart => exact ⟨0, by omega, rfl, rfl⟩
      case round =>
        obtain ⟨k, hk', rfl, rfl⟩ := hrel
        have hle := short_len hsh (by omega)
        rw [List.take_length] at hle
        have hm : (mkS (textsL ss)).size ≤ maxLen := by rw [size_mkS]; unfold maxLen; omega
        by_cases hlt' : k < ss.length
        · obtain ⟨x, hx, hcell⟩ := HC.out (by intro h; simp [h] at hlt')
          have hc0 := hcell k hlt'
          have hc : wr.cell? (x.add k) = some (.string ss[k]) := by rw [← hc0]; exact hbel.cell (block_lt_of_cell hc0)
          have h200 : ss[k].size ≤ 200 := hsh.out _ (by rw [List.take_length]; exact List.getElem_mem _)
          have HT := Lib.hid (texts_tell ss k hlt' (by omega))
          have HN := Lib.hid (texts_next ss k hlt')
          have hle2 := short_len (k := k) (fun s hs => hsh.out s (by rw [List.take_length]; exact List.mem_of_mem_take hs)) (show ss.length ≤ 30 by omega)
          clear hc0 hcell
          generalize hsk : ss[k] = t at *
          clear hsk
          subst hx
          generalize hp' : (textsL (ss.take (k + 1))).length = p' at *
          have HP' := Lib.hid hp'
          clear hp'
          have f5 : ((p' : Int) != ((textsL (ss.take k)).length : Int) + 2 + (t.size : Int)) = false := by rw [HN.out]; simp
          go_wp2_with fail
          refine (get_text_calls _ _ hm _).mono ?_
          rintro e w' ⟨rfl, rfl⟩
          rw [HT.out]
          go_wp2_with fail
          go_round
          case rel => exact ⟨k + 1, by omega, by go_num, by rw [HP'.out]⟩
          case measure => simp [intOf]; omega
        · obtain rfl : k = ss.length := by omega
          rw [List.take_length]
          have f6 : ((textsL ss).length == (mkS (textsL ss)).size) = true := by simp [size_mkS]
          go_wp2_with fail
          refine (does_calls _).mono ?_
          rintro e w2 ⟨rfl, hb2⟩
          go_wp2_with fail
          go_ret
          exact ⟨rfl, bel hbel hb2⟩
end Go.Proofs.Ytbbokdnkabbmfaa
