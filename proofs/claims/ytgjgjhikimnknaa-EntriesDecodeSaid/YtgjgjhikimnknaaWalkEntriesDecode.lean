/- The walk of EntriesDecode: the law returns true. -/
import Derived.Test.YtgjgjhikimnknaaRef15i
import Derived.Test.YtgjgjhikimnknaaDoes15
set_option linter.unusedVariables false
set_option linter.unusedSimpArgs false
namespace Go.Proofs.Ytgjgjhikimnknaa
open Go.RowKit

theorem St.both {w w1 w2 : World} {g1 g2 : Nat} {C1 C2 : Array Value} {T1 T2 : TypeId} (h1 : St [] w w1 [(g1, C1, T1)]) (hb : Below w1.heap.size w1 w2) (h2 : St [] w1 w2 [(g2, C2, T2)]) : St [] w w2 [(g2, C2, T2), (g1, C1, T1)] :=
  h1.belowNew hb (by
    rcases h2.own _ (List.mem_cons_self) with h | h
    · exact h
    · simp at h) (h2.blk _ (List.mem_cons_self))
set_option maxHeartbeats 8000000 in
set_option maxRecDepth 100000 in
theorem entriesDecode_walk (s : ByteArray) (hs : s.size ≤ 140737488351232) (w : World) :
    Calls Try.prog 4 #[.string s] w fun e w' => e = .returned (.bool true) ∧ Below w.heap.size w w' := by
  by_cases hbig : 5000 < s.size
  · have f1 : decide ((5000 : Int) < (s.size : Int)) = true := by simp; omega
    go_enter Try.func4, Try.ntmps4
    go_wp2
    go_ret
    exact ⟨rfl, Below.refl _ _⟩
  have f1 : decide ((5000 : Int) < (s.size : Int)) = false := by simp; omega
  have HD := Lib.hid (decode_calls s hs)
  have HE := Lib.hid (ref_decode_calls s hs)
  unfold DecPost at HD HE
  cases hd : decF s with
  | none =>
    rw [hd] at HD HE
    clear hd
    go_enter Try.func4, Try.ntmps4
    go_wp2_with fail
    refine (HD.out _).mono ?_
    rintro e w1 ⟨hp, hb1⟩
    obtain rfl := hp
    go_wp2_with fail
    refine (HE.out _).mono ?_
    rintro e w2 ⟨hp, hb2⟩
    obtain rfl := hp
    have h2 := belw hb1 hb2
    clear hb1 hb2
    go_wp2_with fail
    refine (same_calls _ _ [] [] _ (entRow_nil _) (entRow_nil _)).mono ?_
    rintro e w3 ⟨rfl, hb3⟩
    rw [show sameB [] [] = true from rfl]
    have h3 := belw h2 hb3
    clear h2 hb3
    go_wp2_with fail
    go_loopw [7] (fun iv wr => iv = .int .i64 0 ∧ Below w.heap.size w wr) (fun _ _ => 0)
    case atStart => exact ⟨rfl, h3⟩
    case round =>
      obtain ⟨rfl, hbel⟩ := hrel
      clear h3
      go_wp2_with fail
      refine (HD.out _).mono ?_
      rintro e w4 ⟨hp, hb4⟩
      obtain rfl := hp
      have h4 := belw hbel hb4
      clear hbel hb4
      go_wp2_with fail
      refine (same_calls _ _ [] [] _ (entRow_nil _) (entRow_nil _)).mono ?_
      rintro e w5 ⟨rfl, hb5⟩
      rw [show sameB [] [] = true from rfl]
      have h5 := belw h4 hb5
      clear h4 hb5
      go_wp2_with fail
      refine (does_calls _).mono ?_
      rintro e w6 ⟨rfl, hb6⟩
      have h6 := belw h5 hb6
      clear h5 hb6
      go_wp2_with fail
      go_ret
      exact ⟨rfl, h6⟩
  | some m =>
    have hm2 := dec_wf32 hd
    have hmh := Lib.hid (sameB_self m (dec_hash hd))
    rw [hd] at HD HE
    clear hd
    by_cases hm0 : m = []
    · subst hm0
      go_enter Try.func4, Try.ntmps4
      go_wp2_with fail
      refine (HD.out _).mono ?_
      rintro e w1 ⟨⟨v1, rfl, hown1, _⟩, hb1⟩
      obtain ⟨a1, c1, rfl, hrow1⟩ : ∃ a c, v1 = .slice a 0 c ∧ EntRow w1 (.slice a 0 c) [] := by
        have := entRow_owns hown1 (by simp) (by simp)
        obtain ⟨a, c, rfl, r⟩ := id this
        exact ⟨a, c, rfl, this⟩
      clear hown1
      go_wp2_with fail
      refine (HE.out _).mono ?_
      rintro e w2 ⟨⟨v2, rfl, hown2, _⟩, hb2⟩
      have h2 := belw hb1 hb2
      have R1 := Lib.hid (hrow1.old hb2)
      have R2 := Lib.hid (entRow_owns hown2 (by simp) (by simp))
      clear hb1 hb2 hown2 hrow1
      go_wp2_with fail
      refine (same_calls _ _ [] [] _ R1.out R2.out).mono ?_
      rintro e w3 ⟨rfl, hb3⟩
      rw [show sameB [] [] = true from rfl]
      have h3 := belw h2 hb3
      have R2 := Lib.hid (R2.out.old hb3)
      clear h2 hb3 R1
      go_wp2_with fail
      go_loopw [7] (fun iv wr => iv = .int .i64 0 ∧ Below w3.heap.size w3 wr) (fun _ _ => 0)
      case atStart => exact ⟨rfl, Below.refl _ _⟩
      case round =>
        obtain ⟨rfl, hbr⟩ := hrel
        have hbel := belw h3 hbr
        have R3 := Lib.hid (R2.out.old hbr)
        clear h3 hbr R2
        go_wp2_with fail
        refine (HD.out _).mono ?_
        rintro e w4 ⟨⟨v4, rfl, hown4, _⟩, hb4⟩
        have h4 := belw hbel hb4
        have R4 := Lib.hid (entRow_owns hown4 (by simp) (by simp))
        have R3 := Lib.hid (R3.out.old hb4)
        clear hbel hb4 hown4
        go_wp2_with fail
        refine (same_calls _ _ [] [] _ R4.out R3.out).mono ?_
        rintro e w5 ⟨rfl, hb5⟩
        rw [show sameB [] [] = true from rfl]
        have h5 := belw h4 hb5
        clear h4 hb5 R3 R4
        go_wp2_with fail
        refine (does_calls _).mono ?_
        rintro e w6 ⟨rfl, hb6⟩
        have h6 := belw h5 hb6
        clear h5 hb6
        go_wp2_with fail
        go_ret
        exact ⟨rfl, h6⟩
    · have hl0 : 0 < m.length := List.length_pos_iff.2 hm0
      clear hm0
      go_enter Try.func4, Try.ntmps4
      go_wp2_with fail
      refine (HD.out _).mono ?_
      rintro e w1 ⟨⟨v1, rfl, hown1, hwm⟩, hb1⟩
      obtain ⟨g1, c1, rfl⟩ := own_some hown1 hl0
      obtain ⟨rest1, hst1, hn1, _, _⟩ := St.ofOwn hb1 hown1
      have HWM := Lib.hid hwm
      clear hown1 hb1 hwm
      go_wp2_with fail
      refine (HE.out _).mono ?_
      rintro e w2 ⟨⟨v2, rfl, hown2, _⟩, hb2⟩
      obtain ⟨g2, c2, rfl⟩ := own_some hown2 hl0
      obtain ⟨rest2, hst2, hn2, _, _⟩ := St.ofOwn hb2 hown2
      have hst := St.both hst1 hb2 hst2
      clear hst1 hst2 hb2 hown2
      have R1 : EntRow w2 (.slice (some ⟨g1, 0, none⟩) m.length c1) m := entRow_pre (hst.has (g := g1)) rfl HWM.out (by unfold maxLen; omega)
      have R2 : EntRow w2 (.slice (some ⟨g2, 0, none⟩) m.length c2) m := entRow_pre (hst.has (g := g2)) rfl HWM.out (by unfold maxLen; omega)
      have R1 := Lib.hid R1
      have R2 := Lib.hid R2
      go_wp2_with fail
      refine (same_calls _ _ m m _ R1.out R2.out).mono ?_
      rintro e w3 ⟨rfl, hb3⟩
      rw [hmh.out]
      have h3 := hst.below hb3
      clear hst hb3 R1 R2
      go_wp2_with fail
      go_loopw [7] (fun iv wr => ∃ (k : Nat) (m' : List Ent), k ≤ m.length ∧ iv = .int .i64 k ∧ Hid (m'.length = m.length) ∧ St [] w wr [(g2, (m.flatMap entL ++ rest2).toArray, 27), (g1, (m'.flatMap entL ++ rest1).toArray, 27)]) (fun i _ => m.length - (intOf i).toNat)
      case atStart => exact ⟨0, m, by omega, rfl, rfl, h3⟩
      case round =>
        obtain ⟨k, m', hk, rfl, hlm, hsr⟩ := hrel
        clear h3
        by_cases hlt : k < m.length
        · have hkl : k < m'.length := by rw [hlm.out]; exact hlt
          have wI := wrEnts m' rest1 k hkl ent0
          have HSL : Hid ((m'.set k ent0).length = m.length) := Lib.hid (by rw [List.length_set, hlm.out])
          clear hkl
          go_wp2_with (first
            | (refine wpList_val rfl 40 rfl (.agg (entL ent0).toArray) (fun w => by kernel_rfl) ?_)
            | (first
      | (with_reducible refine wpList_neqE rfl _ _ _ rfl _ _ rfl rfl ?_)
      | (with_reducible refine wpList_eqlE rfl _ _ _ rfl _ _ rfl rfl ?_)
      | (with_reducible refine wpList_ld rfl _ _ rfl _ _ rfl (by assumption) ?_)
      | (with_reducible refine wpList_lda rfl _ _ rfl _ _ rfl (by assumption) ?_)
      | (with_reducible refine wpList_stI rfl _ _ _ rfl _ _ rfl _ _ rfl (by assumption) ?_; intro w' hst)
      | (with_reducible refine wpList_stS rfl _ _ _ rfl _ _ rfl _ rfl (by assumption) ?_; intro w' hst)
      | (with_reducible refine wpList_stB rfl _ _ _ rfl _ _ rfl _ rfl (by assumption) ?_; intro w' hst)
      | (with_reducible refine wpList_stA rfl _ _ _ rfl _ _ rfl _ rfl (by assumption) ?_; intro w' hst)
      | (with_reducible refine wpList_box rfl _ _ rfl (by assumption) _ rfl ?_; intro bb w' hst)
      | (with_reducible refine wpList_new rfl _ rfl (by assumption) _ zero_ent ?_; intro bn w' hst)
      | (with_reducible refine wpList_new rfl _ rfl (by assumption) _ zero_run ?_; intro br w' hst)))
          go_roundw
          case rel => exact ⟨k + 1, _, by omega, by go_num, HSL, hst⟩
          case measure => simp [intOf]; omega
        · obtain rfl : k = m.length := by omega
          have R2 : EntRow wr (.slice (some ⟨g2, 0, none⟩) m.length c2) m := entRow_pre (hsr.has (g := g2)) rfl HWM.out (by unfold maxLen; omega)
          have R2 := Lib.hid R2
          have hbel := hsr.end
          clear hsr
          go_wp2_with fail
          refine (HD.out _).mono ?_
          rintro e w4 ⟨⟨v4, rfl, hown4, _⟩, hb4⟩
          have h4 := belw hbel hb4
          have R4 := Lib.hid (entRow_owns hown4 HWM.out (by unfold maxLen; omega))
          have R3 := Lib.hid (R2.out.old hb4)
          clear hbel hb4 hown4 R2
          go_wp2_with fail
          refine (same_calls _ _ m m _ R4.out R3.out).mono ?_
          rintro e w5 ⟨rfl, hb5⟩
          rw [hmh.out]
          have h5 := belw h4 hb5
          clear h4 hb5 R3 R4
          go_wp2_with fail
          refine (does_calls _).mono ?_
          rintro e w6 ⟨rfl, hb6⟩
          have h6 := belw h5 hb6
          clear h5 hb6
          go_wp2_with fail
          go_ret
          exact ⟨rfl, h6⟩
end Go.Proofs.Ytgjgjhikimnknaa
