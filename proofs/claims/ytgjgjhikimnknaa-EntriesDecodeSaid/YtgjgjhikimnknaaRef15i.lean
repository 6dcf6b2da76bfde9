/- The contract of the reference's Decode: it tells what entries.Decode tells. -/
import Derived.Test.YtgjgjhikimnknaaRef15h
set_option linter.unusedVariables false
set_option linter.unusedSimpArgs false
namespace Go.Proofs.Ytgjgjhikimnknaa
open Go.RowKit

theorem numG_range (s : ByteArray) (a b : Int) : -1 ≤ numG s a b ∧ numG s a b ≤ 9223372036854775807 := by
  have := numN_range s a b
  unfold numG
  split <;> omega
theorem numG_two (s : ByteArray) (a : Int) : numG s a 2 ≤ 65535 := by
  unfold numG
  split
  · rename_i h
    have := (num_reads (b := 2) h).2.1
    simp [fitsB] at this
    omega
  · omega
theorem numG_i64 (s : ByteArray) (a b : Int) : I64 (numG s a b) := by have := numG_range s a b; unfold I64; omega
theorem readE_wf (s : ByteArray) (hs : s.size ≤ 140737488351232) (a : Int) : (readE s a).Wf := by
  have z : I64 0 := by unfold I64; decide
  have ht : ∀ b, (textN s b).size ≤ 9223372036854775807 := fun b => Nat.le_trans (textN_size s b) (by omega)
  unfold readE
  repeat' split
  · exact ⟨numG_i64 _ _ _, z, z, z, ht _, rfl, z, z⟩
  · exact ⟨numG_i64 _ _ _, numG_i64 _ _ _, z, z, ht _, rfl, z, z⟩
  · exact ⟨numG_i64 _ _ _, numG_i64 _ _ _, numG_i64 _ _ _, z, (show noS.size ≤ 9223372036854775807 by decide), rfl, z, z⟩
  · exact ⟨numG_i64 _ _ _, numG_i64 _ _ _, numG_i64 _ _ _, numG_i64 _ _ _, (show noS.size ≤ 9223372036854775807 by decide), hashN_length _ _, numG_i64 _ _ _, numG_i64 _ _ _⟩
  · exact ⟨numG_i64 _ _ _, numG_i64 _ _ _, z, z, (show noS.size ≤ 9223372036854775807 by decide), rfl, z, z⟩
theorem refL_step {s : ByteArray} {n : Nat} {a : Int} (h : checkB (readE s a) = true) : refL s (n + 1) a = (refL s n (a + (entBytes (readE s a)).length)).map fun l => readE s a :: l := by
  rw [refL, if_pos h]
theorem refL_stop {s : ByteArray} {n : Nat} {a : Int} (h : checkB (readE s a) = false) : refL s (n + 1) a = none := by
  rw [refL, h]; rfl
theorem own_here {w : World} {base size n : Nat} {e : TypeId} {v : Value} {xs : List Value} (h : w.ownsRow base e size v n xs) : ∀ g, v.ownBlock = some g → g < w.heap.size := by
  intro g hg
  rcases h.2 with ⟨rfl, _⟩ | ⟨g', cap, cur, rfl, _, hh, _⟩
  · simp [Value.ownBlock] at hg
  · simp [Value.ownBlock] at hg
    subst hg
    exact lt_of_heap' hh
section
variable {ops : Array Oper} {rest : List Oper} {o : Oper} {a : Act} {w : World} {Q : Exit → Act → World → Prop}
/-- The value of one entry, as a slice of its own. -/
theorem wpList_one' (hw : Region.wanted o (yielded ops a.tmps) = true) (x : Operand) (ho : o.op = .buildSlice 22 1 #[(0, x)]) (e : Ent) (he : e.Wf) (hx : a.eval x = .agg (entL e).toArray)
    (hk : ∀ (v : Value) (w' : World), Below w.heap.size w w' → EntRow w' v [e] → wpList Try.prog ops Q rest (a.put o.dst v) w') : wpList Try.prog ops Q (o :: rest) a w :=
  wpList_bs1 hw x ho (St.start w) e hx (fun b w' hb hs => hk _ w' hb (entRow_cells (hs.has (g := b)) rfl (by simp [he]) (by unfold maxLen; simp) (fun i hi j hj => by
    obtain rfl : i = 0 := by simpa using hi
    rw [Nat.zero_mul, Nat.zero_add, Nat.zero_add]
    rfl)))
end
set_option maxHeartbeats 8000000 in
set_option maxRecDepth 100000 in
theorem ref_decode_calls (s : ByteArray) (hs : s.size ≤ 140737488351232) (w : World) :
    Calls Try.prog 19 #[.string s] w fun r w' => DecPost s w r w' ∧ Below w.heap.size w w' := by
  have hs' : s.size ≤ maxLen := by unfold maxLen; omega
  have HS := Lib.hid hs
  have HS' := Lib.hid hs'
  have hM1 := (numG_range s 0 2).1
  have hM2 := numG_two s 0
  have HD : Hid (decF s = if numG s 0 2 < 0 then none else match refL s (numG s 0 2).toNat 2 with | none => none | some l => if encF l = (ls s, 0) then some l else none) := Lib.hid (refDec_eq s).symm
  have C0 := Lib.hid (ref_num_calls s 0 2 hs')
  have hz := putL_len 0 0
  clear hs hs' hz
  generalize numG s 0 2 = M at *
  go_enter Try.func19, Try.ntmps19
  go_wp2_with fail
  refine (C0.out _).mono ?_
  rintro r w1 ⟨rfl, rfl⟩
  go_wp2_with fail
  go_loopw [5, 6, 7] (fun av ov iv wr => ∃ (k p : Nat) (l : List Ent), k ≤ M.toNat ∧ iv = .int .i64 k ∧ av = .int .i64 p ∧ Hid (l.length = k) ∧ p ≤ 2 + k * 196619 ∧ wr.ownsRow w.heap.size 27 39 ov l.length (l.flatMap entL) ∧ Below w.heap.size w wr ∧ Hid (∀ e ∈ l, e.Wf) ∧
    Hid (refL s M.toNat 2 = (refL s (M.toNat - k) p).map fun r => l ++ r)) (fun _ _ i _ => M.toNat - (intOf i).toNat)
  case atStart => exact ⟨0, 2, [], by omega, rfl, rfl, rfl, by omega, ownsRow_none _ _ _ _, Below.refl _ _, (by show ∀ e ∈ [], _; simp), by show _ = _; simp⟩
  case round =>
    obtain ⟨k, p, l, hk, rfl, rfl, hlen, hp, hown, hbel, hwf, hdec⟩ := hrel
    by_cases hlt : (k : Int) < M
    · have HE := Lib.hid (readE_wf s HS.out p)
      have hEB := entBytes_len (readE s p) HE.out.hash
      obtain ⟨n, hn⟩ : ∃ n, M.toNat - k = n + 1 := ⟨M.toNat - k - 1, by omega⟩
      rw [hn] at hdec
      have HNO : Hid (checkB (readE s p) = false → decF s = none) := Lib.hid (fun h => by
        rw [HD.out, hdec.out, refL_stop h]
        split <;> rfl)
      have HYES : Hid (checkB (readE s p) = true → refL s M.toNat 2 = (refL s n (p + (entBytes (readE s p)).length)).map fun r => (l ++ [readE s p]) ++ r) := Lib.hid (fun h => by
        rw [hdec.out, refL_step h]
        cases refL s n (p + (entBytes (readE s p)).length) <;> simp)
      have HN : Hid (M.toNat - (k + 1) = n) := Lib.hid (by omega)
      have CR := Lib.hid (ref_read_calls s p HS'.out (by omega) (by omega))
      clear hdec hn
      generalize readE s p = E at *
      go_wp2_with fail
      refine (CR.out _).mono ?_
      rintro r w2 ⟨rfl, hb2⟩
      have hown2 := ownsRow_below hown hb2
      have h2 := belw hbel hb2
      have hst := St.start w2
      clear hown hbel hb2 CR
      go_wp2_with (first
      | (with_reducible refine wpList_neqE rfl _ _ _ rfl _ _ rfl rfl ?_)
      | (with_reducible refine wpList_eqlE rfl _ _ _ rfl _ _ rfl rfl ?_)
      | (with_reducible refine wpList_ld rfl _ _ rfl _ _ rfl (by assumption) ?_)
      | (with_reducible refine wpList_lda rfl _ _ rfl _ _ rfl (by assumption) ?_)
      | (with_reducible refine wpList_stI rfl _ _ _ rfl _ _ rfl _ _ rfl (by assumption) ?_; intro w' hst)
      | (with_reducible refine wpList_stS rfl _ _ _ rfl _ _ rfl _ rfl (by assumption) ?_; intro w' hst)
      | (with_reducible refine wpList_stB rfl _ _ _ rfl _ _ rfl _ rfl (by assumption) ?_; intro w' hst)
      | (with_reducible refine wpList_stA rfl _ _ _ rfl _ _ rfl _ rfl (by assumption) ?_; intro w' hst)
      | (with_reducible refine wpList_box rfl _ _ rfl (by assumption) _ rfl ?_; intro bb w' hst)
      | (with_reducible refine wpList_new rfl _ rfl (by assumption) _ zero_ent ?_; intro bn w' hst)
      | (with_reducible refine wpList_new rfl _ rfl (by assumption) _ zero_run ?_; intro br w' hst))
      refine (may_calls E HE.out _).mono ?_
      rintro r w3 ⟨rfl, hb3⟩
      have hs3 : St [] w2 w3 [(bn, entC E, 27)] := hst.below hb3
      clear hb3 hst
      cases hc : checkB E
      · have HNO' := Lib.hid (HNO.out hc)
        have h3 := belw h2 hs3.end
        clear hc HNO HYES
        go_wp2_with (first
      | (with_reducible refine wpList_neqE rfl _ _ _ rfl _ _ rfl rfl ?_)
      | (with_reducible refine wpList_eqlE rfl _ _ _ rfl _ _ rfl rfl ?_)
      | (with_reducible refine wpList_ld rfl _ _ rfl _ _ rfl (by assumption) ?_)
      | (with_reducible refine wpList_lda rfl _ _ rfl _ _ rfl (by assumption) ?_)
      | (with_reducible refine wpList_stI rfl _ _ _ rfl _ _ rfl _ _ rfl (by assumption) ?_; intro w' hst)
      | (with_reducible refine wpList_stS rfl _ _ _ rfl _ _ rfl _ rfl (by assumption) ?_; intro w' hst)
      | (with_reducible refine wpList_stB rfl _ _ _ rfl _ _ rfl _ rfl (by assumption) ?_; intro w' hst)
      | (with_reducible refine wpList_stA rfl _ _ _ rfl _ _ rfl _ rfl (by assumption) ?_; intro w' hst)
      | (with_reducible refine wpList_box rfl _ _ rfl (by assumption) _ rfl ?_; intro bb w' hst)
      | (with_reducible refine wpList_new rfl _ rfl (by assumption) _ zero_ent ?_; intro bn w' hst)
      | (with_reducible refine wpList_new rfl _ rfl (by assumption) _ zero_run ?_; intro br w' hst))
        go_ret2
        exact ⟨by unfold DecPost; rw [HNO'.out]; rfl, h3⟩
      · have HYES' := Lib.hid (HYES.out hc)
        have C1 := Lib.hid (one_calls E HE.out hc)
        have hown3 := ownsRow_below hown2 hs3.end
        have h3 := belw h2 hs3.end
        have hz3 : w.heap.size ≤ w3.heap.size := h3.size
        have hl9 : l.length ≤ 65535 := by have := hlen.out; omega
        have hbn : w2.heap.size ≤ bn := by
          rcases hs3.own _ (List.mem_cons_self) with h | h
          · exact h
          · simp at h
        have HGB := Lib.hid (own_here hown2)
        have HBN := Lib.hid hbn
        clear hc HNO HYES hown2 h2 hbn
        go_wp2_with (first
          | (with_reducible refine wpList_lda rfl _ _ rfl _ _ rfl (by assumption) ?_)
          | (refine wpList_one' rfl (.tmp 25) rfl E HE.out rfl ?_
             intro v5 w5 hb5 hr5
             have hown5 := ownsRow_below hown3 hb5
             have h5 := belw h3 hb5
             have hs5 := hs3.below hb5
             have hz5 : w.heap.size ≤ w5.heap.size := h5.size
             clear hown3 h3 hb5 hz3 hs3)
          | (refine wpList_appE rfl (.tmp 24) (.tmp 26) rfl w.heap.size _ _ l [E] rfl rfl hown5 hr5 (by rw [List.length_singleton]; omega) hz5 ?_
             intro v6 w6 hown6 hg6
             have h6 := h5.grown hg6 h5.size (fun g hg => own_ge hown5 g hg)
             have hblk : w6.heap[bn]? = some (.cells (entC E) 27 (0, 0)) := (hg6.block bn (hs5.lt _ (List.mem_cons_self)) (fun e => by have := HGB.out bn e.symm; have := HBN.out; omega)).trans (hs5.has (g := bn))
             have hs6 := St.one hblk
             clear hown5 hg6 h5 hz5 hr5 hs5 hblk HGB))
        refine (C1.out _).mono ?_
        rintro r w7 ⟨rfl, hb7⟩
        have hown7 := ownsRow_below hown6 hb7
        have h7 := belw h6 hb7
        clear hown6 h6 hb7 hs6
        have hz9 : (mkS (entBytes E)).size = (entBytes E).length := size_mkS _
        go_wp2_with fail
        go_roundw
        case rel => exact ⟨k + 1, p + (entBytes E).length, l ++ [E], by omega, by go_num, by go_num, by show (l ++ [E]).length = k + 1; rw [List.length_append, hlen.out]; rfl, by omega, hown7, h7, by
            show ∀ e ∈ l ++ [E], e.Wf
            intro e he
            rcases List.mem_append.1 he with h | h
            · exact hwf.out e h
            · rw [List.mem_singleton.1 h]; exact HE.out, by rw [HN.out]; exact HYES'.out⟩
        case measure => simp [intOf]; omega
    · obtain hkM : M.toNat - k = 0 := by omega
      rw [hkM] at hdec
      have HDL : Hid (decF s = if M < 0 then none else if encF l = (ls s, 0) then some l else none) := Lib.hid (by
        rw [HD.out, hdec.out]
        simp [refL])
      have hl9 : l.length ≤ 65535 := by have := hlen.out; omega
      have hrow := Lib.hid (entRow_owns hown hwf.out (by unfold maxLen; omega))
      clear hdec hkM HD
      go_wp2_with fail
      refine (ref_encode_calls _ l _ hrow.out (by omega)).mono ?_
      rintro r w2 ⟨rfl, hb2⟩
      have hown2 := ownsRow_below hown hb2
      have h2 := belw hbel hb2
      clear hown hbel hb2 hrow
      generalize encF l = q at HDL ⊢
      obtain ⟨t, e⟩ := q
      dsimp only at HDL ⊢
      by_cases hM0 : M < 0
      · have HR : Hid (decF s = none) := Lib.hid (by rw [HDL.out, if_pos hM0])
        have f1 : decide (M < 0) = true := by simpa using hM0
        clear HDL
        go_wp2_with fail
        go_ret2
        exact ⟨by unfold DecPost; rw [HR.out]; rfl, h2⟩
      · rw [if_neg hM0] at HDL
        have f1 : decide (M < 0) = false := by simpa using hM0
        by_cases he : e = 0
        · subst he
          by_cases ht : t = ls s
          · have HR : Hid (decF s = some l) := Lib.hid (by rw [HDL.out, ht]; simp)
            have g1 : (mkS t).toList = s.toList := by rw [ht, mkS_ls]
            have g2 : ((mkS t).toList != s.toList) = false := by rw [g1]; simp
            have g3 : ((mkS t).toList == s.toList) = true := by rw [g1]; simp
            clear HDL ht hM0
            go_wp2_with fail
            go_ret2
            exact ⟨by unfold DecPost; rw [HR.out]; exact ⟨_, rfl, hown2, hwf.out⟩, h2⟩
          · have HR : Hid (decF s = none) := Lib.hid (by rw [HDL.out, if_neg (by intro h; exact ht (Prod.mk.inj h).1)])
            have g1 : ¬ (mkS t).toList = s.toList := by rw [toList_ls, toList_ls, ls_mkS]; exact ht
            have g2 : ((mkS t).toList != s.toList) = true := by simpa using g1
            have g3 : ((mkS t).toList == s.toList) = false := by simpa using g1
            clear HDL ht hM0
            go_wp2_with fail
            go_ret2
            exact ⟨by unfold DecPost; rw [HR.out]; rfl, h2⟩
        · have HR : Hid (decF s = none) := Lib.hid (by rw [HDL.out, if_neg (by intro h; exact he (Prod.mk.inj h).2)])
          have f2 : (e == 0) = false := by simpa using he
          have f3 : (e != 0) = true := by simpa using he
          clear HDL he hM0
          go_wp2_with fail
          go_ret2
          exact ⟨by unfold DecPost; rw [HR.out]; rfl, h2⟩
end Go.Proofs.Ytgjgjhikimnknaa
