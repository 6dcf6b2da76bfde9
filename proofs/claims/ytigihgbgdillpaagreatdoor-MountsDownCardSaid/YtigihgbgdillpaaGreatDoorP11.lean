/- The contract of entries.Decode: the walk · A range over a function whose iterator keeps a state of its own in a cell: the law of the loop, and the contract of frames.sectors and its closure. -/
import Derived.RangeFuncNested
import Derived.RangeFuncBound
import Derived.RangeFuncCalls
import Derived.RangeFuncLeaves
import Derived.Shelf.Abstract
import Derived.Shelf.RegionOpen
import Derived.WalkKit
import Derived.OwnWalkIn
import Derived.TacticsInMore
import Derived.LoopNIn
import Derived.LoopIn
import Derived.Test.YtigihgbgdillpaaGreatDoorP10
set_option linter.unusedVariables false
set_option linter.unusedSimpArgs false
set_option maxRecDepth 100000
namespace Go.Proofs.YtigihgbgdillpaaGreatDoor
open Go.RowKit

theorem ownsRow_mono {w : World} {base base' size n : Nat} {e : TypeId} {v : Value} {xs : List Value} (h : w.ownsRow base e size v n xs) (hb : base' ≤ base) : w.ownsRow base' e size v n xs := by
  obtain ⟨h1, h2⟩ := h
  refine ⟨h1, ?_⟩
  rcases h2 with h2 | ⟨g, cap, cur, hv, hg, r⟩
  · exact Or.inl h2
  · exact Or.inr ⟨g, cap, cur, hv, by omega, r⟩
theorem St.perm {S : List Nat} {w0 w : World} {L L' : List Blk} (h : St S w0 w L) (hp : L.Perm L') : St S w0 w L' :=
  ⟨h.os, h.tape, h.output, h.size, h.kept, fun p hm => h.own p (hp.mem_iff.2 hm), (hp.map _).nodup_iff.1 h.nodup, fun p hm => h.blk p (hp.mem_iff.2 hm)⟩
theorem St.under {S : List Nat} {w w1 w2 : World} {L : List Blk} (h : Below w.heap.size w w1) (k : St S w1 w2 L) (hS : ∀ x ∈ S, w.heap.size ≤ x) : Below w.heap.size w w2 :=
  ⟨k.os.trans h.os, k.tape.trans h.tape, k.output.trans h.output, Nat.le_trans h.size k.size, fun i hi => (k.kept i (Nat.lt_of_lt_of_le hi h.size) (fun hm => by have := hS i hm; omega)).trans (h.block i hi)⟩
theorem St.one {w : World} {g : Nat} {C : Array Value} {T : TypeId} (h : w.heap[g]? = some (.cells C T (0, 0))) : St [g] w w [(g, C, T)] :=
  ⟨rfl, rfl, rfl, Nat.le_refl _, fun _ _ _ => rfl, fun p hp => by simp at hp; subst hp; exact Or.inr (by simp), by simp, fun p hp => by simp at hp; subst hp; exact h⟩
theorem own_ge {w : World} {base size n : Nat} {e : TypeId} {v : Value} {xs : List Value} (h : w.ownsRow base e size v n xs) : ∀ g, v.ownBlock = some g → base ≤ g := by
  intro g hg
  rcases h.2 with ⟨rfl, _⟩ | ⟨g', cap, cur, rfl, hb, _⟩
  · simp [Value.ownBlock] at hg
  · simp [Value.ownBlock] at hg; omega
theorem perm3 {α : Type} (a b c : α) : [a, b, c].Perm [c, b, a] := (List.reverse_perm [a, b, c]).symm
theorem foldR_succ {s : ByteArray} {l : List Int} {x : Rd} {k : Nat} (h : k < l.length) : (l.take (k + 1)).foldl (fieldR s) x = fieldR s ((l.take k).foldl (fieldR s) x) l[k] := by
  rw [List.take_succ_eq_append_getElem h, List.foldl_append]; rfl
theorem dec_none {s : ByteArray} {M n : Nat} {a : Int} {bad : Bool} {l : List Ent} (hM : decN s = M) (h : decL s M (numA s 0 2) (!numOk s 0 2) = (decL s (n + 1) a bad).map fun r => (l ++ r.1, r.2)) (hs : ((entR s a bad).bad || !checkB (entR s a bad).e) = true) : decF s = none := by
  unfold decF
  rw [hM, h, decL_stop s n a bad hs]
  rfl
theorem ownsRow_none (w : World) (base : Nat) (e : TypeId) (size : Nat) : w.ownsRow base e size (.slice none 0 0) 0 [] := ⟨by simp, Or.inl ⟨rfl, rfl⟩⟩
theorem entsL_length (l : List Ent) : (l.flatMap entL).length = l.length * 39 := by
  induction l with
  | nil => rfl
  | cons e l ih => rw [List.flatMap_cons, List.length_append, ih, show (entL e).length = 39 from rfl, List.length_cons]; omega
/-- What Decode leaves. -/
def DecPost (s : ByteArray) (w : World) (r : Ending) (w' : World) : Prop :=
  match decF s with
  | none => r = .returned (.tuple #[.slice none 0 0, .int .i64 10])
  | some l => ∃ v, r = .returned (.tuple #[v, .int .i64 0]) ∧ w'.ownsRow w.heap.size 87 39 v l.length (l.flatMap entL) ∧ (∀ e ∈ l, e.Wf)

set_option maxHeartbeats 4000000 in
set_option maxRecDepth 100000 in
theorem decode_calls (s : ByteArray) (hs : s.size ≤ 140737488351232) (w : World) :
    Calls Tryz.prog 47 #[.string s] w fun r w' => DecPost s w r w' ∧ Below w.heap.size w w' := by
  have hs' : s.size ≤ maxLen := by unfold maxLen; omega
  have hst := St.start w
  have hN := numN_range s 0 2
  go_enter Tryz.func47, Tryz.ntmps47
  go_wp2_with (with_reducible refine wpList_box rfl _ _ rfl (by assumption) _ rfl ?_; intro bb w' hst)
  have hst0 : St [] w w' [(bb, readC s 0 false, 175)] := hst
  clear hst
  refine (number_calls bb s 0 2 false hs' _ hst0.has).mono ?_
  rintro r w1 ⟨rfl, k1⟩
  have h1 := hst0.upd k1
  clear k1 hst0
  rw [Bool.false_or] at h1
  go_wp2_with fail
  obtain ⟨M, hM⟩ : ∃ M : Nat, min (numN s 0 2) 201 = (M : Int) := ⟨(min (numN s 0 2) 201).toNat, by omega⟩
  have hM2 : M ≤ 201 := by omega
  have HD : Hid (decN s = M) := Lib.hid (by unfold decN; rw [hM]; rfl)
  rw [hM]
  have HM := Lib.hid hM
  clear hM
  have hbb : bb < w1.heap.size := h1.lt _ (List.mem_cons_self)
  have hw1 := h1.end.size
  have hbw : w.heap.size ≤ bb := by
    rcases h1.own _ (List.mem_cons_self) with h | h
    · exact h
    · simp at h
  go_loopw [6, 17] (fun ov iv wr => ∃ (k : Nat) (l : List Ent) (a : Int) (bad : Bool), k ≤ M ∧ iv = .int .i64 k ∧ l.length = k ∧ wr.ownsRow w1.heap.size 87 39 ov k (l.flatMap entL) ∧ Below w.heap.size w wr ∧ w1.heap.size ≤ wr.heap.size ∧ St [bb] wr wr [(bb, readC s a bad, 175)] ∧ (∀ e ∈ l, e.Wf) ∧
    Hid (decL s M (numA s 0 2) (!numOk s 0 2) = (decL s (M - k) a bad).map fun r => (l ++ r.1, r.2))) (fun _ i _ => M - (intOf i).toNat)
  case atStart => exact ⟨0, [], numA s 0 2, !numOk s 0 2, by omega, rfl, rfl, ownsRow_none _ _ _ _, h1.end, Nat.le_refl _, h1.rebase, by simp, by show _ = _; simp⟩
  case round =>
    obtain ⟨k, l, a, bad, hk, rfl, hlen, hown, hbel, hsz, hsr, hwf, hdec⟩ := hrel
    have HWF := Lib.hid hwf
    have HLEN := Lib.hid hlen
    clear h1 hwf hlen
    by_cases hlt : k < M
    · go_wp2_with fail
      refine (number_calls bb s a 1 bad hs' _ hsr.has).mono ?_
      rintro r w2 ⟨rfl, k2⟩
      have h2 := hsr.upd k2
      clear k2
      go_wp2_with (first|(with_reducible refine wpList_ld rfl _ _ rfl _ _ rfl (by assumption) ?_)|(with_reducible refine wpList_stA rfl _ _ _ rfl _ _ rfl _ rfl (by assumption) ?_; intro w' hst)|(with_reducible refine wpList_new rfl _ rfl (by assumption) _ zero_ent ?_; intro bn w' hst))
      refine (fields_calls (numN s a 1) _).mono ?_
      rintro r w7 ⟨⟨v, rfl, hf⟩, hb⟩
      have HER : Hid (entR s a bad = (fieldsL (numN s a 1)).foldl (fieldR s) ⟨numA s a 1, bad || !numOk s a 1, entK (numN s a 1)⟩) := Lib.hid rfl
      have HW := Lib.hid (entR_wf s hs a bad)
      have HKD : Hid (fieldsL (numN s a 1) = [] → checkB (entR s a bad).e = false) := Lib.hid (fun h => by
        have : (entR s a bad).e = entK (numN s a 1) := by unfold entR; rw [h]; rfl
        rw [this]
        unfold checkB
        rw [show (entK (numN s a 1)).kind = numN s a 1 from rfl, h]
        rfl)
      have HFR := Lib.hid (fieldsL_range (numN s a 1))
      have hl3 := fieldsL_len (numN s a 1)
      obtain ⟨n, hn⟩ : ∃ n, M - k = n + 1 := ⟨M - k - 1, by omega⟩
      rw [hn] at hdec
      have HNO : Hid (((entR s a bad).bad || !checkB (entR s a bad).e) = true → decF s = none) := Lib.hid (fun h => dec_none HD.out hdec.out h)
      have HYES : Hid (((entR s a bad).bad || !checkB (entR s a bad).e) = false → decL s M (numA s 0 2) (!numOk s 0 2) = (decL s n (entR s a bad).a (entR s a bad).bad).map fun r => ((l ++ [(entR s a bad).e]) ++ r.1, r.2)) := Lib.hid (fun h => by
        rw [hdec.out, decL_step s n a bad h]
        cases decL s n (entR s a bad).a (entR s a bad).bad <;> simp)
      have HN : Hid (M - (k + 1) = n) := Lib.hid (by omega)
      clear hdec hn
      generalize entR s a bad = X at *
      generalize fieldsL (numN s a 1) = fl at *
      rcases hf with ⟨hl0, rfl⟩ | ⟨hl0, bF, rfl, hszF, hblk⟩
      · have hX : X = ⟨numA s a 1, bad || !numOk s a 1, entK (numN s a 1)⟩ := by rw [HER.out, hl0]; rfl
        have hck : checkB X.e = false := HKD.out hl0
        have h7 : St [bb] wr w7 [(bn, entC X.e, 87), (bb, readC s X.a X.bad, 175)] := by rw [hX]; exact hst.below hb
        have HNO' : Hid (decF s = none) := Lib.hid (HNO.out (by rw [hck]; simp))
        have hbel7 := St.under hbel h7 (by intro x hx; simp at hx; omega)
        have HCK := Lib.hid hck
        clear hck hX HNO HYES HKD HER hl0 hst h2 hsr hb hown hbel
        go_wp2_with fail
        go_loopw [26] (fun jv wq => jv = .int .i64 0 ∧ wq = w7) (fun _ _ => 0)
        case atStart => exact ⟨rfl, rfl⟩
        case round =>
          obtain ⟨rfl, rfl⟩ := hrel
          cases hbad : X.bad
          · go_wp2_with (first|(with_reducible refine wpList_ld rfl _ _ rfl _ _ rfl (by assumption) ?_)|(with_reducible refine wpList_lda rfl _ _ rfl _ _ rfl (by assumption) ?_))
            refine (check_calls X.e HW.out _).mono ?_
            rintro r w9 ⟨rfl, hb9⟩
            have hbel9 := belw hbel7 hb9
            rw [HCK.out]
            clear hbad
            unfold errOf
            go_wp2_with fail
            go_ret2
            exact ⟨by unfold DecPost; rw [HNO'.out]; rfl, hbel9⟩
          · go_wp2_with (with_reducible refine wpList_ld rfl _ _ rfl _ _ rfl (by assumption) ?_)
            go_ret2
            exact ⟨by unfold DecPost; rw [HNO'.out]; rfl, hbel7⟩
      · have h7 := (hst.belowNew hb hszF hblk).perm (perm3 _ _ _)
        clear hblk hb hszF hst h2 hsr HKD
        obtain ⟨x0, hx0⟩ : ∃ x0 : Rd, x0 = ⟨numA s a 1, bad || !numOk s a 1, entK (numN s a 1)⟩ := ⟨_, rfl⟩
        rw [← hx0] at HER
        have h7 : St [bb] wr w7 [(bb, readC s x0.a x0.bad, 175), (bn, entC x0.e, 87), (bF, (fl.map (Value.int .i64)).toArray, 145)] := by rw [hx0]; exact h7
        clear hx0
        go_wp2_with fail
        go_loopw [26] (fun jv wq => ∃ j : Nat, j ≤ fl.length ∧ jv = .int .i64 j ∧ St [bb] wr wq [(bb, readC s ((fl.take j).foldl (fieldR s) x0).a ((fl.take j).foldl (fieldR s) x0).bad, 175), (bn, entC ((fl.take j).foldl (fieldR s) x0).e, 87), (bF, (fl.map (Value.int .i64)).toArray, 145)]) (fun i _ => fl.length - (intOf i).toNat)
        case atStart => exact ⟨0, by omega, rfl, h7⟩
        case round =>
          obtain ⟨j, hj, rfl, hsq⟩ := hrel
          clear h7
          by_cases hjl : j < fl.length
          · have hcell := cell_field fl j hjl
            have hf4 := HFR.out fl[j] (List.getElem_mem hjl)
            have HTJ := Lib.hid (foldR_succ (s := s) (x := x0) hjl)
            generalize (fl.take j).foldl (fieldR s) x0 = x at *
            generalize fl[j] = f at *
            go_wp2_with (with_reducible refine wpList_ld rfl _ _ rfl _ _ rfl (by assumption) ?_)
            refine (readfield_calls bb bn s x f hf4 hs' _ hsq.has hsq.has).mono ?_
            rintro r w8 ⟨rfl, k8⟩
            have h8 := hsq.upd2 k8
            clear k8 hsq
            go_wp2_with fail
            go_roundw
            case rel => exact ⟨j + 1, by omega, by go_num, by rw [HTJ.out]; exact h8⟩
            case measure => simp [intOf]; omega
          · obtain rfl : j = fl.length := by omega
            rw [List.take_length, ← HER.out] at hsq
            have hown2 := ownsRow_St hown hsq (by intro x hx; simp at hx; omega)
            have hbel2 := St.under hbel hsq (by intro x hx; simp at hx; omega)
            have hsz2 : w1.heap.size ≤ wr.heap.size := Nat.le_trans hsz hsq.size
            have hsr := hsq.rebase
            clear hown hbel hsz hsq
            cases hbad : X.bad
            · go_wp2_with (first|(with_reducible refine wpList_ld rfl _ _ rfl _ _ rfl (by assumption) ?_)|(with_reducible refine wpList_lda rfl _ _ rfl _ _ rfl (by assumption) ?_))
              refine (check_calls X.e HW.out _).mono ?_
              rintro r w9 ⟨rfl, hb9⟩
              have hown9 := ownsRow_below hown2 hb9
              have hbel9 := belw hbel2 hb9
              have hs9 := hsr.below hb9
              have hsz9 : w1.heap.size ≤ w9.heap.size := Nat.le_trans hsz2 hb9.size
              clear hown2 hbel2 hsr hb9 hsz2
              cases hc : checkB X.e
              · have HNO' : Hid (decF s = none) := Lib.hid (HNO.out (by rw [hbad, hc]; rfl))
                clear HNO HYES hbad hc
                unfold errOf
                go_wp2_with fail
                go_ret2
                exact ⟨by unfold DecPost; rw [HNO'.out]; rfl, hbel9⟩
              · have HYES' := Lib.hid (HYES.out (by rw [hbad, hc]; rfl))
                clear HNO HYES hbad hc
                unfold errOf
                go_wp2_with (first | (with_reducible refine wpList_lda rfl _ _ rfl _ _ rfl (by assumption) ?_) | (refine wpList_bs1 rfl _ rfl (by assumption) X.e rfl ?_))
                intro bS w10 hb10 hs10
                have hown10 := ownsRow_below hown9 hb10
                clear hown9
                obtain ⟨i0, hi0, hz0, hz1, hz2⟩ := info_parts infoEnt
                refine wpList_append_own _ rfl _ _ 49 rfl w1.heap.size 87 i0 (.agg (entC ent0)) 39 96 Tryz.underlying49 hi0 hz0 hz1 hz2 rfl (by omega) _ _ _ rfl hown10 ⟨bS, 0, none⟩ 1 1 (entL X.e) rfl rfl ?c2 (entL_one _) ?c3 ?c4 ?c5 ?_
                case c2 =>
                  intro j u hj
                  rw [addr_add, Nat.zero_add, cell_of_row _ _ _ _ _ _ (hs10.has (g := bS))]
                  simpa [entC] using hj
                case c3 => unfold maxLen; omega
                case c4 => omega
                case c5 => have := hb10.size; omega
                clear hi0 hz0 hz1 hz2
                intro v' w11 hown11 hg11 hnil11
                clear hnil11
                have hrd11 : w11.heap[bb]? = some (.cells (readC s X.a X.bad) 175 (0, 0)) := (hg11.block bb (by have := hb10.size; omega) (fun e => by have := own_ge hown10 bb e.symm; omega)).trans (hs10.has (g := bb))
                have hb11 : Below w.heap.size w w11 := (belw hbel9 hb10).grown hg11 (by have := hb10.size; omega) (fun g hg => by have := own_ge hown10 g hg; omega)
                have hz11 : w1.heap.size ≤ w11.heap.size := by have := hg11.size; have := hb10.size; omega
                clear hg11 hown10 hs10 hb10 hbel9 hs9
                go_wp2_with fail
                go_roundw
                case rel => exact ⟨k + 1, l ++ [X.e], X.a, X.bad, by omega, by go_num, by simp [HLEN.out], by simpa [List.flatMap_append] using hown11, hb11, hz11, St.one hrd11, fun e he => by
                  rcases List.mem_append.1 he with h | h
                  · exact HWF.out e h
                  · rw [List.mem_singleton.1 h]; exact HW.out, by rw [HN.out]; exact HYES'⟩
                case measure => simp [intOf]; omega
            · have HNO' : Hid (decF s = none) := Lib.hid (HNO.out (by rw [hbad]; rfl))
              clear HNO HYES
              go_wp2_with (with_reducible refine wpList_ld rfl _ _ rfl _ _ rfl (by assumption) ?_)
              go_ret2
              exact ⟨by unfold DecPost; rw [HNO'.out]; rfl, hbel2⟩
    · obtain rfl : k = M := by omega
      rw [Nat.sub_self] at hdec
      have HF : Hid (decF s = if bad || (decide (200 < numN s 0 2) || decide (a < (s.size : Int))) then none else some l) := Lib.hid (by
        unfold decF
        rw [HD.out, hdec.out]
        simp [decL])
      have hownF := ownsRow_mono hown hw1
      clear hdec hown
      cases bad
      · cases h200 : decide (200 < numN s 0 2)
        · cases hat : decide (a < (s.size : Int))
          · have HF' : Hid (decF s = some l) := Lib.hid (by rw [HF.out, h200, hat]; rfl)
            clear HF
            go_wp2_with (with_reducible refine wpList_ld rfl _ _ rfl _ _ rfl (by assumption) ?_)
            go_ret2
            exact ⟨by unfold DecPost; rw [HF'.out]; exact ⟨_, rfl, by rw [HLEN.out]; exact hownF, HWF.out⟩, hbel⟩
          · have HF' : Hid (decF s = none) := Lib.hid (by rw [HF.out, h200, hat]; rfl)
            clear HF
            go_wp2_with (with_reducible refine wpList_ld rfl _ _ rfl _ _ rfl (by assumption) ?_)
            go_ret2
            exact ⟨by unfold DecPost; rw [HF'.out]; rfl, hbel⟩
        · have HF' : Hid (decF s = none) := Lib.hid (by rw [HF.out, h200]; rfl)
          clear HF
          go_wp2_with (with_reducible refine wpList_ld rfl _ _ rfl _ _ rfl (by assumption) ?_)
          go_ret2
          exact ⟨by unfold DecPost; rw [HF'.out]; rfl, hbel⟩
      · have HF' : Hid (decF s = none) := Lib.hid (by rw [HF.out]; rfl)
        clear HF
        go_wp2_with (with_reducible refine wpList_ld rfl _ _ rfl _ _ rfl (by assumption) ?_)
        go_ret2
        exact ⟨by unfold DecPost; rw [HF'.out]; rfl, hbel⟩
end Go.Proofs.YtigihgbgdillpaaGreatDoor
namespace Go.Proofs.YtigihgbgdillpaaGreatDoor
open Go.RowKit Go.Shelf

/-- Below base all is as it was, and every row of cells is. -/
structure Aside (base : Nat) (w w' : World) : Prop where
  below : Below base w w'
  cells : ∀ (k : Nat) (c : Array Value) (t : TypeId) (z : Nat × Nat), w.heap[k]? = some (Obj.cells c t z) → w'.heap[k]? = some (Obj.cells c t z)
theorem Aside.trans {n : Nat} {a b c : World} (h : Aside n a b) (k : Aside n b c) : Aside n a c := ⟨h.below.trans k.below, fun i x t z hi => k.cells i x t z (h.cells i x t z hi)⟩
theorem Aside.alloc {n : Nat} (w : World) (hn : n ≤ w.heap.size) (o : Obj) : Aside n w (w.alloc o) :=
  ⟨(Below.refl n w).alloc hn o, fun k c t z h => (Below.heap_alloc _ _ _ (lt_of_heap' h)).trans h⟩
theorem Aside.putObj {n : Nat} (w : World) (r : Nat) (o o' : Obj) (hr : n ≤ r) (h : w.heap[r]? = some o) (hc : o.isCells = false) : Aside n w (w.putObj r o') :=
  ⟨(Below.refl n w).grown (grownBy_putObj' w r o') (by have := lt_of_heap' h; omega) (fun k e => by cases e; exact hr), fun k c t z hk => by
    rw [World.putObj_heap_other]
    · exact hk
    · rintro rfl
      rw [h] at hk
      cases hk
      simp [Obj.isCells] at hc⟩
theorem St.aside {S : List Nat} {w0 w w' : World} {L : List Blk} {n : Nat} (h : St S w0 w L) (ha : Aside n w w') (hn : w0.heap.size ≤ n) : St S w0 w' L :=
  ⟨ha.below.os.trans h.os, ha.below.tape.trans h.tape, ha.below.output.trans h.output, Nat.le_trans h.size (by
    have := ha.below.size
    exact this), fun k hk hs => (ha.below.block k (by omega)).trans (h.kept k hk hs), h.own, h.nodup, fun p hp => ha.cells _ _ _ _ (h.blk p hp)⟩

/-- What an iterator owes that keeps its state in block sb, and reads block gb: N rounds, of the values encs 0, encs 1, .. -/
def SeqC (n : Nat) (gf : Nat) (lb : Array Value) (encs : Nat → Array Value) (N sb : Nat) (cell : Nat → Array Value) (T : TypeId) (gb : Nat) (c2 : Array Value) (T2 : TypeId) : Prop :=
  ∀ (l : Nat) (J Jx : Nat → World → Prop) (W : World),
    (∀ k W, J k W → W.heap[sb]? = some (.cells (cell k) T (0, 0)) ∧ W.heap[gb]? = some (.cells c2 T2 (0, 0))) →
    (∀ k W, k < N → J k W → YieldAt Fence.wide (n - 1) Tryz.prog l (encs k) W fun e W' =>
      (e = .returned (.bool true) ∧ (W'.heap[sb]? = some (.cells (cell k) T (0, 0)) ∧ W'.heap[gb]? = some (.cells c2 T2 (0, 0))) ∧ J (k + 1) (W'.setRow sb (cell (k + 1)))) ∨
      (e = .returned (.bool false) ∧ Jx (k + 1) W')) →
    J 0 W → CallsIn Fence.wide n Tryz.prog gf (#[.func (.yield l) #[] #[]] ++ lb) W fun e W' => (∃ v, e = .returned v) ∧ (J N W' ∨ ∃ k, k ≤ N ∧ Jx k W')

/-- How a body may be left: it goes on, or the function returns. -/
def postC (I Ix : Nat → World → Prop) (k : Nat) (W : World) : Exit → Act → World → Prop
  | .normal, _, W' => KeepsOthers W W' ∧ I k W'
  | .ret, _, W' => KeepsOthers W W' ∧ Ix k W'
  | .exit _, _, _ => False
  | .goto _, _, _ => False
  | .panic _, _, _ => False
  | .outgrown, _, _ => False

theorem wp_range {n : Nat} {g : Operand} {ps : Array Tmp} {assign body : Code} {Q : Exit → Act → World → Prop} {a : Act} {w : World}
    (h1 : 1 ≤ n) {gf : Nat} {lb : Array Value} (hg : a.eval g = .func (.func gf) #[] lb) (eg : ∀ args w, (callFunc gf args).run Tryz.prog w = .ok (.enter gf args) w)
    {encs : Nat → Array Value} {N sb : Nat} {cell : Nat → Array Value} {T : TypeId} {gb : Nat} {c2 : Array Value} {T2 : TypeId} (hseq : SeqC (n - 1) gf lb encs N sb cell T gb c2 T2) (hps : ∀ k, (encs k).size = ps.size)
    (I I' Ix : Nat → World → Prop) (hI : ∀ k W W', I k W → Aside w.heap.size W W' → I k W') (hIx : ∀ k W W', Ix k W → Aside w.heap.size W W' → Ix k W') (hI' : ∀ k W W', I' k W → Aside w.heap.size W W' → I' k W')
    (hc : ∀ k W, I k W → W.heap[sb]? = some (.cells (cell k) T (0, 0)) ∧ W.heap[gb]? = some (.cells c2 T2 (0, 0)))
    (hc' : ∀ k W, k < N → I' (k + 1) W → (W.heap[sb]? = some (.cells (cell k) T (0, 0)) ∧ W.heap[gb]? = some (.cells c2 T2 (0, 0))) ∧ I (k + 1) (W.setRow sb (cell (k + 1))))
    (h0 : I 0 w) (a₁ : Nat → Act)
    (hassign : ∀ (l : Nat) (k : Nat) (W : World) (K : Act → World → Prop), K (a₁ k) W →
      assign.wpIn (Fence.wide.inRound l) (n - 1 - 1) Tryz.prog (Exit.then K (fun _ _ _ => False)) { tmps := (ps.zip (encs k)).foldl (fun t (p, v) => t.setIfInBounds p v) a.tmps, defers := [] } W)
    (hbody : ∀ (l : Nat) (k : Nat) (W : World), k < N → I k W → body.wpIn (Fence.wide.inRound l) (n - 1 - 1) Tryz.prog (postC I' Ix (k + 1) W) (a₁ k) W)
    (hdone : ∀ (D : Nat) (W : World), I N W → W.heap[D]? = some (.deferred (some [])) → w.heap.size ≤ D → Q .normal { a with defers := { target := .collected D, args := #[] } :: a.defers } W)
    (hstop : ∀ (D : Nat) (k : Nat) (W : World), k ≤ N → Ix k W → W.heap[D]? = some (.deferred (some [])) → w.heap.size ≤ D → Code.ret.wpIn Fence.wide n Tryz.prog Q { a with defers := { target := .collected D, args := #[] } :: a.defers } W) :
    (Code.rangeFunc g ps assign body).wpIn Fence.wide n Tryz.prog Q a w := by
  refine wpIn_rangeFunc ?_
  intro fn hfn
  rw [Fence.wide_round]
  obtain ⟨rec, hrec⟩ : ∃ rec : LoopState → Option Code → Loop, rec = fun st pe => { state := st, pending := pe, fn, tmps := a.tmps, params := ps, assign, body, defers := w.heap.size } := ⟨_, rfl⟩
  obtain ⟨W1, hW1⟩ : ∃ W1, (w.alloc (.deferred (some []))).alloc (.loop (rec .ready none)) = W1 := ⟨_, rfl⟩
  have hL1 : W1.heap[w.heap.size + 1]? = some (.loop (rec .ready none)) := by
    rw [← hW1]
    have := World.alloc_heap_new (w.alloc (.deferred (some []))) (.loop (rec .ready none))
    rwa [World.size_alloc] at this
  have hD1 : W1.heap[w.heap.size]? = some (.deferred (some [])) := by
    rw [← hW1]
    exact (Below.heap_alloc _ _ _ (by simp)).trans (World.alloc_heap_new w _)
  have hI1 : I 0 W1 := by
    rw [← hW1]
    exact hI _ _ _ h0 ((Aside.alloc w (Nat.le_refl _) _).trans (Aside.alloc _ (by simp) _))
  have noc : ∀ (W : World) (k : Nat) (c : Array Value) (t : TypeId), W.heap[k]? = some (.cells c t (0, 0)) → ∀ (r : Nat) (o : Obj), W.heap[r]? = some o → o.isCells = false → r ≠ k := by
    rintro W k c t hk r o hr ho rfl
    rw [hr] at hk
    cases hk
    simp [Obj.isCells] at ho
  refine ⟨w.heap.size + 1, [{ target := .collected w.heap.size, args := #[] }], W1, { target := .fn (.func gf) lb, args := #[.func (.yield (w.heap.size + 1)) #[] #[]] }, W1, gf,
    #[.func (.yield (w.heap.size + 1)) #[] #[]] ++ lb, W1, ?_, ?_, ?_, ?_, fun _ => h1, ?_⟩
  · rw [← hW1, hrec]; exact run_enterLoop_outer _ _ _ _ _
  · simp only [resolve, hg]
    simp [go_sem]
  · intro f' hf'; trivial
  · simp [invoke, go_sem, eg]
  · refine (hseq (w.heap.size + 1)
      (fun k W => I k W ∧ W.heap[w.heap.size + 1]? = some (.loop (rec .ready none)) ∧ W.heap[w.heap.size]? = some (.deferred (some [])))
      (fun k W => Ix k W ∧ W.heap[w.heap.size + 1]? = some (.loop (rec .done (some .ret))) ∧ W.heap[w.heap.size]? = some (.deferred (some [])))
      W1 (fun k W h => hc k W h.1) ?_ ⟨hI1, hL1, hD1⟩).mono ?_
    · rintro k W hlt ⟨hi, hl, hk⟩
      have hlw : w.heap.size + 1 < W.heap.size := lt_of_heap' hl
      have hy := run_yield (P := Tryz.prog) (args := encs k) hl (by rw [hrec]; exact hps k)
      rw [hrec] at hy
      refine ⟨fn, _, assign, body, hy, roundIn_of_wpIn hfn (hassign _ k W _ ⟨_, run_beginRound hl (by rw [hrec]), ?_⟩)⟩
      have hl2 : (W.putObj (w.heap.size + 1) (.loop { rec .ready none with state := .busy })).heap[w.heap.size + 1]? = some (.loop { rec .ready none with state := .busy }) := World.putObj_heap_same hlw
      have hk2 : (W.putObj (w.heap.size + 1) (.loop { rec .ready none with state := .busy })).heap[w.heap.size]? = some (.deferred (some [])) := (World.putObj_heap_other (by omega)).trans hk
      refine wpIn_mono (hbody _ k _ hlt (hI _ _ _ hi (Aside.putObj W _ _ _ (by omega) hl rfl))) ?_
      have fin : ∀ (jump : Option Code) (W3 : World), KeepsOthers (W.putObj (w.heap.size + 1) (.loop { rec .ready none with state := .busy })) W3 →
          (Instr.endRound (w.heap.size + 1) jump).run Tryz.prog W3 = .ok (.bool jump.isNone) (W3.putObj (w.heap.size + 1) (.loop (rec (if jump.isNone then .ready else .done) jump))) ∧
          Aside w.heap.size W3 (W3.putObj (w.heap.size + 1) (.loop (rec (if jump.isNone then .ready else .done) jump))) ∧
          (W3.putObj (w.heap.size + 1) (.loop (rec (if jump.isNone then .ready else .done) jump))).heap[w.heap.size + 1]? = some (.loop (rec (if jump.isNone then .ready else .done) jump)) ∧
          (W3.putObj (w.heap.size + 1) (.loop (rec (if jump.isNone then .ready else .done) jump))).heap[w.heap.size]? = some (.deferred (some [])) := fun jump W3 hk3 => by
        have hl3 := hk3.same _ _ hl2 rfl
        have := run_endRound (P := Tryz.prog) jump hl3
        rw [hrec] at this ⊢
        exact ⟨this, Aside.putObj W3 _ _ _ (by omega) hl3 rfl, World.putObj_heap_same (lt_of_heap' hl3), (World.putObj_heap_other (by omega)).trans (hk3.same _ _ hk2 rfl)⟩
      rintro e a3 W3 hp
      cases e with
      | normal =>
        obtain ⟨hk3, hi3⟩ := hp
        obtain ⟨hr, ha, hl4, hk4⟩ := fin none W3 hk3
        obtain ⟨hcc, hii⟩ := hc' k _ hlt (hI' _ _ _ hi3 ha)
        refine ⟨_, _, hr, .inl ⟨rfl, hcc, hii, ?_, ?_⟩⟩
        · rw [heap_setRow_other _ _ _ _ (noc _ _ _ _ hcc.1 _ _ hl4 rfl)]; exact hl4
        · rw [heap_setRow_other _ _ _ _ (noc _ _ _ _ hcc.1 _ _ hk4 rfl)]; exact hk4
      | ret =>
        obtain ⟨hk3, hi3⟩ := hp
        obtain ⟨hr, ha, hl4, hk4⟩ := fin (some .ret) W3 hk3
        exact ⟨_, _, hr, .inr ⟨rfl, hIx _ _ _ hi3 ha, hl4, hk4⟩⟩
      | exit id => exact hp.elim
      | goto t => exact hp.elim
      | panic ch => exact hp.elim
      | outgrown => exact hp.elim
    · rintro e W2 ⟨⟨v, rfl⟩, (⟨hi, hl, hk⟩ | ⟨k, hkN, hi, hl, hk⟩)⟩
      · have := run_endLoop (P := Tryz.prog) hl (by rw [hrec]; simp)
        rw [hrec] at this
        exact ⟨none, _, this, hdone _ _ (hI _ _ _ hi (Aside.putObj _ _ _ _ (by omega) hl rfl)) ((World.putObj_heap_other (by omega)).trans hk) (Nat.le_refl _)⟩
      · have := run_endLoop (P := Tryz.prog) hl (by rw [hrec]; simp)
        rw [hrec] at this
        exact ⟨some .ret, _, this, hstop _ k _ hkN (hIx _ _ _ hi (Aside.putObj _ _ _ _ (by omega) hl rfl)) ((World.putObj_heap_other (by omega)).trans hk) (Nat.le_refl _)⟩
end Go.Proofs.YtigihgbgdillpaaGreatDoor
