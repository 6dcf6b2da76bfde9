/- The contract of entries.Decode: the walk. -/
import Derived.Test.YtgjgjhikimnknaaDecode
set_option linter.unusedVariables false
set_option linter.unusedSimpArgs false
namespace Go.Proofs.Ytgjgjhikimnknaa
open Go.RowKit

theorem ownsRow_mono {w : World} {base base' size n : Nat} {e : TypeId} {v : Value} {xs : List Value} (h : w.ownsRow base e size v n xs) (hb : base' ≤ base) : w.ownsRow base' e size v n xs := by
  obtain ⟨h1, h2⟩ := h
  refine ⟨h1, ?_⟩
  rcases h2 with h2 | ⟨g, cap, cur, hv, hg, r⟩
  · exact Or.inl h2
  · exact Or.inr ⟨g, cap, cur, hv, by omega, r⟩
theorem St.perm {S : List Nat} {w0 w : World} {L L' : List Blk} (h : St S w0 w L) (hp : L.Perm L') : St S w0 w L' :=
  ⟨h.os, h.tape, h.output, h.size, h.kept, fun p hm => h.own p (hp.mem_iff.2 hm), (hp.map _).nodup_iff.1 h.nodup, fun p hm => h.blk p (hp.mem_iff.2 hm)⟩
theorem St.under {S : List Nat} {w w1 w2 : World} {L : List Blk} (h : Below w.heap.size w w1) (k : St S w1 w2 L) (hS : ∀ x ∈ S, w.heap.size ≤ x) : Below w.heap.size w w2 :=
  ⟨k.os.trans h.os, k.tape.trans h.tape, k.output.trans h.output, Nat.le_trans h.size k.size, fun i hi => (k.kept i (Nat.lt_of_lt_of_le hi h.size) (fun hm => by have := hS i hm; omega)).trans (h.block i hi)⟩
theorem St.one {w : World} {g : Nat} {C : Array Value} {T : TypeId} (h : w.heap[g]? = some (.cells C T (0, 0))) : St [g] w w [(g, C, T)] :=
  ⟨rfl, rfl, rfl, Nat.le_refl _, fun _ _ _ => rfl, fun p hp => by simp at hp; subst hp; exact Or.inr (by simp), by simp, fun p hp => by simp at hp; subst hp; exact h⟩
theorem own_ge {w : World} {base size n : Nat} {e : TypeId} {v : Value} {xs : List Value} (h : w.ownsRow base e size v n xs) : ∀ g, v.ownBlock = some g → base ≤ g := by
  intro g hg
  rcases h.2 with ⟨rfl, _⟩ | ⟨g', cap, cur, rfl, hb, _⟩
  · simp [Value.ownBlock] at hg
  · simp [Value.ownBlock] at hg; omega
theorem perm3 {α : Type} (a b c : α) : [a, b, c].Perm [c, b, a] := (List.reverse_perm [a, b, c]).symm
theorem foldR_succ {s : ByteArray} {l : List Int} {x : Rd} {k : Nat} (h : k < l.length) : (l.take (k + 1)).foldl (fieldR s) x = fieldR s ((l.take k).foldl (fieldR s) x) l[k] := by
  rw [List.take_succ_eq_append_getElem h, List.foldl_append]; rfl
theorem dec_none {s : ByteArray} {M n : Nat} {a : Int} {bad : Bool} {l : List Ent} (hM : decN s = M) (h : decL s M (numA s 0 2) (!numOk s 0 2) = (decL s (n + 1) a bad).map fun r => (l ++ r.1, r.2)) (hs : ((entR s a bad).bad || !checkB (entR s a bad).e) = true) : decF s = none := by
  unfold decF
  rw [hM, h, decL_stop s n a bad hs]
  rfl
theorem ownsRow_none (w : World) (base : Nat) (e : TypeId) (size : Nat) : w.ownsRow base e size (.slice none 0 0) 0 [] := ⟨by simp, Or.inl ⟨rfl, rfl⟩⟩
theorem entsL_length (l : List Ent) : (l.flatMap entL).length = l.length * 39 := by
  induction l with
  | nil => rfl
  | cons e l ih => rw [List.flatMap_cons, List.length_append, ih, show (entL e).length = 39 from rfl, List.length_cons]; omega
/-- What Decode leaves. -/
def DecPost (s : ByteArray) (w : World) (r : Ending) (w' : World) : Prop :=
  match decF s with
  | none => r = .returned (.tuple #[.slice none 0 0, .int .i64 10])
  | some l => ∃ v, r = .returned (.tuple #[v, .int .i64 0]) ∧ w'.ownsRow w.heap.size 27 39 v l.length (l.flatMap entL) ∧ (∀ e ∈ l, e.Wf)

set_option maxHeartbeats 4000000 in
set_option maxRecDepth 100000 in
theorem decode_calls (s : ByteArray) (hs : s.size ≤ 140737488351232) (w : World) :
    Calls Try.prog 18 #[.string s] w fun r w' => DecPost s w r w' ∧ Below w.heap.size w w' := by
  have hs' : s.size ≤ maxLen := by unfold maxLen; omega
  have hst := St.start w
  have hN := numN_range s 0 2
  go_enter Try.func18, Try.ntmps18
  go_wp2_with (first
      | (with_reducible refine wpList_neqE rfl _ _ _ rfl _ _ rfl rfl ?_)
      | (with_reducible refine wpList_eqlE rfl _ _ _ rfl _ _ rfl rfl ?_)
      | (with_reducible refine wpList_ld rfl _ _ rfl _ _ rfl (by assumption) ?_)
      | (with_reducible refine wpList_lda rfl _ _ rfl _ _ rfl (by assumption) ?_)
      | (with_reducible refine wpList_stI rfl _ _ _ rfl _ _ rfl _ _ rfl (by assumption) ?_; intro w' hst)
      | (with_reducible refine wpList_stS rfl _ _ _ rfl _ _ rfl _ rfl (by assumption) ?_; intro w' hst)
      | (with_reducible refine wpList_stB rfl _ _ _ rfl _ _ rfl _ rfl (by assumption) ?_; intro w' hst)
      | (with_reducible refine wpList_stA rfl _ _ _ rfl _ _ rfl _ rfl (by assumption) ?_; intro w' hst)
      | (with_reducible refine wpList_box rfl _ _ rfl (by assumption) _ rfl ?_; intro bb w' hst)
      | (with_reducible refine wpList_new rfl _ rfl (by assumption) _ zero_ent ?_; intro bn w' hst)
      | (with_reducible refine wpList_new rfl _ rfl (by assumption) _ zero_run ?_; intro br w' hst))
  have hst0 : St [] w w' [(bb, readC s 0 false, 70)] := hst
  clear hst
  refine (number_calls bb s 0 2 false hs' _ hst0.has).mono ?_
  rintro r w1 ⟨rfl, k1⟩
  have h1 := hst0.upd k1
  clear k1 hst0
  rw [Bool.false_or] at h1
  go_wp2_with (first
      | (with_reducible refine wpList_neqE rfl _ _ _ rfl _ _ rfl rfl ?_)
      | (with_reducible refine wpList_eqlE rfl _ _ _ rfl _ _ rfl rfl ?_)
      | (with_reducible refine wpList_ld rfl _ _ rfl _ _ rfl (by assumption) ?_)
      | (with_reducible refine wpList_lda rfl _ _ rfl _ _ rfl (by assumption) ?_)
      | (with_reducible refine wpList_stI rfl _ _ _ rfl _ _ rfl _ _ rfl (by assumption) ?_; intro w' hst)
      | (with_reducible refine wpList_stS rfl _ _ _ rfl _ _ rfl _ rfl (by assumption) ?_; intro w' hst)
      | (with_reducible refine wpList_stB rfl _ _ _ rfl _ _ rfl _ rfl (by assumption) ?_; intro w' hst)
      | (with_reducible refine wpList_stA rfl _ _ _ rfl _ _ rfl _ rfl (by assumption) ?_; intro w' hst)
      | (with_reducible refine wpList_box rfl _ _ rfl (by assumption) _ rfl ?_; intro bb w' hst)
      | (with_reducible refine wpList_new rfl _ rfl (by assumption) _ zero_ent ?_; intro bn w' hst)
      | (with_reducible refine wpList_new rfl _ rfl (by assumption) _ zero_run ?_; intro br w' hst))
  obtain ⟨M, hM⟩ : ∃ M : Nat, min (numN s 0 2) 201 = (M : Int) := ⟨(min (numN s 0 2) 201).toNat, by omega⟩
  have hM2 : M ≤ 201 := by omega
  have HD : Hid (decN s = M) := Lib.hid (by unfold decN; rw [hM]; rfl)
  rw [hM]
  have HM := Lib.hid hM
  clear hM
  have hbb : bb < w1.heap.size := h1.lt _ (List.mem_cons_self)
  have hw1 := h1.end.size
  have hbw : w.heap.size ≤ bb := by
    rcases h1.own _ (List.mem_cons_self) with h | h
    · exact h
    · simp at h
  go_loopw [6, 17] (fun ov iv wr => ∃ (k : Nat) (l : List Ent) (a : Int) (bad : Bool), k ≤ M ∧ iv = .int .i64 k ∧ l.length = k ∧ wr.ownsRow w1.heap.size 27 39 ov k (l.flatMap entL) ∧ Below w.heap.size w wr ∧ w1.heap.size ≤ wr.heap.size ∧ St [bb] wr wr [(bb, readC s a bad, 70)] ∧ (∀ e ∈ l, e.Wf) ∧
    Hid (decL s M (numA s 0 2) (!numOk s 0 2) = (decL s (M - k) a bad).map fun r => (l ++ r.1, r.2))) (fun _ i _ => M - (intOf i).toNat)
  case atStart => exact ⟨0, [], numA s 0 2, !numOk s 0 2, by omega, rfl, rfl, ownsRow_none _ _ _ _, h1.end, Nat.le_refl _, h1.rebase, by simp, by show _ = _; simp⟩
  case round =>
    obtain ⟨k, l, a, bad, hk, rfl, hlen, hown, hbel, hsz, hsr, hwf, hdec⟩ := hrel
    have HWF := Lib.hid hwf
    have HLEN := Lib.hid hlen
    clear h1 hwf hlen
    by_cases hlt : k < M
    · go_wp2_with (first
      | (with_reducible refine wpList_neqE rfl _ _ _ rfl _ _ rfl rfl ?_)
      | (with_reducible refine wpList_eqlE rfl _ _ _ rfl _ _ rfl rfl ?_)
      | (with_reducible refine wpList_ld rfl _ _ rfl _ _ rfl (by assumption) ?_)
      | (with_reducible refine wpList_lda rfl _ _ rfl _ _ rfl (by assumption) ?_)
      | (with_reducible refine wpList_stI rfl _ _ _ rfl _ _ rfl _ _ rfl (by assumption) ?_; intro w' hst)
      | (with_reducible refine wpList_stS rfl _ _ _ rfl _ _ rfl _ rfl (by assumption) ?_; intro w' hst)
      | (with_reducible refine wpList_stB rfl _ _ _ rfl _ _ rfl _ rfl (by assumption) ?_; intro w' hst)
      | (with_reducible refine wpList_stA rfl _ _ _ rfl _ _ rfl _ rfl (by assumption) ?_; intro w' hst)
      | (with_reducible refine wpList_box rfl _ _ rfl (by assumption) _ rfl ?_; intro bb w' hst)
      | (with_reducible refine wpList_new rfl _ rfl (by assumption) _ zero_ent ?_; intro bn w' hst)
      | (with_reducible refine wpList_new rfl _ rfl (by assumption) _ zero_run ?_; intro br w' hst))
      refine (number_calls bb s a 1 bad hs' _ hsr.has).mono ?_
      rintro r w2 ⟨rfl, k2⟩
      have h2 := hsr.upd k2
      clear k2
      go_wp2_with (first
      | (with_reducible refine wpList_neqE rfl _ _ _ rfl _ _ rfl rfl ?_)
      | (with_reducible refine wpList_eqlE rfl _ _ _ rfl _ _ rfl rfl ?_)
      | (with_reducible refine wpList_ld rfl _ _ rfl _ _ rfl (by assumption) ?_)
      | (with_reducible refine wpList_lda rfl _ _ rfl _ _ rfl (by assumption) ?_)
      | (with_reducible refine wpList_stI rfl _ _ _ rfl _ _ rfl _ _ rfl (by assumption) ?_; intro w' hst)
      | (with_reducible refine wpList_stS rfl _ _ _ rfl _ _ rfl _ rfl (by assumption) ?_; intro w' hst)
      | (with_reducible refine wpList_stB rfl _ _ _ rfl _ _ rfl _ rfl (by assumption) ?_; intro w' hst)
      | (with_reducible refine wpList_stA rfl _ _ _ rfl _ _ rfl _ rfl (by assumption) ?_; intro w' hst)
      | (with_reducible refine wpList_box rfl _ _ rfl (by assumption) _ rfl ?_; intro bb w' hst)
      | (with_reducible refine wpList_new rfl _ rfl (by assumption) _ zero_ent ?_; intro bn w' hst)
      | (with_reducible refine wpList_new rfl _ rfl (by assumption) _ zero_run ?_; intro br w' hst))
      refine (fields_calls (numN s a 1) _).mono ?_
      rintro r w7 ⟨⟨v, rfl, hf⟩, hb⟩
      have HER : Hid (entR s a bad = (fieldsL (numN s a 1)).foldl (fieldR s) ⟨numA s a 1, bad || !numOk s a 1, entK (numN s a 1)⟩) := Lib.hid rfl
      have HW := Lib.hid (entR_wf s hs a bad)
      have HKD : Hid (fieldsL (numN s a 1) = [] → checkB (entR s a bad).e = false) := Lib.hid (fun h => by
        have : (entR s a bad).e = entK (numN s a 1) := by unfold entR; rw [h]; rfl
        rw [this]
        unfold checkB
        rw [show (entK (numN s a 1)).kind = numN s a 1 from rfl, h]
        rfl)
      have HFR := Lib.hid (fieldsL_range (numN s a 1))
      have hl3 := fieldsL_len (numN s a 1)
      obtain ⟨n, hn⟩ : ∃ n, M - k = n + 1 := ⟨M - k - 1, by omega⟩
      rw [hn] at hdec
      have HNO : Hid (((entR s a bad).bad || !checkB (entR s a bad).e) = true → decF s = none) := Lib.hid (fun h => dec_none HD.out hdec.out h)
      have HYES : Hid (((entR s a bad).bad || !checkB (entR s a bad).e) = false → decL s M (numA s 0 2) (!numOk s 0 2) = (decL s n (entR s a bad).a (entR s a bad).bad).map fun r => ((l ++ [(entR s a bad).e]) ++ r.1, r.2)) := Lib.hid (fun h => by
        rw [hdec.out, decL_step s n a bad h]
        cases decL s n (entR s a bad).a (entR s a bad).bad <;> simp)
      have HN : Hid (M - (k + 1) = n) := Lib.hid (by omega)
      clear hdec hn
      generalize entR s a bad = X at *
      generalize fieldsL (numN s a 1) = fl at *
      rcases hf with ⟨hl0, rfl⟩ | ⟨hl0, bF, rfl, hszF, hblk⟩
      · have hX : X = ⟨numA s a 1, bad || !numOk s a 1, entK (numN s a 1)⟩ := by rw [HER.out, hl0]; rfl
        have hck : checkB X.e = false := HKD.out hl0
        have h7 : St [bb] wr w7 [(bn, entC X.e, 27), (bb, readC s X.a X.bad, 70)] := by rw [hX]; exact hst.below hb
        have HNO' : Hid (decF s = none) := Lib.hid (HNO.out (by rw [hck]; simp))
        have hbel7 := St.under hbel h7 (by intro x hx; simp at hx; omega)
        have HCK := Lib.hid hck
        clear hck hX HNO HYES HKD HER hl0 hst h2 hsr hb hown hbel
        go_wp2_with (first
      | (with_reducible refine wpList_neqE rfl _ _ _ rfl _ _ rfl rfl ?_)
      | (with_reducible refine wpList_eqlE rfl _ _ _ rfl _ _ rfl rfl ?_)
      | (with_reducible refine wpList_ld rfl _ _ rfl _ _ rfl (by assumption) ?_)
      | (with_reducible refine wpList_lda rfl _ _ rfl _ _ rfl (by assumption) ?_)
      | (with_reducible refine wpList_stI rfl _ _ _ rfl _ _ rfl _ _ rfl (by assumption) ?_; intro w' hst)
      | (with_reducible refine wpList_stS rfl _ _ _ rfl _ _ rfl _ rfl (by assumption) ?_; intro w' hst)
      | (with_reducible refine wpList_stB rfl _ _ _ rfl _ _ rfl _ rfl (by assumption) ?_; intro w' hst)
      | (with_reducible refine wpList_stA rfl _ _ _ rfl _ _ rfl _ rfl (by assumption) ?_; intro w' hst)
      | (with_reducible refine wpList_box rfl _ _ rfl (by assumption) _ rfl ?_; intro bb w' hst)
      | (with_reducible refine wpList_new rfl _ rfl (by assumption) _ zero_ent ?_; intro bn w' hst)
      | (with_reducible refine wpList_new rfl _ rfl (by assumption) _ zero_run ?_; intro br w' hst))
        go_loopw [26] (fun jv wq => jv = .int .i64 0 ∧ wq = w7) (fun _ _ => 0)
        case atStart => exact ⟨rfl, rfl⟩
        case round =>
          obtain ⟨rfl, rfl⟩ := hrel
          cases hbad : X.bad
          · go_wp2_with (first
      | (with_reducible refine wpList_neqE rfl _ _ _ rfl _ _ rfl rfl ?_)
      | (with_reducible refine wpList_eqlE rfl _ _ _ rfl _ _ rfl rfl ?_)
      | (with_reducible refine wpList_ld rfl _ _ rfl _ _ rfl (by assumption) ?_)
      | (with_reducible refine wpList_lda rfl _ _ rfl _ _ rfl (by assumption) ?_)
      | (with_reducible refine wpList_stI rfl _ _ _ rfl _ _ rfl _ _ rfl (by assumption) ?_; intro w' hst)
      | (with_reducible refine wpList_stS rfl _ _ _ rfl _ _ rfl _ rfl (by assumption) ?_; intro w' hst)
      | (with_reducible refine wpList_stB rfl _ _ _ rfl _ _ rfl _ rfl (by assumption) ?_; intro w' hst)
      | (with_reducible refine wpList_stA rfl _ _ _ rfl _ _ rfl _ rfl (by assumption) ?_; intro w' hst)
      | (with_reducible refine wpList_box rfl _ _ rfl (by assumption) _ rfl ?_; intro bb w' hst)
      | (with_reducible refine wpList_new rfl _ rfl (by assumption) _ zero_ent ?_; intro bn w' hst)
      | (with_reducible refine wpList_new rfl _ rfl (by assumption) _ zero_run ?_; intro br w' hst))
            refine (check_calls X.e HW.out _).mono ?_
            rintro r w9 ⟨rfl, hb9⟩
            have hbel9 := belw hbel7 hb9
            rw [HCK.out]
            clear hbad
            unfold errOf
            go_wp2_with (first
      | (with_reducible refine wpList_neqE rfl _ _ _ rfl _ _ rfl rfl ?_)
      | (with_reducible refine wpList_eqlE rfl _ _ _ rfl _ _ rfl rfl ?_)
      | (with_reducible refine wpList_ld rfl _ _ rfl _ _ rfl (by assumption) ?_)
      | (with_reducible refine wpList_lda rfl _ _ rfl _ _ rfl (by assumption) ?_)
      | (with_reducible refine wpList_stI rfl _ _ _ rfl _ _ rfl _ _ rfl (by assumption) ?_; intro w' hst)
      | (with_reducible refine wpList_stS rfl _ _ _ rfl _ _ rfl _ rfl (by assumption) ?_; intro w' hst)
      | (with_reducible refine wpList_stB rfl _ _ _ rfl _ _ rfl _ rfl (by assumption) ?_; intro w' hst)
      | (with_reducible refine wpList_stA rfl _ _ _ rfl _ _ rfl _ rfl (by assumption) ?_; intro w' hst)
      | (with_reducible refine wpList_box rfl _ _ rfl (by assumption) _ rfl ?_; intro bb w' hst)
      | (with_reducible refine wpList_new rfl _ rfl (by assumption) _ zero_ent ?_; intro bn w' hst)
      | (with_reducible refine wpList_new rfl _ rfl (by assumption) _ zero_run ?_; intro br w' hst))
            go_ret2
            exact ⟨by unfold DecPost; rw [HNO'.out]; rfl, hbel9⟩
          · go_wp2_with (first
      | (with_reducible refine wpList_neqE rfl _ _ _ rfl _ _ rfl rfl ?_)
      | (with_reducible refine wpList_eqlE rfl _ _ _ rfl _ _ rfl rfl ?_)
      | (with_reducible refine wpList_ld rfl _ _ rfl _ _ rfl (by assumption) ?_)
      | (with_reducible refine wpList_lda rfl _ _ rfl _ _ rfl (by assumption) ?_)
      | (with_reducible refine wpList_stI rfl _ _ _ rfl _ _ rfl _ _ rfl (by assumption) ?_; intro w' hst)
      | (with_reducible refine wpList_stS rfl _ _ _ rfl _ _ rfl _ rfl (by assumption) ?_; intro w' hst)
      | (with_reducible refine wpList_stB rfl _ _ _ rfl _ _ rfl _ rfl (by assumption) ?_; intro w' hst)
      | (with_reducible refine wpList_stA rfl _ _ _ rfl _ _ rfl _ rfl (by assumption) ?_; intro w' hst)
      | (with_reducible refine wpList_box rfl _ _ rfl (by assumption) _ rfl ?_; intro bb w' hst)
      | (with_reducible refine wpList_new rfl _ rfl (by assumption) _ zero_ent ?_; intro bn w' hst)
      | (with_reducible refine wpList_new rfl _ rfl (by assumption) _ zero_run ?_; intro br w' hst))
            go_ret2
            exact ⟨by unfold DecPost; rw [HNO'.out]; rfl, hbel7⟩
      · have h7 := (hst.belowNew hb hszF hblk).perm (perm3 _ _ _)
        clear hblk hb hszF hst h2 hsr HKD
        obtain ⟨x0, hx0⟩ : ∃ x0 : Rd, x0 = ⟨numA s a 1, bad || !numOk s a 1, entK (numN s a 1)⟩ := ⟨_, rfl⟩
        rw [← hx0] at HER
        have h7 : St [bb] wr w7 [(bb, readC s x0.a x0.bad, 70), (bn, entC x0.e, 27), (bF, (fl.map (Value.int .i64)).toArray, 58)] := by rw [hx0]; exact h7
        clear hx0
        go_wp2_with (first
      | (with_reducible refine wpList_neqE rfl _ _ _ rfl _ _ rfl rfl ?_)
      | (with_reducible refine wpList_eqlE rfl _ _ _ rfl _ _ rfl rfl ?_)
      | (with_reducible refine wpList_ld rfl _ _ rfl _ _ rfl (by assumption) ?_)
      | (with_reducible refine wpList_lda rfl _ _ rfl _ _ rfl (by assumption) ?_)
      | (with_reducible refine wpList_stI rfl _ _ _ rfl _ _ rfl _ _ rfl (by assumption) ?_; intro w' hst)
      | (with_reducible refine wpList_stS rfl _ _ _ rfl _ _ rfl _ rfl (by assumption) ?_; intro w' hst)
      | (with_reducible refine wpList_stB rfl _ _ _ rfl _ _ rfl _ rfl (by assumption) ?_; intro w' hst)
      | (with_reducible refine wpList_stA rfl _ _ _ rfl _ _ rfl _ rfl (by assumption) ?_; intro w' hst)
      | (with_reducible refine wpList_box rfl _ _ rfl (by assumption) _ rfl ?_; intro bb w' hst)
      | (with_reducible refine wpList_new rfl _ rfl (by assumption) _ zero_ent ?_; intro bn w' hst)
      | (with_reducible refine wpList_new rfl _ rfl (by assumption) _ zero_run ?_; intro br w' hst))
        go_loopw [26] (fun jv wq => ∃ j : Nat, j ≤ fl.length ∧ jv = .int .i64 j ∧ St [bb] wr wq [(bb, readC s ((fl.take j).foldl (fieldR s) x0).a ((fl.take j).foldl (fieldR s) x0).bad, 70), (bn, entC ((fl.take j).foldl (fieldR s) x0).e, 27), (bF, (fl.map (Value.int .i64)).toArray, 58)]) (fun i _ => fl.length - (intOf i).toNat)
        case atStart => exact ⟨0, by omega, rfl, h7⟩
        case round =>
          obtain ⟨j, hj, rfl, hsq⟩ := hrel
          clear h7
          by_cases hjl : j < fl.length
          · have hcell := cell_field fl j hjl
            have hf4 := HFR.out fl[j] (List.getElem_mem hjl)
            have HTJ := Lib.hid (foldR_succ (s := s) (x := x0) hjl)
            generalize (fl.take j).foldl (fieldR s) x0 = x at *
            generalize fl[j] = f at *
            go_wp2_with (first
      | (with_reducible refine wpList_neqE rfl _ _ _ rfl _ _ rfl rfl ?_)
      | (with_reducible refine wpList_eqlE rfl _ _ _ rfl _ _ rfl rfl ?_)
      | (with_reducible refine wpList_ld rfl _ _ rfl _ _ rfl (by assumption) ?_)
      | (with_reducible refine wpList_lda rfl _ _ rfl _ _ rfl (by assumption) ?_)
      | (with_reducible refine wpList_stI rfl _ _ _ rfl _ _ rfl _ _ rfl (by assumption) ?_; intro w' hst)
      | (with_reducible refine wpList_stS rfl _ _ _ rfl _ _ rfl _ rfl (by assumption) ?_; intro w' hst)
      | (with_reducible refine wpList_stB rfl _ _ _ rfl _ _ rfl _ rfl (by assumption) ?_; intro w' hst)
      | (with_reducible refine wpList_stA rfl _ _ _ rfl _ _ rfl _ rfl (by assumption) ?_; intro w' hst)
      | (with_reducible refine wpList_box rfl _ _ rfl (by assumption) _ rfl ?_; intro bb w' hst)
      | (with_reducible refine wpList_new rfl _ rfl (by assumption) _ zero_ent ?_; intro bn w' hst)
      | (with_reducible refine wpList_new rfl _ rfl (by assumption) _ zero_run ?_; intro br w' hst))
            refine (readfield_calls bb bn s x f hf4 hs' _ hsq.has hsq.has).mono ?_
            rintro r w8 ⟨rfl, k8⟩
            have h8 := hsq.upd2 k8
            clear k8 hsq
            go_wp2_with (first
      | (with_reducible refine wpList_neqE rfl _ _ _ rfl _ _ rfl rfl ?_)
      | (with_reducible refine wpList_eqlE rfl _ _ _ rfl _ _ rfl rfl ?_)
      | (with_reducible refine wpList_ld rfl _ _ rfl _ _ rfl (by assumption) ?_)
      | (with_reducible refine wpList_lda rfl _ _ rfl _ _ rfl (by assumption) ?_)
      | (with_reducible refine wpList_stI rfl _ _ _ rfl _ _ rfl _ _ rfl (by assumption) ?_; intro w' hst)
      | (with_reducible refine wpList_stS rfl _ _ _ rfl _ _ rfl _ rfl (by assumption) ?_; intro w' hst)
      | (with_reducible refine wpList_stB rfl _ _ _ rfl _ _ rfl _ rfl (by assumption) ?_; intro w' hst)
      | (with_reducible refine wpList_stA rfl _ _ _ rfl _ _ rfl _ rfl (by assumption) ?_; intro w' hst)
      | (with_reducible refine wpList_box rfl _ _ rfl (by assumption) _ rfl ?_; intro bb w' hst)
      | (with_reducible refine wpList_new rfl _ rfl (by assumption) _ zero_ent ?_; intro bn w' hst)
      | (with_reducible refine wpList_new rfl _ rfl (by assumption) _ zero_run ?_; intro br w' hst))
            go_roundw
            case rel => exact ⟨j + 1, by omega, by go_num, by rw [HTJ.out]; exact h8⟩
            case measure => simp [intOf]; omega
          · obtain rfl : j = fl.length := by omega
            rw [List.take_length, ← HER.out] at hsq
            have hown2 := ownsRow_St hown hsq (by intro x hx; simp at hx; omega)
            have hbel2 := St.under hbel hsq (by intro x hx; simp at hx; omega)
            have hsz2 : w1.heap.size ≤ wr.heap.size := Nat.le_trans hsz hsq.size
            have hsr := hsq.rebase
            clear hown hbel hsz hsq
            cases hbad : X.bad
            · go_wp2_with (first
      | (with_reducible refine wpList_neqE rfl _ _ _ rfl _ _ rfl rfl ?_)
      | (with_reducible refine wpList_eqlE rfl _ _ _ rfl _ _ rfl rfl ?_)
      | (with_reducible refine wpList_ld rfl _ _ rfl _ _ rfl (by assumption) ?_)
      | (with_reducible refine wpList_lda rfl _ _ rfl _ _ rfl (by assumption) ?_)
      | (with_reducible refine wpList_stI rfl _ _ _ rfl _ _ rfl _ _ rfl (by assumption) ?_; intro w' hst)
      | (with_reducible refine wpList_stS rfl _ _ _ rfl _ _ rfl _ rfl (by assumption) ?_; intro w' hst)
      | (with_reducible refine wpList_stB rfl _ _ _ rfl _ _ rfl _ rfl (by assumption) ?_; intro w' hst)
      | (with_reducible refine wpList_stA rfl _ _ _ rfl _ _ rfl _ rfl (by assumption) ?_; intro w' hst)
      | (with_reducible refine wpList_box rfl _ _ rfl (by assumption) _ rfl ?_; intro bb w' hst)
      | (with_reducible refine wpList_new rfl _ rfl (by assumption) _ zero_ent ?_; intro bn w' hst)
      | (with_reducible refine wpList_new rfl _ rfl (by assumption) _ zero_run ?_; intro br w' hst))
              refine (check_calls X.e HW.out _).mono ?_
              rintro r w9 ⟨rfl, hb9⟩
              have hown9 := ownsRow_below hown2 hb9
              have hbel9 := belw hbel2 hb9
              have hs9 := hsr.below hb9
              have hsz9 : w1.heap.size ≤ w9.heap.size := Nat.le_trans hsz2 hb9.size
              clear hown2 hbel2 hsr hb9 hsz2
              cases hc : checkB X.e
              · have HNO' : Hid (decF s = none) := Lib.hid (HNO.out (by rw [hbad, hc]; rfl))
                clear HNO HYES hbad hc
                unfold errOf
                go_wp2_with (first
      | (with_reducible refine wpList_neqE rfl _ _ _ rfl _ _ rfl rfl ?_)
      | (with_reducible refine wpList_eqlE rfl _ _ _ rfl _ _ rfl rfl ?_)
      | (with_reducible refine wpList_ld rfl _ _ rfl _ _ rfl (by assumption) ?_)
      | (with_reducible refine wpList_lda rfl _ _ rfl _ _ rfl (by assumption) ?_)
      | (with_reducible refine wpList_stI rfl _ _ _ rfl _ _ rfl _ _ rfl (by assumption) ?_; intro w' hst)
      | (with_reducible refine wpList_stS rfl _ _ _ rfl _ _ rfl _ rfl (by assumption) ?_; intro w' hst)
      | (with_reducible refine wpList_stB rfl _ _ _ rfl _ _ rfl _ rfl (by assumption) ?_; intro w' hst)
      | (with_reducible refine wpList_stA rfl _ _ _ rfl _ _ rfl _ rfl (by assumption) ?_; intro w' hst)
      | (with_reducible refine wpList_box rfl _ _ rfl (by assumption) _ rfl ?_; intro bb w' hst)
      | (with_reducible refine wpList_new rfl _ rfl (by assumption) _ zero_ent ?_; intro bn w' hst)
      | (with_reducible refine wpList_new rfl _ rfl (by assumption) _ zero_run ?_; intro br w' hst))
                go_ret2
                exact ⟨by unfold DecPost; rw [HNO'.out]; rfl, hbel9⟩
              · have HYES' := Lib.hid (HYES.out (by rw [hbad, hc]; rfl))
                clear HNO HYES hbad hc
                unfold errOf
                go_wp2_with (first | (with_reducible refine wpList_lda rfl _ _ rfl _ _ rfl (by assumption) ?_) | (refine wpList_bs1 rfl _ rfl (by assumption) X.e rfl ?_))
                intro bS w10 hb10 hs10
                have hown10 := ownsRow_below hown9 hb10
                clear hown9
                obtain ⟨i0, hi0, hz0, hz1, hz2⟩ := info_parts infoEnt
                refine wpList_append_own _ rfl _ _ 22 rfl w1.heap.size 27 i0 (.agg (entC ent0)) 39 96 Try.underlying22 hi0 hz0 hz1 hz2 rfl (by omega) _ _ _ rfl hown10 ⟨bS, 0, none⟩ 1 1 (entL X.e) rfl rfl ?c2 (entL_one _) ?c3 ?c4 ?c5 ?_
                case c2 =>
                  intro j u hj
                  rw [addr_add, Nat.zero_add, cell_of_row _ _ _ _ _ _ (hs10.has (g := bS))]
                  simpa [entC] using hj
                case c3 => unfold maxLen; omega
                case c4 => omega
                case c5 => have := hb10.size; omega
                clear hi0 hz0 hz1 hz2
                intro v' w11 hown11 hg11 hnil11
                clear hnil11
                have hrd11 : w11.heap[bb]? = some (.cells (readC s X.a X.bad) 70 (0, 0)) := (hg11.block bb (by have := hb10.size; omega) (fun e => by have := own_ge hown10 bb e.symm; omega)).trans (hs10.has (g := bb))
                have hb11 : Below w.heap.size w w11 := (belw hbel9 hb10).grown hg11 (by have := hb10.size; omega) (fun g hg => by have := own_ge hown10 g hg; omega)
                have hz11 : w1.heap.size ≤ w11.heap.size := by have := hg11.size; have := hb10.size; omega
                clear hg11 hown10 hs10 hb10 hbel9 hs9
                go_wp2_with fail
                go_roundw
                case rel => exact ⟨k + 1, l ++ [X.e], X.a, X.bad, by omega, by go_num, by simp [HLEN.out], by simpa [List.flatMap_append] using hown11, hb11, hz11, St.one hrd11, fun e he => by
                  rcases List.mem_append.1 he with h | h
                  · exact HWF.out e h
                  · rw [List.mem_singleton.1 h]; exact HW.out, by rw [HN.out]; exact HYES'⟩
                case measure => simp [intOf]; omega
            · have HNO' : Hid (decF s = none) := Lib.hid (HNO.out (by rw [hbad]; rfl))
              clear HNO HYES
              go_wp2_with (first
      | (with_reducible refine wpList_neqE rfl _ _ _ rfl _ _ rfl rfl ?_)
      | (with_reducible refine wpList_eqlE rfl _ _ _ rfl _ _ rfl rfl ?_)
      | (with_reducible refine wpList_ld rfl _ _ rfl _ _ rfl (by assumption) ?_)
      | (with_reducible refine wpList_lda rfl _ _ rfl _ _ rfl (by assumption) ?_)
      | (with_reducible refine wpList_stI rfl _ _ _ rfl _ _ rfl _ _ rfl (by assumption) ?_; intro w' hst)
      | (with_reducible refine wpList_stS rfl _ _ _ rfl _ _ rfl _ rfl (by assumption) ?_; intro w' hst)
      | (with_reducible refine wpList_stB rfl _ _ _ rfl _ _ rfl _ rfl (by assumption) ?_; intro w' hst)
      | (with_reducible refine wpList_stA rfl _ _ _ rfl _ _ rfl _ rfl (by assumption) ?_; intro w' hst)
      | (with_reducible refine wpList_box rfl _ _ rfl (by assumption) _ rfl ?_; intro bb w' hst)
      | (with_reducible refine wpList_new rfl _ rfl (by assumption) _ zero_ent ?_; intro bn w' hst)
      | (with_reducible refine wpList_new rfl _ rfl (by assumption) _ zero_run ?_; intro br w' hst))
              go_ret2
              exact ⟨by unfold DecPost; rw [HNO'.out]; rfl, hbel2⟩
    · obtain rfl : k = M := by omega
      rw [Nat.sub_self] at hdec
      have HF : Hid (decF s = if bad || (decide (200 < numN s 0 2) || decide (a < (s.size : Int))) then none else some l) := Lib.hid (by
        unfold decF
        rw [HD.out, hdec.out]
        simp [decL])
      have hownF := ownsRow_mono hown hw1
      clear hdec hown
      cases bad
      · cases h200 : decide (200 < numN s 0 2)
        · cases hat : decide (a < (s.size : Int))
          · have HF' : Hid (decF s = some l) := Lib.hid (by rw [HF.out, h200, hat]; rfl)
            clear HF
            go_wp2_with (first
      | (with_reducible refine wpList_neqE rfl _ _ _ rfl _ _ rfl rfl ?_)
      | (with_reducible refine wpList_eqlE rfl _ _ _ rfl _ _ rfl rfl ?_)
      | (with_reducible refine wpList_ld rfl _ _ rfl _ _ rfl (by assumption) ?_)
      | (with_reducible refine wpList_lda rfl _ _ rfl _ _ rfl (by assumption) ?_)
      | (with_reducible refine wpList_stI rfl _ _ _ rfl _ _ rfl _ _ rfl (by assumption) ?_; intro w' hst)
      | (with_reducible refine wpList_stS rfl _ _ _ rfl _ _ rfl _ rfl (by assumption) ?_; intro w' hst)
      | (with_reducible refine wpList_stB rfl _ _ _ rfl _ _ rfl _ rfl (by assumption) ?_; intro w' hst)
      | (with_reducible refine wpList_stA rfl _ _ _ rfl _ _ rfl _ rfl (by assumption) ?_; intro w' hst)
      | (with_reducible refine wpList_box rfl _ _ rfl (by assumption) _ rfl ?_; intro bb w' hst)
      | (with_reducible refine wpList_new rfl _ rfl (by assumption) _ zero_ent ?_; intro bn w' hst)
      | (with_reducible refine wpList_new rfl _ rfl (by assumption) _ zero_run ?_; intro br w' hst))
            go_ret2
            exact ⟨by unfold DecPost; rw [HF'.out]; exact ⟨_, rfl, by rw [HLEN.out]; exact hownF, HWF.out⟩, hbel⟩
          · have HF' : Hid (decF s = none) := Lib.hid (by rw [HF.out, h200, hat]; rfl)
            clear HF
            go_wp2_with (first
      | (with_reducible refine wpList_neqE rfl _ _ _ rfl _ _ rfl rfl ?_)
      | (with_reducible refine wpList_eqlE rfl _ _ _ rfl _ _ rfl rfl ?_)
      | (with_reducible refine wpList_ld rfl _ _ rfl _ _ rfl (by assumption) ?_)
      | (with_reducible refine wpList_lda rfl _ _ rfl _ _ rfl (by assumption) ?_)
      | (with_reducible refine wpList_stI rfl _ _ _ rfl _ _ rfl _ _ rfl (by assumption) ?_; intro w' hst)
      | (with_reducible refine wpList_stS rfl _ _ _ rfl _ _ rfl _ rfl (by assumption) ?_; intro w' hst)
      | (with_reducible refine wpList_stB rfl _ _ _ rfl _ _ rfl _ rfl (by assumption) ?_; intro w' hst)
      | (with_reducible refine wpList_stA rfl _ _ _ rfl _ _ rfl _ rfl (by assumption) ?_; intro w' hst)
      | (with_reducible refine wpList_box rfl _ _ rfl (by assumption) _ rfl ?_; intro bb w' hst)
      | (with_reducible refine wpList_new rfl _ rfl (by assumption) _ zero_ent ?_; intro bn w' hst)
      | (with_reducible refine wpList_new rfl _ rfl (by assumption) _ zero_run ?_; intro br w' hst))
            go_ret2
            exact ⟨by unfold DecPost; rw [HF'.out]; rfl, hbel⟩
        · have HF' : Hid (decF s = none) := Lib.hid (by rw [HF.out, h200]; rfl)
          clear HF
          go_wp2_with (first
      | (with_reducible refine wpList_neqE rfl _ _ _ rfl _ _ rfl rfl ?_)
      | (with_reducible refine wpList_eqlE rfl _ _ _ rfl _ _ rfl rfl ?_)
      | (with_reducible refine wpList_ld rfl _ _ rfl _ _ rfl (by assumption) ?_)
      | (with_reducible refine wpList_lda rfl _ _ rfl _ _ rfl (by assumption) ?_)
      | (with_reducible refine wpList_stI rfl _ _ _ rfl _ _ rfl _ _ rfl (by assumption) ?_; intro w' hst)
      | (with_reducible refine wpList_stS rfl _ _ _ rfl _ _ rfl _ rfl (by assumption) ?_; intro w' hst)
      | (with_reducible refine wpList_stB rfl _ _ _ rfl _ _ rfl _ rfl (by assumption) ?_; intro w' hst)
      | (with_reducible refine wpList_stA rfl _ _ _ rfl _ _ rfl _ rfl (by assumption) ?_; intro w' hst)
      | (with_reducible refine wpList_box rfl _ _ rfl (by assumption) _ rfl ?_; intro bb w' hst)
      | (with_reducible refine wpList_new rfl _ rfl (by assumption) _ zero_ent ?_; intro bn w' hst)
      | (with_reducible refine wpList_new rfl _ rfl (by assumption) _ zero_run ?_; intro br w' hst))
          go_ret2
          exact ⟨by unfold DecPost; rw [HF'.out]; rfl, hbel⟩
      · have HF' : Hid (decF s = none) := Lib.hid (by rw [HF.out]; rfl)
        clear HF
        go_wp2_with (first
      | (with_reducible refine wpList_neqE rfl _ _ _ rfl _ _ rfl rfl ?_)
      | (with_reducible refine wpList_eqlE rfl _ _ _ rfl _ _ rfl rfl ?_)
      | (with_reducible refine wpList_ld rfl _ _ rfl _ _ rfl (by assumption) ?_)
      | (with_reducible refine wpList_lda rfl _ _ rfl _ _ rfl (by assumption) ?_)
      | (with_reducible refine wpList_stI rfl _ _ _ rfl _ _ rfl _ _ rfl (by assumption) ?_; intro w' hst)
      | (with_reducible refine wpList_stS rfl _ _ _ rfl _ _ rfl _ rfl (by assumption) ?_; intro w' hst)
      | (with_reducible refine wpList_stB rfl _ _ _ rfl _ _ rfl _ rfl (by assumption) ?_; intro w' hst)
      | (with_reducible refine wpList_stA rfl _ _ _ rfl _ _ rfl _ rfl (by assumption) ?_; intro w' hst)
      | (with_reducible refine wpList_box rfl _ _ rfl (by assumption) _ rfl ?_; intro bb w' hst)
      | (with_reducible refine wpList_new rfl _ rfl (by assumption) _ zero_ent ?_; intro bn w' hst)
      | (with_reducible refine wpList_new rfl _ rfl (by assumption) _ zero_run ?_; intro br w' hst))
        go_ret2
        exact ⟨by unfold DecPost; rw [HF'.out]; rfl, hbel⟩
end Go.Proofs.Ytgjgjhikimnknaa
