/- The walk of EntriesEncode: the law returns true. -/
import Derived.Test.YtgjgjhikimnknaaRef15f
import Derived.Test.YtgjgjhikimnknaaDoes15
set_option linter.unusedVariables false
set_option linter.unusedSimpArgs false
namespace Go.Proofs.Ytgjgjhikimnknaa
open Go.RowKit

def x7 : Ent := ⟨-7, 0, 0, 0, noS, zeros 32, 0, 0⟩
theorem x7_wf : x7.Wf := entN_wf (by unfold I64; decide) (by unfold I64; decide) (by unfold I64; decide) (by unfold I64; decide) (by decide) rfl (by unfold I64; decide) (by unfold I64; decide)
theorem last_cell (l : List Ent) (rest : List Value) : CellAt ((l ++ [x7]).flatMap entL ++ rest).toArray (l.length * 39) (.int .i64 (-7)) := ⟨by
  have h := ents_at (l ++ [x7]) l.length (by simp) 0 (by omega)
  have e : (l ++ [x7])[l.length]'(by simp) = x7 := by simp
  rw [e, Nat.add_zero] at h
  rw [List.getElem?_toArray, List.getElem?_append_left (by rw [entsL_length, List.length_append, List.length_singleton]; omega), h]
  rfl⟩
theorem row_but_last {w : World} {g cap : Nat} {T : TypeId} {l : List Ent} {rest : List Value} (hg : w.heap[g]? = some (.cells ((l ++ [x7]).flatMap entL ++ rest).toArray T (0, 0))) (hwf : ∀ e ∈ l, e.Wf) (hl : l.length ≤ maxLen) : EntRow w (.slice (some ⟨g, 0, none⟩) l.length cap) l := by
  rw [List.flatMap_append, List.append_assoc] at hg
  exact entRow_pre hg rfl hwf hl
section
variable {ops : Array Oper} {rest : List Oper} {o : Oper} {a : Act} {w : World} {Q : Exit → Act → World → Prop}
/-- The value of one entry, as a slice of its own. -/
theorem wpList_one (hw : Region.wanted o (yielded ops a.tmps) = true) (x : Operand) (ho : o.op = .buildSlice 22 1 #[(0, x)]) (e : Ent) (he : e.Wf) (hx : a.eval x = .agg (entL e).toArray)
    (hk : ∀ (v : Value) (w' : World), Below w.heap.size w w' → EntRow w' v [e] → wpList Try.prog ops Q rest (a.put o.dst v) w') : wpList Try.prog ops Q (o :: rest) a w :=
  wpList_bs1 hw x ho (St.start w) e hx (fun b w' hb hs => hk _ w' hb (entRow_cells (hs.has (g := b)) rfl (by simp [he]) (by unfold maxLen; simp) (fun i hi j hj => by
    obtain rfl : i = 0 := by simpa using hi
    rw [Nat.zero_mul, Nat.zero_add, Nat.zero_add]
    rfl)))
end
set_option maxHeartbeats 8000000 in
set_option maxRecDepth 100000 in
theorem entriesEncode_walk (v : Value) (l : List Ent) (w : World) (hr : EntRow w v l) :
    Calls Try.prog 3 #[v] w fun e w' => e = .returned (.bool true) ∧ Below w.heap.size w w' := by
  have HR := Lib.hid hr
  obtain ⟨a, cap, rfl, hwf, hml, hcells⟩ := hr
  have HW := Lib.hid hwf
  have HC := Lib.hid hcells
  clear hwf hcells
  unfold maxLen at hml
  by_cases hbig : 300 < l.length
  · have f1 : decide ((300 : Int) < (l.length : Int)) = true := by simp; omega
    go_enter Try.func3, Try.ntmps3
    go_wp2
    go_ret
    exact ⟨rfl, Below.refl _ _⟩
  have f1 : decide ((300 : Int) < (l.length : Int)) = false := by simp; omega
  go_enter Try.func3, Try.ntmps3
  go_wp2_with (first
    | (refine wpList_mkE rfl _ _ rfl w.heap.size (l.length + 1) rfl rfl (by omega) (Nat.le_refl _) ?_
       intro v3 w3 hown3 hb3 hz3
       have hown3 : w3.ownsRow w.heap.size 27 39 v3 ([] : List Ent).length (([] : List Ent).flatMap entL) := hown3)
    | (refine wpList_appE rfl (.tmp 15) (.tmp 16) rfl w.heap.size _ _ [] l rfl rfl hown3 (HR.out.old hb3) (by rw [List.length_nil]; omega) hz3 ?_
       intro v4 w4 hown4 hg4
       have h4 := hb3.grown hg4 hb3.size (fun g hg => own_ge hown3 g hg)
       have hz4 : w.heap.size ≤ w4.heap.size := Nat.le_trans hz3 hg4.size
       rw [List.nil_append] at hown4
       clear hown3 hg4 hb3 hz3)
    | (refine wpList_val rfl 18 rfl (.agg (entL x7).toArray) (fun w => by kernel_rfl) ?_)
    | (refine wpList_one rfl (.tmp 18) rfl x7 x7_wf rfl ?_
       intro v5 w5 hb5 hr5
       have hown5 := ownsRow_below hown4 hb5
       have h5 := belw h4 hb5
       have hz5 : w.heap.size ≤ w5.heap.size := Nat.le_trans hz4 hb5.size
       clear hown4 h4 hb5 hz4)
    | (refine wpList_appE rfl (.tmp 17) (.tmp 19) rfl w.heap.size _ _ l [x7] rfl rfl hown5 hr5 (by rw [List.length_singleton]; omega) hz5 ?_
       intro v6 w6 hown6 hg6
       have h6 := h5.grown hg6 h5.size (fun g hg => own_ge hown5 g hg)
       clear hown5 hg6 h5 hz5 hr5
       obtain ⟨g, cap6, rfl⟩ := own_some hown6 (by simp)
       obtain ⟨rest, hst, hn6, _, hm6⟩ := St.ofOwn h6 hown6
       clear hown6 h6
       have i1 : (l.length : Int) ≤ (cap6 : Int) := by rw [List.length_append] at hn6; omega
       have i2 : (l.length : Int) + 1 ≤ (cap6 : Int) := by rw [List.length_append, List.length_singleton] at hn6; omega
       have hlx : (l ++ [x7]).length = l.length + 1 := by simp
       rw [hlx]
       clear hlx hn6))
  have hrow : EntRow w6 (.slice (some ⟨g, 0, none⟩) l.length cap6) l := row_but_last (hst.has (g := g)) HW.out (by unfold maxLen; omega)
  refine (encode_calls _ l _ hrow (by omega)).mono ?_
  rintro e w7 ⟨rfl, hb7⟩
  have h7 := hst.below hb7
  clear hst hb7 hrow
  go_wp2_with fail
  refine (ref_encode_calls _ l _ (HR.out.old h7.end) (by omega)).mono ?_
  rintro e w8 ⟨rfl, hb8⟩
  have h8 := h7.below hb8
  clear h7 hb8
  rcases encF l with ⟨t, ee⟩
  dsimp only
  have hm6' := Lib.hid hm6
  clear hm6
  go_wp2_with fail
  go_loopw [8] (fun iv wr => ∃ k : Nat, k ≤ l.length ∧ iv = .int .i64 k ∧ St [] w wr [(g, ((l ++ [x7]).flatMap entL ++ rest).toArray, 27)]) (fun i _ => l.length - (intOf i).toNat)
  case atStart => exact ⟨0, by omega, rfl, h8⟩
  case round =>
    obtain ⟨k, hk, rfl, hs⟩ := hrel
    clear h8
    by_cases hlt : k < l.length
    · obtain ⟨x, rfl, hcx⟩ := HC.out (by intro h; simp [h] at hlt)
      have HX : Hid (∀ w', Below wr.heap.size wr w' → ∀ j, j < 39 → w'.cell? ((x.add (k * 39)).add j) = (entC l[k])[j]?) := Lib.hid (fun w' hb => EntRow.cells hcx (belw hs.end hb) k hlt)
      have HWK := Lib.hid (HW.out l[k] (List.getElem_mem hlt))
      clear hcx
      generalize l[k] = e at *
      have C1 := Lib.hid (check_calls e HWK.out)
      have C2 := Lib.hid (may_calls e HWK.out)
      unfold errOf at C1
      cases hc : checkB e
      all_goals
        rw [hc] at C1 C2
        clear hc
        go_wp2_with fail
        refine wp_region_below_lit (by kernel_rfl) (by kernel_rfl) ?_
        repeat (first
          | (refine wpQuiet_lde rfl (.tmp 42) rfl (x.add (k * 39)) rfl e (by rintro _ ⟨n, rfl⟩; exact HX.out n.1 n.2) ?_; simp only [Act.put, List.setIfInBounds_toArray, List.set_cons_succ, List.set_cons_zero])
          | (refine wpQuiet_lde rfl (.tmp 48) rfl (x.add (k * 39)) rfl e (by rintro _ ⟨n, rfl⟩; exact HX.out n.1 n.2) ?_; simp only [Act.put, List.setIfInBounds_toArray, List.set_cons_succ, List.set_cons_zero])
          | go_big_quiet_step ((first | (go_at_call 14; exact Calls.below_of (C1.out _)) | (go_at_call 15; exact Calls.below_of (C2.out _)))))
        refine wpQuiet_nil ?_
        rintro w9 ⟨n9, rfl⟩
        have h9 := hs.below n9.2
        clear hs HX
        go_wp2_with fail
        go_roundw
        case rel => exact ⟨k + 1, by omega, by go_num, h9⟩
        case measure => simp [intOf]; omega
    · obtain rfl : k = l.length := by omega
      have hrow : EntRow wr (.slice (some ⟨g, 0, none⟩) l.length cap6) l := row_but_last (hs.has (g := g)) HW.out (by unfold maxLen; omega)
      have HROW := Lib.hid hrow
      have hlc := last_cell l rest
      clear hrow
      go_wp2_with fail
      refine (same_calls _ _ l l _ HROW.out (HR.out.old hs.end)).mono ?_
      rintro e w9 ⟨rfl, hb9⟩
      rw [sameB_self l (fun e he => (HW.out e he).hash)]
      have h9 := hs.below hb9
      clear hb9 hs
      go_wp2_with (first
      | (with_reducible refine wpList_neqE rfl _ _ _ rfl _ _ rfl rfl ?_)
      | (with_reducible refine wpList_eqlE rfl _ _ _ rfl _ _ rfl rfl ?_)
      | (with_reducible refine wpList_ld rfl _ _ rfl _ _ rfl (by assumption) ?_)
      | (with_reducible refine wpList_lda rfl _ _ rfl _ _ rfl (by assumption) ?_)
      | (with_reducible refine wpList_stI rfl _ _ _ rfl _ _ rfl _ _ rfl (by assumption) ?_; intro w' hst)
      | (with_reducible refine wpList_stS rfl _ _ _ rfl _ _ rfl _ rfl (by assumption) ?_; intro w' hst)
      | (with_reducible refine wpList_stB rfl _ _ _ rfl _ _ rfl _ rfl (by assumption) ?_; intro w' hst)
      | (with_reducible refine wpList_stA rfl _ _ _ rfl _ _ rfl _ rfl (by assumption) ?_; intro w' hst)
      | (with_reducible refine wpList_box rfl _ _ rfl (by assumption) _ rfl ?_; intro bb w' hst)
      | (with_reducible refine wpList_new rfl _ rfl (by assumption) _ zero_ent ?_; intro bn w' hst)
      | (with_reducible refine wpList_new rfl _ rfl (by assumption) _ zero_run ?_; intro br w' hst))
      refine (does_calls _).mono ?_
      rintro e w10 ⟨rfl, hb10⟩
      have h10 := h9.below hb10
      go_wp2_with fail
      go_ret
      exact ⟨rfl, h10.end⟩
end Go.Proofs.Ytgjgjhikimnknaa
