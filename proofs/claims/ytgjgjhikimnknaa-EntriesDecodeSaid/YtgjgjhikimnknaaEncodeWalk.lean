/- The contract of entries.Encode: the walk. -/
import Derived.Test.YtgjgjhikimnknaaEncode
set_option linter.unusedVariables false
set_option linter.unusedSimpArgs false
namespace Go.Proofs.Ytgjgjhikimnknaa
open Go.RowKit

set_option maxHeartbeats 4000000 in
set_option maxRecDepth 100000 in
theorem encode_calls (v : Value) (l : List Ent) (w : World) (hv : EntRow w v l) (hl : l.length ≤ 1000000) :
    Calls Try.prog 12 #[v] w fun r w' => r = .returned (.tuple #[.string (mkS (encF l).1), .int .i64 (encF l).2]) ∧ Below w.heap.size w w' := by
  obtain ⟨a, cap, rfl, hwf, _, hcells⟩ := hv
  have HW := Lib.hid hwf
  have HC := Lib.hid hcells
  have HE : Hid (encF l = if l.all checkB then (if l.length ≤ 200 then (encBytes l, 0) else ([], 3)) else ([], 2)) := Lib.hid rfl
  generalize encF l = res at *
  clear hwf hcells
  go_enter Try.func12, Try.ntmps12
  go_wp2_with fail
  go_loopw [14] (fun iv wr => ∃ k : Nat, k ≤ l.length ∧ iv = .int .i64 k ∧ Below w.heap.size w wr ∧ Hid (∀ i (h : i < l.length), i < k → checkB l[i] = true)) (fun i _ => l.length - (intOf i).toNat)
  case atStart => exact ⟨0, by omega, rfl, Below.refl _ _, fun i h h2 => by omega⟩
  case round =>
    obtain ⟨k, hk, rfl, hbel, hok⟩ := hrel
    by_cases hlt : k < l.length
    · obtain ⟨x, rfl, hcx⟩ := HC.out (by intro h; simp [h] at hlt)
      have hx0 : x.block < w.heap.size := by
        have h := hcx k hlt 0 (by omega)
        have := World.block_lt_of_cell? (w := w) (a := x.add (k * 39 + 0)) (u := .int .i64 l[k].kind) (by rw [h]; rfl)
        rwa [add_block] at this
      have HCX : Hid (∀ j, j < 39 → wr.cell? ((x.add (k * 39)).add j) = (entC l[k])[j]?) := Lib.hid (fun j hj => by
        rw [add_add2, hbel.cell (by rw [add_block]; exact hx0)]
        exact hcx k hlt j hj)
      have hwk := HW.out l[k] (List.getElem_mem hlt)
      have HWK := Lib.hid hwk
      have hst := St.start wr
      have HS : Hid (checkB l[k] = true → ∀ i (h : i < l.length), i < k + 1 → checkB l[i] = true) := Lib.hid (fun h1 i hi h2 => by
        by_cases h3 : i = k
        · subst h3; exact h1
        · exact hok.out i hi (by omega))
      have HN : Hid (checkB l[k] = false → l.all checkB = false) := Lib.hid (fun h1 => by
        rw [List.all_eq_false]
        exact ⟨l[k], List.getElem_mem hlt, by simp [h1]⟩)
      clear hcx hwk hok
      generalize l[k] = e at *
      go_wp2_with (first
        | (with_reducible refine wpList_lde rfl _ rfl _ rfl e HCX.out ?_)
        | (first
      | (with_reducible refine wpList_neqE rfl _ _ _ rfl _ _ rfl rfl ?_)
      | (with_reducible refine wpList_eqlE rfl _ _ _ rfl _ _ rfl rfl ?_)
      | (with_reducible refine wpList_ld rfl _ _ rfl _ _ rfl (by assumption) ?_)
      | (with_reducible refine wpList_lda rfl _ _ rfl _ _ rfl (by assumption) ?_)
      | (with_reducible refine wpList_stI rfl _ _ _ rfl _ _ rfl _ _ rfl (by assumption) ?_; intro w' hst)
      | (with_reducible refine wpList_stS rfl _ _ _ rfl _ _ rfl _ rfl (by assumption) ?_; intro w' hst)
      | (with_reducible refine wpList_stB rfl _ _ _ rfl _ _ rfl _ rfl (by assumption) ?_; intro w' hst)
      | (with_reducible refine wpList_stA rfl _ _ _ rfl _ _ rfl _ rfl (by assumption) ?_; intro w' hst)
      | (with_reducible refine wpList_box rfl _ _ rfl (by assumption) _ rfl ?_; intro bb w' hst)
      | (with_reducible refine wpList_new rfl _ rfl (by assumption) _ zero_ent ?_; intro bn w' hst)
      | (with_reducible refine wpList_new rfl _ rfl (by assumption) _ zero_run ?_; intro br w' hst)))
      refine (check_calls e HWK.out _).mono ?_
      rintro r w5 ⟨rfl, hb⟩
      have h5 := belw hbel (hst.below hb).end
      clear hb hst hbel HCX
      cases hc : checkB e
      · have HR : Hid (res = ([], 2)) := Lib.hid (by rw [HE.out, HN.out hc]; rfl)
        clear hc HN HS HE
        unfold errOf
        go_wp2_with fail
        go_ret2
        exact ⟨by rw [HR.out]; rfl, h5⟩
      · have HS' : Hid (∀ i (h : i < l.length), i < k + 1 → checkB l[i] = true) := HS.out hc
        clear hc HN HS
        unfold errOf
        go_wp2_with fail
        go_roundw
        case rel => exact ⟨k + 1, by omega, by go_num, h5, HS'⟩
        case measure => simp [intOf]; omega
    · obtain rfl : k = l.length := by omega
      have hall : l.all checkB = true := by
        rw [List.all_eq_true]
        intro e he
        obtain ⟨i, hi, rfl⟩ := List.mem_iff_getElem.1 he
        exact hok.out i hi hi
      have HALL := Lib.hid hall
      clear hok hall hk hlt
      by_cases h200 : l.length ≤ 200
      case neg =>
        have HR : Hid (res = ([], 3)) := Lib.hid (by rw [HE.out, HALL.out, if_pos rfl, if_neg h200])
        have f1 : decide ((200 : Int) < (l.length : Int)) = true := by simp; omega
        clear HE HALL h200
        go_wp2_with fail
        go_ret2
        exact ⟨by rw [HR.out]; rfl, hbel⟩
      case pos =>
        have HR : Hid (res = (encBytes l, 0)) := Lib.hid (by rw [HE.out, HALL.out, if_pos rfl, if_pos h200])
        have f1 : decide ((200 : Int) < (l.length : Int)) = false := by simp; omega
        have HNE : Hid (∀ e ∈ l, fieldsL e.kind ≠ []) := Lib.hid (fun e he h => by
          have := List.all_eq_true.1 HALL.out e he
          simp [checkB, h] at this)
        clear HE HALL
        have hst := St.start wr
        go_wp2_with (with_reducible refine wpList_new rfl _ rfl hst _ zero_builder ?_; intro b wb hsb)
        have hB0 : w.heap.size ≤ wr.heap.size := hbel.size
        have hbb := belw hbel hsb.end
        have hsz := hsb.size
        have hib := IsB.fresh hsb
        generalize wr.heap.size = B at hib hB0 hsz
        clear hsb hst hbel
        refine (put_any _ _ (by omega) _).mono ?_
        rintro r w1 ⟨rfl, hb⟩
        have h1 := belw hbb hb
        have hi1 := hib.old hb
        have hs1 := hb.size
        clear hb hib hbb
        go_wp2_with fail
        refine (write_calls B b [] _ w1 hi1 (by have := putF_size (l.length : Int) 2; simp; omega) (by omega)).mono ?_
        rintro r w2 ⟨rfl, hi2, hk2⟩
        have h2 := h1.trans (hk2.1.mono hB0)
        have hs2 := hk2.1.size
        clear h1 hi1 hk2
        rw [List.nil_append] at hi2
        go_wp2_with fail
        go_loopw [33] (fun iv wr => ∃ k : Nat, k ≤ l.length ∧ iv = .int .i64 k ∧ Below w.heap.size w wr ∧ B ≤ wr.heap.size ∧ Hid (IsB B b (Lib.byteCells (putL l.length 2 ++ (l.take k).flatMap entBytes)) wr)) (fun i _ => l.length - (intOf i).toNat)
        case atStart => exact ⟨0, by omega, rfl, h2, by omega, by rw [List.take_zero, List.flatMap_nil, List.append_nil]; exact hi2⟩
        case round =>
          obtain ⟨k, hk, rfl, hbel, hBw, hib⟩ := hrel
          by_cases hlt : k < l.length
          · obtain ⟨x, rfl, hcx⟩ := HC.out (by intro h; simp [h] at hlt)
            have hx0 : x.block < w.heap.size := by
              have h := hcx k hlt 0 (by omega)
              have := World.block_lt_of_cell? (w := w) (a := x.add (k * 39 + 0)) (u := .int .i64 l[k].kind) (by rw [h]; rfl)
              rwa [add_block] at this
            have HCX : Hid (∀ j, j < 39 → wr.cell? ((x.add (k * 39)).add j) = (entC l[k])[j]?) := Lib.hid (fun j hj => by
              rw [add_add2, hbel.cell (by rw [add_block]; exact hx0)]
              exact hcx k hlt j hj)
            have HWK := Lib.hid (HW.out l[k] (List.getElem_mem hlt))
            have hne := HNE.out l[k] (List.getElem_mem hlt)
            have hst := St.start wr
            have HT : Hid ((l.take (k + 1)).flatMap entBytes = (l.take k).flatMap entBytes ++ entBytes l[k]) := Lib.hid (by rw [List.take_succ_eq_append_getElem hlt, List.flatMap_append]; simp)
            have HL : Hid ((putL l.length 2 ++ (l.take k).flatMap entBytes).length ≤ 39323808) := Lib.hid (by
              have h1 := putL_len l.length 2
              have h2 := ents_len (l := l.take k) (fun e he => (HW.out e (List.mem_of_mem_take he)).hash)
              have h3 : (l.take k).length ≤ 200 := by simp; omega
              rw [List.length_append]
              omega)
            generalize (l.take k).flatMap entBytes = pre at *
            generalize hp0 : putL l.length 2 = p0 at *
            clear hcx
            generalize l[k] = e at *
            go_wp2_with (first
              | (with_reducible refine wpList_lde rfl _ rfl _ rfl e HCX.out ?_)
              | (first
      | (with_reducible refine wpList_neqE rfl _ _ _ rfl _ _ rfl rfl ?_)
      | (with_reducible refine wpList_eqlE rfl _ _ _ rfl _ _ rfl rfl ?_)
      | (with_reducible refine wpList_ld rfl _ _ rfl _ _ rfl (by assumption) ?_)
      | (with_reducible refine wpList_lda rfl _ _ rfl _ _ rfl (by assumption) ?_)
      | (with_reducible refine wpList_stI rfl _ _ _ rfl _ _ rfl _ _ rfl (by assumption) ?_; intro w' hst)
      | (with_reducible refine wpList_stS rfl _ _ _ rfl _ _ rfl _ rfl (by assumption) ?_; intro w' hst)
      | (with_reducible refine wpList_stB rfl _ _ _ rfl _ _ rfl _ rfl (by assumption) ?_; intro w' hst)
      | (with_reducible refine wpList_stA rfl _ _ _ rfl _ _ rfl _ rfl (by assumption) ?_; intro w' hst)
      | (with_reducible refine wpList_box rfl _ _ rfl (by assumption) _ rfl ?_; intro bb w' hst)
      | (with_reducible refine wpList_new rfl _ rfl (by assumption) _ zero_ent ?_; intro bn w' hst)
      | (with_reducible refine wpList_new rfl _ rfl (by assumption) _ zero_run ?_; intro br w' hst)))
            refine (put_any _ _ HWK.out.kind.2 _).mono ?_
            rintro r w5 ⟨rfl, hb⟩
            have hs5 := hst.below hb
            have hb5 := belw hbel hs5.end
            have hi5 : IsB B b (Lib.byteCells (p0 ++ pre)) w5 := hib.out.old hs5.end
            have hz5 : B ≤ w5.heap.size := Nat.le_trans hBw hs5.end.size
            clear hb hst hbel hib HCX
            go_wp2_with fail
            refine (write_calls B b _ _ w5 hi5 (by have := putF_size e.kind 1; have := HL.out; omega) hz5).mono ?_
            rintro r w6 ⟨rfl, hi6, hk6⟩
            have hs6 := hs5.beside hk6 hi5.block (by intro p hp; simp at hp; subst hp; exact ⟨by simp, by simp⟩)
            have hb6 := hb5.trans (hk6.1.mono hB0)
            have hz6 : B ≤ w6.heap.size := Nat.le_trans hz5 hk6.1.size
            clear hk6 hi5 hs5 hb5 hz5
            go_wp2_with (first
      | (with_reducible refine wpList_neqE rfl _ _ _ rfl _ _ rfl rfl ?_)
      | (with_reducible refine wpList_eqlE rfl _ _ _ rfl _ _ rfl rfl ?_)
      | (with_reducible refine wpList_ld rfl _ _ rfl _ _ rfl (by assumption) ?_)
      | (with_reducible refine wpList_lda rfl _ _ rfl _ _ rfl (by assumption) ?_)
      | (with_reducible refine wpList_stI rfl _ _ _ rfl _ _ rfl _ _ rfl (by assumption) ?_; intro w' hst)
      | (with_reducible refine wpList_stS rfl _ _ _ rfl _ _ rfl _ rfl (by assumption) ?_; intro w' hst)
      | (with_reducible refine wpList_stB rfl _ _ _ rfl _ _ rfl _ rfl (by assumption) ?_; intro w' hst)
      | (with_reducible refine wpList_stA rfl _ _ _ rfl _ _ rfl _ rfl (by assumption) ?_; intro w' hst)
      | (with_reducible refine wpList_box rfl _ _ rfl (by assumption) _ rfl ?_; intro bb w' hst)
      | (with_reducible refine wpList_new rfl _ rfl (by assumption) _ zero_ent ?_; intro bn w' hst)
      | (with_reducible refine wpList_new rfl _ rfl (by assumption) _ zero_run ?_; intro br w' hst))
            refine (fields_calls e.kind _).mono ?_
            rintro r w7 ⟨⟨v, rfl, hf⟩, hb⟩
            have HEB : Hid (entBytes e = putL e.kind 1 ++ (fieldsL e.kind).flatMap (fieldBytes e)) := Lib.hid rfl
            have HFR := Lib.hid (fieldsL_range e.kind)
            have hl3 := fieldsL_len e.kind
            generalize fieldsL e.kind = fl at *
            rcases hf with ⟨hl0, rfl⟩ | ⟨_, bF, rfl, hszF, hblk⟩
            · exact absurd hl0 hne
            · have hs7 := (hs6.belowNew hb hszF hblk).rebase
              have hb7 := belw hb6 hb
              have hi7 := hi6.old hb
              have hz7 : B ≤ w7.heap.size := Nat.le_trans hz6 hb.size
              clear hblk hb hszF hs6 hb6 hi6 hz6
              go_wp2_with (first
      | (with_reducible refine wpList_neqE rfl _ _ _ rfl _ _ rfl rfl ?_)
      | (with_reducible refine wpList_eqlE rfl _ _ _ rfl _ _ rfl rfl ?_)
      | (with_reducible refine wpList_ld rfl _ _ rfl _ _ rfl (by assumption) ?_)
      | (with_reducible refine wpList_lda rfl _ _ rfl _ _ rfl (by assumption) ?_)
      | (with_reducible refine wpList_stI rfl _ _ _ rfl _ _ rfl _ _ rfl (by assumption) ?_; intro w' hst)
      | (with_reducible refine wpList_stS rfl _ _ _ rfl _ _ rfl _ rfl (by assumption) ?_; intro w' hst)
      | (with_reducible refine wpList_stB rfl _ _ _ rfl _ _ rfl _ rfl (by assumption) ?_; intro w' hst)
      | (with_reducible refine wpList_stA rfl _ _ _ rfl _ _ rfl _ rfl (by assumption) ?_; intro w' hst)
      | (with_reducible refine wpList_box rfl _ _ rfl (by assumption) _ rfl ?_; intro bb w' hst)
      | (with_reducible refine wpList_new rfl _ rfl (by assumption) _ zero_ent ?_; intro bn w' hst)
      | (with_reducible refine wpList_new rfl _ rfl (by assumption) _ zero_run ?_; intro br w' hst))
              go_loopw [45] (fun jv wq => ∃ j : Nat, j ≤ fl.length ∧ jv = .int .i64 j ∧ Below w.heap.size w wq ∧ B ≤ wq.heap.size ∧ Hid (IsB B b (Lib.byteCells ((p0 ++ pre) ++ (putL e.kind 1 ++ (fl.take j).flatMap (fieldBytes e)))) wq) ∧ St [bF, bn] wq wq [(bF, (fl.map (Value.int .i64)).toArray, 58), (bn, entC e, 27)]) (fun i _ => fl.length - (intOf i).toNat)
              case atStart => exact ⟨0, by omega, rfl, hb7, hz7, by rw [List.take_zero, List.flatMap_nil, List.append_nil]; exact hi7, hs7⟩
              case round =>
                obtain ⟨j, hj, rfl, hbq, hzq, hiq, hsq⟩ := hrel
                by_cases hjl : j < fl.length
                · have hcell := cell_field fl j hjl
                  have hf4 := HFR.out fl[j] (List.getElem_mem hjl)
                  have HTJ : Hid ((fl.take (j + 1)).flatMap (fieldBytes e) = (fl.take j).flatMap (fieldBytes e) ++ fieldBytes e fl[j]) := Lib.hid (by rw [List.take_succ_eq_append_getElem hjl, List.flatMap_append]; simp)
                  have HLJ : Hid (((fl.take j).flatMap (fieldBytes e)).length ≤ 196611) := Lib.hid (by
                    have h1 := flat_len (l := fl.take j) HWK.out.hash
                    have h2 : (fl.take j).length ≤ 3 := by simp; omega
                    omega)
                  generalize (fl.take j).flatMap (fieldBytes e) = mid at *
                  generalize fl[j] = f at *
                  go_wp2_with (first
      | (with_reducible refine wpList_neqE rfl _ _ _ rfl _ _ rfl rfl ?_)
      | (with_reducible refine wpList_eqlE rfl _ _ _ rfl _ _ rfl rfl ?_)
      | (with_reducible refine wpList_ld rfl _ _ rfl _ _ rfl (by assumption) ?_)
      | (with_reducible refine wpList_lda rfl _ _ rfl _ _ rfl (by assumption) ?_)
      | (with_reducible refine wpList_stI rfl _ _ _ rfl _ _ rfl _ _ rfl (by assumption) ?_; intro w' hst)
      | (with_reducible refine wpList_stS rfl _ _ _ rfl _ _ rfl _ rfl (by assumption) ?_; intro w' hst)
      | (with_reducible refine wpList_stB rfl _ _ _ rfl _ _ rfl _ rfl (by assumption) ?_; intro w' hst)
      | (with_reducible refine wpList_stA rfl _ _ _ rfl _ _ rfl _ rfl (by assumption) ?_; intro w' hst)
      | (with_reducible refine wpList_box rfl _ _ rfl (by assumption) _ rfl ?_; intro bb w' hst)
      | (with_reducible refine wpList_new rfl _ rfl (by assumption) _ zero_ent ?_; intro bn w' hst)
      | (with_reducible refine wpList_new rfl _ rfl (by assumption) _ zero_run ?_; intro br w' hst))
                  refine (fieldput_calls f e hf4 HWK.out _).mono ?_
                  rintro r w8 ⟨rfl, hb⟩
                  have hs8 := hsq.below hb
                  have hb8 := belw hbq hb
                  have hi8 := hiq.out.old hb
                  have hz8 : B ≤ w8.heap.size := Nat.le_trans hzq hb.size
                  clear hb hsq hbq hiq hzq
                  go_wp2_with fail
                  refine (write_calls B b _ _ w8 hi8 (by
                    have h1 := fieldBytes_len e HWK.out.hash f
                    have h2 := HLJ.out
                    have h3 := HL.out
                    have h4 := putL_len e.kind 1
                    rw [size_mkS]
                    simp only [List.length_append] at h3 ⊢
                    omega) hz8).mono ?_
                  rintro r w9 ⟨rfl, hi9, hk9⟩
                  have hs9 := hs8.beside hk9 hi8.block (by intro p hp; simp at hp; rcases hp with rfl | rfl <;> exact ⟨by simp, by simp⟩)
                  have hb9 := hb8.trans (hk9.1.mono hB0)
                  have hz9 : B ≤ w9.heap.size := Nat.le_trans hz8 hk9.1.size
                  clear hk9 hi8 hs8 hb8 hz8
                  go_wp2_with fail
                  go_roundw
                  case rel => exact ⟨j + 1, by omega, by go_num, hb9, hz9, by rw [HTJ.out]; rw [ls_mkS] at hi9; exact Lib.hid (by simpa [List.append_assoc] using hi9), hs9⟩
                  case measure => simp [intOf]; omega
                · obtain rfl : j = fl.length := by omega
                  rw [List.take_length] at hiq
                  go_wp2_with fail
                  go_roundw
                  case rel => exact ⟨k + 1, by omega, by go_num, hbq, hzq, by rw [HT.out, HEB.out]; have := hiq.out; exact Lib.hid (by simpa [List.append_assoc] using this)⟩
                  case measure => simp [intOf]; omega
          · obtain rfl : k = l.length := by omega
            rw [List.take_length] at hib
            go_wp2_with fail
            refine (builder_string_calls B b _ wr hib.out hBw).mono ?_
            rintro r w5 ⟨rfl, hi5, hk5⟩
            go_wp2_with fail
            go_ret2
            exact ⟨by rw [HR.out]; rfl, hbel.trans (hk5.1.mono hB0)⟩
end Go.Proofs.Ytgjgjhikimnknaa
