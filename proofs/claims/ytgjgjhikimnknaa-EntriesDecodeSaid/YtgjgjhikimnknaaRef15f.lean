/- The contract of the reference's Encode: it tells what entries.Encode tells. -/
import Derived.Test.YtgjgjhikimnknaaRef15e
set_option linter.unusedVariables false
set_option linter.unusedSimpArgs false
namespace Go.Proofs.Ytgjgjhikimnknaa
open Go.RowKit

theorem cat_more (p0 pre : List UInt8) (e : Ent) : mkS (p0 ++ pre) ++ mkS (entBytes e) = mkS (p0 ++ (pre ++ entBytes e)) := by
  apply eq_mkS
  rw [ls_append, ls_mkS, ls_mkS, List.append_assoc]
set_option maxHeartbeats 4000000 in
set_option maxRecDepth 100000 in
theorem ref_encode_calls (v : Value) (l : List Ent) (w : World) (hv : EntRow w v l) (hl : l.length ≤ 100000) :
    Calls Try.prog 13 #[v] w fun r w' => r = .returned (.tuple #[.string (mkS (encF l).1), .int .i64 (encF l).2]) ∧ Below w.heap.size w w' := by
  obtain ⟨a, cap, rfl, hwf, _, hcells⟩ := hv
  have HW := Lib.hid hwf
  have HC := Lib.hid hcells
  have HE : Hid (encF l = if l.all checkB then (if l.length ≤ 200 then (encBytes l, 0) else ([], 3)) else ([], 2)) := Lib.hid rfl
  generalize encF l = res at *
  clear hwf hcells
  go_enter Try.func13, Try.ntmps13
  go_wp2_with fail
  go_loopw [4] (fun iv wr => ∃ k : Nat, k ≤ l.length ∧ iv = .int .i64 k ∧ Below w.heap.size w wr ∧ Hid (∀ i (h : i < l.length), i < k → checkB l[i] = true)) (fun i _ => l.length - (intOf i).toNat)
  case atStart => exact ⟨0, by omega, rfl, Below.refl _ _, fun i h h2 => by omega⟩
  case round =>
    obtain ⟨k, hk, rfl, hbel, hok⟩ := hrel
    by_cases hlt : k < l.length
    · obtain ⟨x, rfl, hcx⟩ := HC.out (by intro h; simp [h] at hlt)
      have hx0 : x.block < w.heap.size := EntRow.lt (v := undef) k hlt hcx
      have HCX : Hid (∀ j, j < 39 → wr.cell? ((x.add (k * 39)).add j) = (entC l[k])[j]?) := Lib.hid (fun j hj => by
        rw [add_add2, hbel.cell (by rw [add_block]; exact hx0)]
        exact hcx k hlt j hj)
      have HWK := Lib.hid (HW.out l[k] (List.getElem_mem hlt))
      have HS : Hid (checkB l[k] = true → ∀ i (h : i < l.length), i < k + 1 → checkB l[i] = true) := Lib.hid (fun h1 i hi h2 => by
        by_cases h3 : i = k
        · subst h3; exact h1
        · exact hok.out i hi (by omega))
      have HN : Hid (checkB l[k] = false → l.all checkB = false) := Lib.hid (fun h1 => by
        rw [List.all_eq_false]
        exact ⟨l[k], List.getElem_mem hlt, by simp [h1]⟩)
      clear hcx hok
      generalize l[k] = e at *
      go_wp2_with (with_reducible refine wpList_lde rfl _ rfl _ rfl e HCX.out ?_)
      refine (may_calls e HWK.out _).mono ?_
      rintro r w5 ⟨rfl, hb⟩
      have h5 := belw hbel hb
      clear hb hbel HCX
      cases hc : checkB e
      · have HR : Hid (res = ([], 2)) := Lib.hid (by rw [HE.out, HN.out hc]; rfl)
        clear hc HN HS HE
        go_wp2_with fail
        go_ret2
        exact ⟨by rw [HR.out]; rfl, h5⟩
      · have HS' : Hid (∀ i (h : i < l.length), i < k + 1 → checkB l[i] = true) := HS.out hc
        clear hc HN HS
        go_wp2_with fail
        go_roundw
        case rel => exact ⟨k + 1, by omega, by go_num, h5, HS'⟩
        case measure => simp [intOf]; omega
    · obtain rfl : k = l.length := by omega
      have hall : l.all checkB = true := by
        rw [List.all_eq_true]
        intro e he
        obtain ⟨i, hi, rfl⟩ := List.mem_iff_getElem.1 he
        exact hok.out i hi hi
      have HALL := Lib.hid hall
      clear hok hall hk hlt
      by_cases h200 : l.length ≤ 200
      case neg =>
        have HR : Hid (res = ([], 3)) := Lib.hid (by rw [HE.out, HALL.out, if_pos rfl, if_neg h200])
        have f1 : decide ((200 : Int) < (l.length : Int)) = true := by simp; omega
        clear HE HALL h200
        go_wp2_with fail
        go_ret2
        exact ⟨by rw [HR.out]; rfl, hbel⟩
      case pos =>
        have HR : Hid (res = (encBytes l, 0)) := Lib.hid (by rw [HE.out, HALL.out, if_pos rfl, if_pos h200])
        have f1 : decide ((200 : Int) < (l.length : Int)) = false := by simp; omega
        have HOK : Hid (∀ e ∈ l, checkB e = true) := Lib.hid (List.all_eq_true.1 HALL.out)
        clear HE HALL
        go_wp2_with fail
        refine (ref_put_any _ _ (by omega) _).mono ?_
        rintro r w1 ⟨rfl, hb⟩
        have h1 := belw hbel hb
        clear hb hbel
        have hp0 : putF (l.length : Int) 2 = mkS (putL l.length 2) := (mkS_ls _).symm
        rw [hp0]
        have HP0 := putL_len (l.length : Int) 2
        have HEB : Hid (encBytes l = putL (l.length : Int) 2 ++ l.flatMap entBytes) := Lib.hid rfl
        clear hp0
        generalize putL (l.length : Int) 2 = p0 at *
        go_wp2_with fail
        go_loopw [5, 6] (fun sv iv wr => ∃ k : Nat, k ≤ l.length ∧ iv = .int .i64 k ∧ sv = .string (mkS (p0 ++ (l.take k).flatMap entBytes)) ∧ Below w.heap.size w wr) (fun _ i _ => l.length - (intOf i).toNat)
        case atStart => exact ⟨0, by omega, rfl, by rw [List.take_zero, List.flatMap_nil, List.append_nil], h1⟩
        case round =>
          obtain ⟨k, hk, rfl, rfl, hbel⟩ := hrel
          clear h1
          by_cases hlt : k < l.length
          · obtain ⟨x, rfl, hcx⟩ := HC.out (by intro h; simp [h] at hlt)
            have hx0 : x.block < w.heap.size := EntRow.lt (v := undef) k hlt hcx
            have HCX : Hid (∀ j, j < 39 → wr.cell? ((x.add (k * 39)).add j) = (entC l[k])[j]?) := Lib.hid (fun j hj => by
              rw [add_add2, hbel.cell (by rw [add_block]; exact hx0)]
              exact hcx k hlt j hj)
            have HWK := Lib.hid (HW.out l[k] (List.getElem_mem hlt))
            have HCK := Lib.hid (HOK.out l[k] (List.getElem_mem hlt))
            have HT : Hid ((l.take (k + 1)).flatMap entBytes = (l.take k).flatMap entBytes ++ entBytes l[k]) := Lib.hid (by rw [List.take_succ_eq_append_getElem hlt, List.flatMap_append]; simp)
            have hL : (p0 ++ (l.take k).flatMap entBytes).length ≤ 39323808 := by
              have h2 := ents_len (l := l.take k) (fun e he => (HW.out e (List.mem_of_mem_take he)).hash)
              have h3 : (l.take k).length ≤ 200 := by simp; omega
              rw [List.length_append]
              omega
            have hE := entBytes_len l[k] HWK.out.hash
            have HCM := Lib.hid (cat_more p0 ((l.take k).flatMap entBytes) l[k])
            generalize (l.take k).flatMap entBytes = pre at *
            clear hcx
            generalize l[k] = e at *
            have hz1 : (mkS (p0 ++ pre)).size ≤ 39323808 := hL
            have hz2 : (mkS (entBytes e)).size ≤ 196619 := hE
            have C1 := Lib.hid (one_calls e HWK.out HCK.out)
            clear hL hE
            generalize mkS (p0 ++ pre) = S1 at *
            generalize mkS (entBytes e) = S2 at *
            have f4 : ¬ 9223372036854775807 < S1.size + S2.size := by omega
            go_wp2_with (with_reducible refine wpList_lde rfl _ rfl _ rfl e HCX.out ?_)
            refine (C1.out _).mono ?_
            rintro r w5 ⟨rfl, hb⟩
            have h5 := belw hbel hb
            clear hb hbel HCX
            go_wp2_with fail
            go_roundw
            case rel => exact ⟨k + 1, by omega, by go_num, by rw [HT.out, HCM.out], h5⟩
            case measure => simp [intOf]; omega
          · obtain rfl : k = l.length := by omega
            rw [List.take_length]
            go_wp2_with fail
            go_ret2
            exact ⟨by rw [HR.out, HEB.out]; rfl, hbel⟩
end Go.Proofs.Ytgjgjhikimnknaa
