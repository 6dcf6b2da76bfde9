/- The contract of packs.Join. -/
import Derived.Test.YtigihgbgdillpaaGreatDoorP40
set_option linter.unusedVariables false
set_option linter.unusedSimpArgs false
set_option maxRecDepth 100000
namespace Go.Proofs.YtigihgbgdillpaaGreatDoor
open Go.RowKit

theorem e_eqs {ρ : Operand → Value} {o : Oper} {x y : Operand} {T U : TypeId} {s u : ByteArray} {b : Bool} (ho : o.op = .binOp .eql T x y U) (hx : ρ x = .string s) (hy : ρ y = .string u) (hb : (s.toList == u.toList) = b) (w : World) : (execOp ρ o).run Tryz.prog w = .ok (.value (.bool b)) w := by
  unfold execOp
  rw [ho]
  have hg : (eqGuard .eql T x y (.string s) (.string u)).run Tryz.prog w = .ok () w := rfl
  simp only [hx, hy, Sem.run_bind, hg, Result.andThen_ok, binOp_string_eql, hb]
  rfl
theorem Sx.endB {w0 w1 w : World} {L : List Blk} {D : Dat} {F : List Nat} (h : Sx [] w1 w L D F) (hb : Below w0.heap.size w0 w1) : Below w0.heap.size w0 w := hb.trans (h.end.mono hb.size)
/-- What is wrong with frame i of n. -/
def joinBad (kind ep : Int) (n i : Nat) (f : Fr × Int) : Bool :=
  decide (f.2 ≠ 0) || (decide (f.1.kind ≠ kind) || (decide (f.1.epoch ≠ ep) || (decide (f.1.index ≠ i) || ((!decide ((f.1.data.size : Int) = 112) && !decide ((i : Int) = (n : Int) - 1)) || ((f.1.data.toList == noS.toList) && decide ((0 : Int) < i))))))
def joinGo (kind ep : Int) (n : Nat) : Nat → List ByteArray → List UInt8 → Option (List UInt8)
  | _, [], acc => some acc
  | i, s :: l, acc => if joinBad kind ep n i (frDecF (ls s)) then none else joinGo kind ep n (i + 1) l (acc ++ ls (frDecF (ls s)).1.data)
def joinF (kind ep : Int) (l : List ByteArray) : List UInt8 × Int :=
  if l.length = 0 then ([], 10) else match joinGo kind ep l.length 0 l [] with
    | none => ([], 10)
    | some s => (s, 0)
set_option maxHeartbeats 8000000 in
theorem join_calls {D : Dat} {p : Option Addr} {c : Nat} {l : List ByteArray} (w : World) (hr : RowAt D 9 1 strL p c l) (hD : Holds D w) (kind ep : Int) (hs : ∀ s ∈ l, s.size ≤ 1000000) (hl : l.length ≤ 100000) (hU : GSums w) :
    Calls Tryz.prog 84 #[.slice p l.length c, .int .u8 kind, .int .i64 ep] w (Ret (.tuple #[.string (mkS (joinF kind ep l).1), .int .i64 (joinF kind ep l).2]) w) := by
  have hst := Sx.start0 w hD
  have HDt := Lib.hid (fun wx (hb : Below w.heap.size w wx) => ((Sx.start0 w hD).below hb).data)
  obtain ⟨R, hR⟩ : ∃ R, joinF kind ep l = R := ⟨_, rfl⟩
  rw [hR]
  have HR0 : ∀ {u : List UInt8 × Int}, R = u → Ending.returned (.tuple #[.string (mkS u.1), .int .i64 u.2]) = .returned (.tuple #[.string (mkS R.1), .int .i64 R.2]) := fun e => by rw [e]
  by_cases hz : l.length = 0
  · have HR : Hid (R = ([], 10)) := Lib.hid (by rw [← hR]; unfold joinF; rw [if_pos hz])
    go_enter Tryz.func84, Tryz.ntmps84
    go_wp2_with (with_reducible (refine xnw rfl rfl hst ?_;clear hst;intro bn w' hst))
    go_ret2
    exact ⟨HR0 HR.out, hst.end⟩
  have HC0 : Hid ((match joinGo kind ep l.length 0 (l.drop 0) [] with | none => ([], 10) | some s => (s, 0)) = R) := Lib.hid (by rw [← hR]; unfold joinF; rw [if_neg hz]; rfl)
  clear hR
  have hne : ((l.length : Int) == 0) = false := by rw [beq_eq_false_iff_ne]; omega
  go_enter Tryz.func84, Tryz.ntmps84
  go_wp2_with (with_reducible (refine xnw rfl rfl hst ?_;clear hst;intro bn w' hst))
  obtain ⟨b8, rfl⟩ : ∃ b, b = bn := ⟨_, rfl⟩
  go_loopw [20] (fun iv wr => ∃ (k : Nat) (acc : List UInt8), k ≤ l.length ∧ iv = .int .i64 k ∧ Hid ((match joinGo kind ep l.length k (l.drop k) acc with | none => ([], 10) | some s => (s, 0)) = R) ∧ Hid (acc.length ≤ 255 * k) ∧ Below w.heap.size w wr ∧ IsB w.heap.size b8 (Lib.byteCells acc) wr) (fun iv _ => l.length - (intOf iv).toNat)
  case atStart => exact ⟨0, [], Nat.zero_le _, by go_num, HC0, Lib.hid (Nat.le_refl _), hst.end, IsB.fresh hst.st⟩
  case round =>
    clear hst HC0
    obtain ⟨k, acc, hk, rfl, HC, HLe, hb, hIs⟩ := hrel
    by_cases hlt : k < l.length
    · obtain ⟨g, off, rfl⟩ := hr.at_some hlt
      have hld := hr.ld1 hlt rfl
      have hxs := hs _ (List.getElem_mem hlt)
      have hC := HC.out
      rw [List.drop_eq_getElem_cons hlt, joinGo] at hC
      generalize l[k] = x at *
      have hda := frDecF_data (ls x)
      have HDc := Lib.hid (fun wx (h : Sx [] wr wx [] D []) => frDec_calls x wx hxs (hU.below (h.endB hb)))
      generalize frDecF (ls x) = q at *
      obtain ⟨⟨kd, e2, ix, da⟩, er⟩ := q
      unfold joinBad at hC
      simp only at hC hda HDc
      obtain ⟨d0, h0⟩ : ∃ d, decide (er ≠ 0) = d := ⟨_, rfl⟩
      obtain ⟨d1, h1⟩ : ∃ d, decide (kd ≠ kind) = d := ⟨_, rfl⟩
      obtain ⟨d2, h2⟩ : ∃ d, decide (e2 ≠ ep) = d := ⟨_, rfl⟩
      obtain ⟨d3, h3⟩ : ∃ d, decide (ix ≠ (k : Int)) = d := ⟨_, rfl⟩
      obtain ⟨dF, hF⟩ : ∃ d, decide ((da.size : Int) = 112) = d := ⟨_, rfl⟩
      obtain ⟨dL, hL⟩ : ∃ d, decide ((k : Int) = (l.length : Int) - 1) = d := ⟨_, rfl⟩
      obtain ⟨d4, h4⟩ : ∃ d, (da.toList == noS.toList) = d := ⟨_, rfl⟩
      obtain ⟨d5, h5⟩ : ∃ d, decide ((0 : Int) < (k : Int)) = d := ⟨_, rfl⟩
      rw [h0, h1, h2, h3, hF, hL, h4, h5] at hC
      have HRb : Hid ((d0 || (d1 || (d2 || (d3 || ((!dF && !dL) || (d4 && d5)))))) = true → Ending.returned (.tuple #[.string (mkS []), .int .i64 10]) = .returned (.tuple #[.string (mkS R.1), .int .i64 R.2])) := Lib.hid (fun h => by
        rw [if_pos h] at hC
        exact HR0 (u := ([], 10)) hC.symm)
      have HRn : Hid ((d0 || (d1 || (d2 || (d3 || ((!dF && !dL) || (d4 && d5)))))) = false → Hid ((match joinGo kind ep l.length (k + 1) (l.drop (k + 1)) (acc ++ ls da) with | none => ([], 10) | some s => (s, 0)) = R)) := Lib.hid (fun h => Lib.hid (by
        rw [if_neg (by rw [h]; simp)] at hC
        exact hC))
      have HLn : Hid ((acc ++ ls da).length ≤ 255 * (k + 1)) := Lib.hid (by
        have := HLe.out
        rw [List.length_append, ls_length]
        omega)
      clear hC HC
      have hst := Sx.start0 wr (HDt.out wr hb)
-- JOINCASES
      cases d0
      · cases d1
        · cases d2
          · cases d3
            · cases dF
              · cases dL
                · go_wp2_with (first | (with_reducible (refine xval rfl 40 rfl (.bool false) (fun w => Fx.e_neq rfl rfl rfl h0 w) ?_)) | (with_reducible (refine xval rfl 45 rfl (.bool false) (fun w => Fx.e_neq rfl rfl rfl h1 w) ?_)) | (with_reducible (refine xval rfl 51 rfl (.bool false) (fun w => Fx.e_neq rfl rfl rfl h2 w) ?_)) | (with_reducible (refine xval rfl 57 rfl (.bool false) (fun w => Fx.e_neq rfl rfl rfl h3 w) ?_)) | (with_reducible (refine xval rfl 33 rfl (.bool false) (fun w => Fx.e_eql rfl rfl rfl hF w) ?_)) | (with_reducible (refine xval rfl 38 rfl (.bool false) (fun w => Fx.e_eql rfl rfl rfl hL w) ?_)) | (with_reducible (refine xval rfl 70 rfl (.bool d4) (fun w => e_eqs rfl rfl rfl h4 w) ?_)) | (with_reducible (refine xval rfl 73 rfl (.bool d5) (fun w => Fx.e_gtr rfl rfl rfl h5 w) ?_)) | (with_reducible first|refine x1 rfl rfl rfl hst ?_|refine xd rfl rfl rfl hst ?_|(refine xsa rfl rfl rfl rfl hst ?_;clear hst;intro w' hst)|(refine xnw rfl rfl hst ?_;clear hst;intro bn w' hst)) | (with_reducible (refine callE (HDc.out _ hst) hst ?_; clear hst; intro w' hst)))
                  go_ret2
                  exact ⟨HRb.out (by simp), hst.endB hb⟩
                · cases d4
                  · go_wp2_with (first | (with_reducible (refine xval rfl 40 rfl (.bool false) (fun w => Fx.e_neq rfl rfl rfl h0 w) ?_)) | (with_reducible (refine xval rfl 45 rfl (.bool false) (fun w => Fx.e_neq rfl rfl rfl h1 w) ?_)) | (with_reducible (refine xval rfl 51 rfl (.bool false) (fun w => Fx.e_neq rfl rfl rfl h2 w) ?_)) | (with_reducible (refine xval rfl 57 rfl (.bool false) (fun w => Fx.e_neq rfl rfl rfl h3 w) ?_)) | (with_reducible (refine xval rfl 33 rfl (.bool false) (fun w => Fx.e_eql rfl rfl rfl hF w) ?_)) | (with_reducible (refine xval rfl 38 rfl (.bool true) (fun w => Fx.e_eql rfl rfl rfl hL w) ?_)) | (with_reducible (refine xval rfl 70 rfl (.bool false) (fun w => e_eqs rfl rfl rfl h4 w) ?_)) | (with_reducible (refine xval rfl 73 rfl (.bool d5) (fun w => Fx.e_gtr rfl rfl rfl h5 w) ?_)) | (with_reducible first|refine x1 rfl rfl rfl hst ?_|refine xd rfl rfl rfl hst ?_|(refine xsa rfl rfl rfl rfl hst ?_;clear hst;intro w' hst)|(refine xnw rfl rfl hst ?_;clear hst;intro bn w' hst)) | (with_reducible (refine callE (HDc.out _ hst) hst ?_; clear hst; intro w' hst)))
                    refine (write_calls w.heap.size b8 acc da _ (hIs.old hst.end) (by have := HLe.out; omega) (hst.endB hb).size).mono ?_
                    rintro e w8 ⟨rfl, hIs8, hK8⟩
                    have hb8 := (hst.endB hb).trans hK8.1
                    clear hst
                    go_wp2_with fail
                    go_roundw
                    case rel => exact ⟨k + 1, acc ++ ls da, by omega, by go_num, HRn.out (by simp), Lib.hid (HLn.out), hb8, hIs8⟩
                    case measure => simp [intOf]; omega
                  · cases d5
                    · go_wp2_with (first | (with_reducible (refine xval rfl 40 rfl (.bool false) (fun w => Fx.e_neq rfl rfl rfl h0 w) ?_)) | (with_reducible (refine xval rfl 45 rfl (.bool false) (fun w => Fx.e_neq rfl rfl rfl h1 w) ?_)) | (with_reducible (refine xval rfl 51 rfl (.bool false) (fun w => Fx.e_neq rfl rfl rfl h2 w) ?_)) | (with_reducible (refine xval rfl 57 rfl (.bool false) (fun w => Fx.e_neq rfl rfl rfl h3 w) ?_)) | (with_reducible (refine xval rfl 33 rfl (.bool false) (fun w => Fx.e_eql rfl rfl rfl hF w) ?_)) | (with_reducible (refine xval rfl 38 rfl (.bool true) (fun w => Fx.e_eql rfl rfl rfl hL w) ?_)) | (with_reducible (refine xval rfl 70 rfl (.bool true) (fun w => e_eqs rfl rfl rfl h4 w) ?_)) | (with_reducible (refine xval rfl 73 rfl (.bool false) (fun w => Fx.e_gtr rfl rfl rfl h5 w) ?_)) | (with_reducible first|refine x1 rfl rfl rfl hst ?_|refine xd rfl rfl rfl hst ?_|(refine xsa rfl rfl rfl rfl hst ?_;clear hst;intro w' hst)|(refine xnw rfl rfl hst ?_;clear hst;intro bn w' hst)) | (with_reducible (refine callE (HDc.out _ hst) hst ?_; clear hst; intro w' hst)))
                      refine (write_calls w.heap.size b8 acc da _ (hIs.old hst.end) (by have := HLe.out; omega) (hst.endB hb).size).mono ?_
                      rintro e w8 ⟨rfl, hIs8, hK8⟩
                      have hb8 := (hst.endB hb).trans hK8.1
                      clear hst
                      go_wp2_with fail
                      go_roundw
                      case rel => exact ⟨k + 1, acc ++ ls da, by omega, by go_num, HRn.out (by simp), Lib.hid (HLn.out), hb8, hIs8⟩
                      case measure => simp [intOf]; omega
                    · go_wp2_with (first | (with_reducible (refine xval rfl 40 rfl (.bool false) (fun w => Fx.e_neq rfl rfl rfl h0 w) ?_)) | (with_reducible (refine xval rfl 45 rfl (.bool false) (fun w => Fx.e_neq rfl rfl rfl h1 w) ?_)) | (with_reducible (refine xval rfl 51 rfl (.bool false) (fun w => Fx.e_neq rfl rfl rfl h2 w) ?_)) | (with_reducible (refine xval rfl 57 rfl (.bool false) (fun w => Fx.e_neq rfl rfl rfl h3 w) ?_)) | (with_reducible (refine xval rfl 33 rfl (.bool false) (fun w => Fx.e_eql rfl rfl rfl hF w) ?_)) | (with_reducible (refine xval rfl 38 rfl (.bool true) (fun w => Fx.e_eql rfl rfl rfl hL w) ?_)) | (with_reducible (refine xval rfl 70 rfl (.bool true) (fun w => e_eqs rfl rfl rfl h4 w) ?_)) | (with_reducible (refine xval rfl 73 rfl (.bool true) (fun w => Fx.e_gtr rfl rfl rfl h5 w) ?_)) | (with_reducible first|refine x1 rfl rfl rfl hst ?_|refine xd rfl rfl rfl hst ?_|(refine xsa rfl rfl rfl rfl hst ?_;clear hst;intro w' hst)|(refine xnw rfl rfl hst ?_;clear hst;intro bn w' hst)) | (with_reducible (refine callE (HDc.out _ hst) hst ?_; clear hst; intro w' hst)))
                      go_ret2
                      exact ⟨HRb.out (by simp), hst.endB hb⟩
              · cases d4
                · go_wp2_with (first | (with_reducible (refine xval rfl 40 rfl (.bool false) (fun w => Fx.e_neq rfl rfl rfl h0 w) ?_)) | (with_reducible (refine xval rfl 45 rfl (.bool false) (fun w => Fx.e_neq rfl rfl rfl h1 w) ?_)) | (with_reducible (refine xval rfl 51 rfl (.bool false) (fun w => Fx.e_neq rfl rfl rfl h2 w) ?_)) | (with_reducible (refine xval rfl 57 rfl (.bool false) (fun w => Fx.e_neq rfl rfl rfl h3 w) ?_)) | (with_reducible (refine xval rfl 33 rfl (.bool true) (fun w => Fx.e_eql rfl rfl rfl hF w) ?_)) | (with_reducible (refine xval rfl 38 rfl (.bool dL) (fun w => Fx.e_eql rfl rfl rfl hL w) ?_)) | (with_reducible (refine xval rfl 70 rfl (.bool false) (fun w => e_eqs rfl rfl rfl h4 w) ?_)) | (with_reducible (refine xval rfl 73 rfl (.bool d5) (fun w => Fx.e_gtr rfl rfl rfl h5 w) ?_)) | (with_reducible first|refine x1 rfl rfl rfl hst ?_|refine xd rfl rfl rfl hst ?_|(refine xsa rfl rfl rfl rfl hst ?_;clear hst;intro w' hst)|(refine xnw rfl rfl hst ?_;clear hst;intro bn w' hst)) | (with_reducible (refine callE (HDc.out _ hst) hst ?_; clear hst; intro w' hst)))
                  refine (write_calls w.heap.size b8 acc da _ (hIs.old hst.end) (by have := HLe.out; omega) (hst.endB hb).size).mono ?_
                  rintro e w8 ⟨rfl, hIs8, hK8⟩
                  have hb8 := (hst.endB hb).trans hK8.1
                  clear hst
                  go_wp2_with fail
                  go_roundw
                  case rel => exact ⟨k + 1, acc ++ ls da, by omega, by go_num, HRn.out (by simp), Lib.hid (HLn.out), hb8, hIs8⟩
                  case measure => simp [intOf]; omega
                · cases d5
                  · go_wp2_with (first | (with_reducible (refine xval rfl 40 rfl (.bool false) (fun w => Fx.e_neq rfl rfl rfl h0 w) ?_)) | (with_reducible (refine xval rfl 45 rfl (.bool false) (fun w => Fx.e_neq rfl rfl rfl h1 w) ?_)) | (with_reducible (refine xval rfl 51 rfl (.bool false) (fun w => Fx.e_neq rfl rfl rfl h2 w) ?_)) | (with_reducible (refine xval rfl 57 rfl (.bool false) (fun w => Fx.e_neq rfl rfl rfl h3 w) ?_)) | (with_reducible (refine xval rfl 33 rfl (.bool true) (fun w => Fx.e_eql rfl rfl rfl hF w) ?_)) | (with_reducible (refine xval rfl 38 rfl (.bool dL) (fun w => Fx.e_eql rfl rfl rfl hL w) ?_)) | (with_reducible (refine xval rfl 70 rfl (.bool true) (fun w => e_eqs rfl rfl rfl h4 w) ?_)) | (with_reducible (refine xval rfl 73 rfl (.bool false) (fun w => Fx.e_gtr rfl rfl rfl h5 w) ?_)) | (with_reducible first|refine x1 rfl rfl rfl hst ?_|refine xd rfl rfl rfl hst ?_|(refine xsa rfl rfl rfl rfl hst ?_;clear hst;intro w' hst)|(refine xnw rfl rfl hst ?_;clear hst;intro bn w' hst)) | (with_reducible (refine callE (HDc.out _ hst) hst ?_; clear hst; intro w' hst)))
                    refine (write_calls w.heap.size b8 acc da _ (hIs.old hst.end) (by have := HLe.out; omega) (hst.endB hb).size).mono ?_
                    rintro e w8 ⟨rfl, hIs8, hK8⟩
                    have hb8 := (hst.endB hb).trans hK8.1
                    clear hst
                    go_wp2_with fail
                    go_roundw
                    case rel => exact ⟨k + 1, acc ++ ls da, by omega, by go_num, HRn.out (by simp), Lib.hid (HLn.out), hb8, hIs8⟩
                    case measure => simp [intOf]; omega
                  · go_wp2_with (first | (with_reducible (refine xval rfl 40 rfl (.bool false) (fun w => Fx.e_neq rfl rfl rfl h0 w) ?_)) | (with_reducible (refine xval rfl 45 rfl (.bool false) (fun w => Fx.e_neq rfl rfl rfl h1 w) ?_)) | (with_reducible (refine xval rfl 51 rfl (.bool false) (fun w => Fx.e_neq rfl rfl rfl h2 w) ?_)) | (with_reducible (refine xval rfl 57 rfl (.bool false) (fun w => Fx.e_neq rfl rfl rfl h3 w) ?_)) | (with_reducible (refine xval rfl 33 rfl (.bool true) (fun w => Fx.e_eql rfl rfl rfl hF w) ?_)) | (with_reducible (refine xval rfl 38 rfl (.bool dL) (fun w => Fx.e_eql rfl rfl rfl hL w) ?_)) | (with_reducible (refine xval rfl 70 rfl (.bool true) (fun w => e_eqs rfl rfl rfl h4 w) ?_)) | (with_reducible (refine xval rfl 73 rfl (.bool true) (fun w => Fx.e_gtr rfl rfl rfl h5 w) ?_)) | (with_reducible first|refine x1 rfl rfl rfl hst ?_|refine xd rfl rfl rfl hst ?_|(refine xsa rfl rfl rfl rfl hst ?_;clear hst;intro w' hst)|(refine xnw rfl rfl hst ?_;clear hst;intro bn w' hst)) | (with_reducible (refine callE (HDc.out _ hst) hst ?_; clear hst; intro w' hst)))
                    go_ret2
                    exact ⟨HRb.out (by simp), hst.endB hb⟩
            · go_wp2_with (first | (with_reducible (refine xval rfl 40 rfl (.bool false) (fun w => Fx.e_neq rfl rfl rfl h0 w) ?_)) | (with_reducible (refine xval rfl 45 rfl (.bool false) (fun w => Fx.e_neq rfl rfl rfl h1 w) ?_)) | (with_reducible (refine xval rfl 51 rfl (.bool false) (fun w => Fx.e_neq rfl rfl rfl h2 w) ?_)) | (with_reducible (refine xval rfl 57 rfl (.bool true) (fun w => Fx.e_neq rfl rfl rfl h3 w) ?_)) | (with_reducible (refine xval rfl 33 rfl (.bool dF) (fun w => Fx.e_eql rfl rfl rfl hF w) ?_)) | (with_reducible (refine xval rfl 38 rfl (.bool dL) (fun w => Fx.e_eql rfl rfl rfl hL w) ?_)) | (with_reducible (refine xval rfl 70 rfl (.bool d4) (fun w => e_eqs rfl rfl rfl h4 w) ?_)) | (with_reducible (refine xval rfl 73 rfl (.bool d5) (fun w => Fx.e_gtr rfl rfl rfl h5 w) ?_)) | (with_reducible first|refine x1 rfl rfl rfl hst ?_|refine xd rfl rfl rfl hst ?_|(refine xsa rfl rfl rfl rfl hst ?_;clear hst;intro w' hst)|(refine xnw rfl rfl hst ?_;clear hst;intro bn w' hst)) | (with_reducible (refine callE (HDc.out _ hst) hst ?_; clear hst; intro w' hst)))
              go_ret2
              exact ⟨HRb.out (by simp), hst.endB hb⟩
          · go_wp2_with (first | (with_reducible (refine xval rfl 40 rfl (.bool false) (fun w => Fx.e_neq rfl rfl rfl h0 w) ?_)) | (with_reducible (refine xval rfl 45 rfl (.bool false) (fun w => Fx.e_neq rfl rfl rfl h1 w) ?_)) | (with_reducible (refine xval rfl 51 rfl (.bool true) (fun w => Fx.e_neq rfl rfl rfl h2 w) ?_)) | (with_reducible (refine xval rfl 57 rfl (.bool d3) (fun w => Fx.e_neq rfl rfl rfl h3 w) ?_)) | (with_reducible (refine xval rfl 33 rfl (.bool dF) (fun w => Fx.e_eql rfl rfl rfl hF w) ?_)) | (with_reducible (refine xval rfl 38 rfl (.bool dL) (fun w => Fx.e_eql rfl rfl rfl hL w) ?_)) | (with_reducible (refine xval rfl 70 rfl (.bool d4) (fun w => e_eqs rfl rfl rfl h4 w) ?_)) | (with_reducible (refine xval rfl 73 rfl (.bool d5) (fun w => Fx.e_gtr rfl rfl rfl h5 w) ?_)) | (with_reducible first|refine x1 rfl rfl rfl hst ?_|refine xd rfl rfl rfl hst ?_|(refine xsa rfl rfl rfl rfl hst ?_;clear hst;intro w' hst)|(refine xnw rfl rfl hst ?_;clear hst;intro bn w' hst)) | (with_reducible (refine callE (HDc.out _ hst) hst ?_; clear hst; intro w' hst)))
            go_ret2
            exact ⟨HRb.out (by simp), hst.endB hb⟩
        · go_wp2_with (first | (with_reducible (refine xval rfl 40 rfl (.bool false) (fun w => Fx.e_neq rfl rfl rfl h0 w) ?_)) | (with_reducible (refine xval rfl 45 rfl (.bool true) (fun w => Fx.e_neq rfl rfl rfl h1 w) ?_)) | (with_reducible (refine xval rfl 51 rfl (.bool d2) (fun w => Fx.e_neq rfl rfl rfl h2 w) ?_)) | (with_reducible (refine xval rfl 57 rfl (.bool d3) (fun w => Fx.e_neq rfl rfl rfl h3 w) ?_)) | (with_reducible (refine xval rfl 33 rfl (.bool dF) (fun w => Fx.e_eql rfl rfl rfl hF w) ?_)) | (with_reducible (refine xval rfl 38 rfl (.bool dL) (fun w => Fx.e_eql rfl rfl rfl hL w) ?_)) | (with_reducible (refine xval rfl 70 rfl (.bool d4) (fun w => e_eqs rfl rfl rfl h4 w) ?_)) | (with_reducible (refine xval rfl 73 rfl (.bool d5) (fun w => Fx.e_gtr rfl rfl rfl h5 w) ?_)) | (with_reducible first|refine x1 rfl rfl rfl hst ?_|refine xd rfl rfl rfl hst ?_|(refine xsa rfl rfl rfl rfl hst ?_;clear hst;intro w' hst)|(refine xnw rfl rfl hst ?_;clear hst;intro bn w' hst)) | (with_reducible (refine callE (HDc.out _ hst) hst ?_; clear hst; intro w' hst)))
          go_ret2
          exact ⟨HRb.out (by simp), hst.endB hb⟩
      · go_wp2_with (first | (with_reducible (refine xval rfl 40 rfl (.bool true) (fun w => Fx.e_neq rfl rfl rfl h0 w) ?_)) | (with_reducible (refine xval rfl 45 rfl (.bool d1) (fun w => Fx.e_neq rfl rfl rfl h1 w) ?_)) | (with_reducible (refine xval rfl 51 rfl (.bool d2) (fun w => Fx.e_neq rfl rfl rfl h2 w) ?_)) | (with_reducible (refine xval rfl 57 rfl (.bool d3) (fun w => Fx.e_neq rfl rfl rfl h3 w) ?_)) | (with_reducible (refine xval rfl 33 rfl (.bool dF) (fun w => Fx.e_eql rfl rfl rfl hF w) ?_)) | (with_reducible (refine xval rfl 38 rfl (.bool dL) (fun w => Fx.e_eql rfl rfl rfl hL w) ?_)) | (with_reducible (refine xval rfl 70 rfl (.bool d4) (fun w => e_eqs rfl rfl rfl h4 w) ?_)) | (with_reducible (refine xval rfl 73 rfl (.bool d5) (fun w => Fx.e_gtr rfl rfl rfl h5 w) ?_)) | (with_reducible first|refine x1 rfl rfl rfl hst ?_|refine xd rfl rfl rfl hst ?_|(refine xsa rfl rfl rfl rfl hst ?_;clear hst;intro w' hst)|(refine xnw rfl rfl hst ?_;clear hst;intro bn w' hst)) | (with_reducible (refine callE (HDc.out _ hst) hst ?_; clear hst; intro w' hst)))
        go_ret2
        exact ⟨HRb.out (by simp), hst.endB hb⟩
-- JOINEND
    · obtain rfl : k = l.length := by omega
      have HRe : Hid (R = (acc, 0)) := Lib.hid (by have := HC.out; rw [List.drop_length, joinGo] at this; exact this.symm)
      go_wp2_with fail
      refine (builder_string_calls w.heap.size b8 acc _ hIs hb.size).mono ?_
      rintro e w8 ⟨rfl, hIs8, hK8⟩
      go_wp2_with fail
      go_ret2
      exact ⟨HR0 HRe.out, hb.trans hK8.1⟩
end Go.Proofs.YtigihgbgdillpaaGreatDoor
