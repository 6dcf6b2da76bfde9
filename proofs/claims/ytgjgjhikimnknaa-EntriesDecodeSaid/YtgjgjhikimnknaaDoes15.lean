/- The chapter's examples (does of sealingwaxlaw15) come out true. -/
import Derived.Test.YtgjgjhikimnknaaRowKit
set_option linter.unusedVariables false
set_option linter.unusedSimpArgs false
namespace Go.Proofs.Ytgjgjhikimnknaa
open Go.RowKit

def nmA : ByteArray := { data := #[97] }
def ex1 : Ent := ⟨1, 0, 0, 0, nmA, zeros 32, 0, 0⟩
def ex2 : Ent := ⟨6, 1, 2, 0, noS, zeros 32, 0, 0⟩
def ex3 : Ent := ⟨1, 0, 1, 0, nmA, zeros 32, 0, 0⟩
theorem ex1_wf : ex1.Wf := entN_wf (by unfold I64; decide) (by unfold I64; decide) (by unfold I64; decide) (by unfold I64; decide) (by decide) rfl (by unfold I64; decide) (by unfold I64; decide)
theorem ex2_wf : ex2.Wf := entN_wf (by unfold I64; decide) (by unfold I64; decide) (by unfold I64; decide) (by unfold I64; decide) (by decide) rfl (by unfold I64; decide) (by unfold I64; decide)
theorem ex3_wf : ex3.Wf := entN_wf (by unfold I64; decide) (by unfold I64; decide) (by unfold I64; decide) (by unfold I64; decide) (by decide) rfl (by unfold I64; decide) (by unfold I64; decide)
def sEx : ByteArray := { data := #[0, 2, 1, 0, 1, 97, 6, 1, 0, 0, 0, 2] }
def sEx0 : ByteArray := { data := #[0, 0] }
def sEx1 : ByteArray := { data := #[0, 1] }
theorem enc_ex : encF [ex1, ex2] = (ls sEx, 0) := by kernel_rfl
theorem enc_ex0 : encF [] = (ls sEx0, 0) := by kernel_rfl
theorem enc_ex3 : encF [ex3] = ([], 2) := by kernel_rfl
theorem dec_ex : (decF sEx).map (sameB · [ex1, ex2]) = some true := by kernel_rfl
theorem dec_ex1 : (decF sEx1).isNone = true := by kernel_rfl

set_option maxHeartbeats 4000000 in
set_option maxRecDepth 100000 in
theorem does_calls (w : World) :
    Calls Try.prog 17 #[] w fun e w' => e = .returned (.bool true) ∧ Below w.heap.size w w' := by
  have hst := St.start w
  have E1 := Lib.hid enc_ex
  have E2 := Lib.hid enc_ex0
  have E3 := Lib.hid enc_ex3
  have mS : Hid (mkS (ls sEx) = sEx) := Lib.hid rfl
  have mS0 : Hid (mkS (ls sEx0) = sEx0) := Lib.hid rfl
  go_enter Try.func17, Try.ntmps17
  go_wp2_with (first
    | (refine wpList_val rfl 12 rfl (.agg (entL ex1).toArray) (fun w => by kernel_rfl) ?_)
    | (refine wpList_val rfl 13 rfl (.agg (entL ex2).toArray) (fun w => by kernel_rfl) ?_)
    | (refine wpList_blk rfl 14 rfl hst ([ex1, ex2].flatMap entL).toArray 27 (fun b => .slice (some ⟨b, 0, none⟩) 2 2) (fun w => by kernel_rfl) ?_; intro b1 w1 hb1 hs1))
  have r1 : EntRow w1 (.slice (some ⟨b1, 0, none⟩) 2 2) [ex1, ex2] := entRow_block (l := [ex1, ex2]) (m := []) (hs1.has (g := b1)) (by simp [ex1_wf, ex2_wf]) (by unfold maxLen; simp)
  clear hs1 hst
  refine (encode_calls _ [ex1, ex2] _ r1 (by simp)).mono ?_
  rintro e w2 ⟨rfl, hb2⟩
  rw [E1.out]
  dsimp only
  rw [mS.out]
  have r2 := r1.old hb2
  have h2 := belw hb1 hb2
  clear hb1 hb2 r1
  go_wp2_with fail
  refine (decode_calls sEx (by decide) _).mono ?_
  rintro e w3 ⟨hp, hb3⟩
  unfold DecPost at hp
  have hdx := dec_ex
  cases hd : decF sEx with
  | none => rw [hd] at hdx; cases hdx
  | some l =>
  rw [hd] at hdx hp
  obtain ⟨v, rfl, hown, hwl⟩ := hp
  have hsame : sameB l [ex1, ex2] = true := by simpa using hdx
  have hll : l.length ≤ maxLen := by
    by_cases h : l.length = [ex1, ex2].length
    · rw [h]; unfold maxLen; simp
    · rw [sameB_len h] at hsame; cases hsame
  have r3 := entRow_owns hown hwl hll
  have r4 := r2.old hb3
  have h3 := belw h2 hb3
  have HS := Lib.hid hsame
  have HR3 := Lib.hid r3
  have HR4 := Lib.hid r4
  clear hdx hd hown hwl hsame hll r2 hb3 h2 r3 r4
  go_wp2_with fail
  refine (encode_calls _ [] _ (entRow_nil _) (by simp)).mono ?_
  rintro e w4 ⟨rfl, hb4⟩
  rw [E2.out]
  dsimp only
  rw [mS0.out]
  have h4 := belw h3 hb4
  have hst := St.start w4
  go_wp2_with (first
    | (refine wpList_val rfl 30 rfl (.agg (entL ex3).toArray) (fun w => by kernel_rfl) ?_)
    | (refine wpList_blk rfl 31 rfl hst ([ex3].flatMap entL).toArray 27 (fun b => .slice (some ⟨b, 0, none⟩) 1 1) (fun w => by kernel_rfl) ?_; intro b5 w5 hb5 hs5))
  have r5 : EntRow w5 (.slice (some ⟨b5, 0, none⟩) 1 1) [ex3] := entRow_block (l := [ex3]) (m := []) (hs5.has (g := b5)) (by simp [ex3_wf]) (by unfold maxLen; simp)
  clear hs5 hst
  refine (encode_calls _ [ex3] _ r5 (by simp)).mono ?_
  rintro e w6 ⟨rfl, hb6⟩
  rw [E3.out]
  dsimp only
  have h6 := belw (belw h4 hb5) hb6
  have HR3 := Lib.hid (((HR3.out.old hb4).old hb5).old hb6)
  have HR4 := Lib.hid (((HR4.out.old hb4).old hb5).old hb6)
  clear hb5 hb6 h4 hb4 h3 r5
  go_wp2_with fail
  refine (decode_calls sEx1 (by decide) _).mono ?_
  rintro e w7 ⟨hp, hb7⟩
  unfold DecPost at hp
  have hdx := dec_ex1
  cases hd : decF sEx1 with
  | some l => rw [hd] at hdx; cases hdx
  | none =>
  rw [hd] at hp
  obtain rfl := hp
  have h7 := belw h6 hb7
  have HR3 := Lib.hid (HR3.out.old hb7)
  have HR4 := Lib.hid (HR4.out.old hb7)
  clear hdx hd hb7 h6
  have q1 : sEx.toList = [0, 2, 1, 0, 1, 97, 6, 1, 0, 0, 0, 2] := by kernel_rfl
  have q2 : sEx0.toList = [0, 0] := by kernel_rfl
  go_wp2_with fail
  refine (same_calls _ _ l [ex1, ex2] _ HR3.out HR4.out).mono ?_
  rintro e w8 ⟨rfl, hb8⟩
  have h8 := belw h7 hb8
  rw [HS.out]
  clear hb8 h7
  go_wp2_with fail
  go_ret
  exact ⟨rfl, h8⟩
end Go.Proofs.Ytgjgjhikimnknaa
