/- The walk of WordsGet: the law returns true. -/
import Derived.Test.YtbbokdnkabbmfaaLawKit
set_option linter.unusedVariables false
set_option linter.unusedSimpArgs false
namespace Go.Proofs.Ytbbokdnkabbmfaa
open Go.RowKit

set_option maxRecDepth 100000 in
set_option maxHeartbeats 2000000 in
theorem wordsGet_walk (a0 : ByteArray) (a1 a2 : Int) (w0 : a0.size ≤ 140737488351232) (w1 : (Lit.int .i64 a1).wf = true) (w2 : (Lit.int .i64 a2).wf = true) (w : World) :
    Calls Try.prog 7 #[.string a0, .int .i64 a1, .int .i64 a2] w fun e w' => e = .returned (.bool true) ∧ Below w.heap.size w w' := by
  have hm : a0.size ≤ maxLen := by unfold maxLen; omega
  clear w1 w2
  obtain ⟨n, nx, ok, h1⟩ := getV_form (getF a0 a1 a2)
  obtain ⟨t, tx, tk, h2⟩ := getTextV_form (getTextF a0 a1)
  obtain ⟨h, hx, hk, hl, h3⟩ := getHashV_form a0 a1
  have H1 := Lib.hid h1
  have H2 := Lib.hid h2
  have H3 := Lib.hid h3
  have heq := eql_hash h h hl hl
  have hgd := fun x y => guard_hash .eql x y h h
  clear h1 h2 h3
  go_enter Try.func7, Try.ntmps7
  go_wp2_with fail
  refine (get_any _ _ _ hm _).mono ?_
  rintro e w1 ⟨rfl, rfl⟩
  rw [H1.out]
  go_wp2_with fail
  refine (ref_get_any _ _ _ hm _).mono ?_
  rintro e w1 ⟨rfl, rfl⟩
  rw [H1.out]
  go_wp2_with fail
  refine (get_text_calls _ _ hm _).mono ?_
  rintro e w1 ⟨rfl, rfl⟩
  rw [H2.out]
  go_wp2_with fail
  refine (ref_get_text_calls _ _ hm _).mono ?_
  rintro e w1 ⟨rfl, rfl⟩
  rw [H2.out]
  go_wp2_with fail
  refine (get_hash_calls _ _ hm _).mono ?_
  rintro e w1 ⟨rfl, hb1⟩
  rw [H3.out]
  go_wp2_with (first
    | (with_reducible refine wpList_alloc_row rfl 37 rfl (arrC (zeros 32)) alloc_hash ?_)
    | (with_reducible refine wpList_store_hash rfl (.tmp 19) (.tmp 59) rfl (zeros 32) h rfl rfl hl (zeros_length 32) _ ?_))
  refine (ref_get_hash_calls _ _ hm _).mono ?_
  rintro e w2 ⟨rfl, hb2⟩
  rw [H3.out]
  have HA := Lib.hid (block_kept (B := .cells (arrC h) 37) hb2)
  go_wp2_with (first
    | (with_reducible refine wpList_alloc_row rfl 37 rfl (arrC (zeros 32)) alloc_hash ?_)
    | (with_reducible refine wpList_store_hash rfl (.tmp 22) (.tmp 66) rfl (zeros 32) h rfl rfl hl (zeros_length 32) _ ?_)
    | (with_reducible refine wpList_load_hash_w rfl (.tmp 19) rfl w1.heap.size rfl h hl _ HA.out ?_)
    | (with_reducible refine wpList_load_hash_w rfl (.tmp 22) rfl w2.heap.size rfl h hl _ (alloc_at _ _) ?_))
  refine (does_calls _).mono ?_
  rintro e w3 ⟨rfl, hb3⟩
  go_wp2_with fail
  go_ret
  exact ⟨rfl, bel (bel_alloc (bel (bel_alloc hb1) hb2)) hb3⟩
end Go.Proofs.Ytbbokdnkabbmfaa
