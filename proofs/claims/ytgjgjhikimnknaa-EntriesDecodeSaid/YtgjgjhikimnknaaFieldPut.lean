/- The contract of entries.put: a field's bytes. -/
import Derived.Test.YtgjgjhikimnknaaCheck
import Derived.Test.YtgjgjhikimnknaaBackPlain
set_option linter.unusedVariables false
set_option linter.unusedSimpArgs false
namespace Go.Proofs.Ytgjgjhikimnknaa
open Go.RowKit

def putL (n b : Int) : List UInt8 := ls (putF n b)
def textL (t : ByteArray) : List UInt8 := match putTextF t with | some l => l | none => []
/-- A field's bytes. -/
def fieldBytes (e : Ent) (f : Int) : List UInt8 :=
  if f = 0 then putL e.stream 1 else if f = 1 then putL e.n 4 else if f = 2 then textL e.name else ((putL e.len 2 ++ e.hash) ++ putL e.start 2) ++ putL e.count 2

theorem put_hash_callsL (h : List UInt8) (hl : h.length = 32) (w : World) :
    Calls Try.prog 41 #[.agg (hashL h).toArray] w fun e w' => e = .returned (.string (mkS h)) ∧ Below w.heap.size w w' := by
  rw [← arr_hashL h hl]
  exact put_hash_calls h hl w
theorem putTextV_textL (t : ByteArray) : ∃ x, putTextV (putTextF t) = .tuple #[.string (mkS (textL t)), .int .i64 x] := by
  unfold textL
  cases putTextF t with
  | none => exact ⟨_, rfl⟩
  | some l => exact ⟨_, rfl⟩
theorem ls_cat4 (a b c d : ByteArray) : ((a ++ b) ++ c) ++ d = mkS (((ls a ++ ls b) ++ ls c) ++ ls d) := by
  apply eq_mkS
  rw [ls_append, ls_append, ls_append]

set_option maxHeartbeats 4000000 in
set_option maxRecDepth 100000 in
theorem fieldput_calls (f : Int) (e : Ent) (hf : f = 0 ∨ f = 1 ∨ f = 2 ∨ f = 3) (hwf : e.Wf) (w : World) :
    Calls Try.prog 23 #[.int .i64 f, .agg (entC e)] w fun r w' => r = .returned (.string (mkS (fieldBytes e f))) ∧ Below w.heap.size w w' := by
  have HW := Lib.hid hwf
  clear hwf
  have hst := St.start w
  rcases hf with rfl | rfl | rfl | rfl
  · go_enter Try.func23, Try.ntmps23
    go_wp2_with (first
      | (with_reducible refine wpList_neqE rfl _ _ _ rfl _ _ rfl rfl ?_)
      | (with_reducible refine wpList_eqlE rfl _ _ _ rfl _ _ rfl rfl ?_)
      | (with_reducible refine wpList_ld rfl _ _ rfl _ _ rfl (by assumption) ?_)
      | (with_reducible refine wpList_lda rfl _ _ rfl _ _ rfl (by assumption) ?_)
      | (with_reducible refine wpList_stI rfl _ _ _ rfl _ _ rfl _ _ rfl (by assumption) ?_; intro w' hst)
      | (with_reducible refine wpList_stS rfl _ _ _ rfl _ _ rfl _ rfl (by assumption) ?_; intro w' hst)
      | (with_reducible refine wpList_stB rfl _ _ _ rfl _ _ rfl _ rfl (by assumption) ?_; intro w' hst)
      | (with_reducible refine wpList_stA rfl _ _ _ rfl _ _ rfl _ rfl (by assumption) ?_; intro w' hst)
      | (with_reducible refine wpList_box rfl _ _ rfl (by assumption) _ rfl ?_; intro bb w' hst)
      | (with_reducible refine wpList_new rfl _ rfl (by assumption) _ zero_ent ?_; intro bn w' hst)
      | (with_reducible refine wpList_new rfl _ rfl (by assumption) _ zero_run ?_; intro br w' hst))
    refine (put_any _ _ HW.out.stream.2 _).mono ?_
    rintro r w1 ⟨rfl, hb⟩
    have h1 := hst.below hb
    go_wp2_with (first
      | (with_reducible refine wpList_neqE rfl _ _ _ rfl _ _ rfl rfl ?_)
      | (with_reducible refine wpList_eqlE rfl _ _ _ rfl _ _ rfl rfl ?_)
      | (with_reducible refine wpList_ld rfl _ _ rfl _ _ rfl (by assumption) ?_)
      | (with_reducible refine wpList_lda rfl _ _ rfl _ _ rfl (by assumption) ?_)
      | (with_reducible refine wpList_stI rfl _ _ _ rfl _ _ rfl _ _ rfl (by assumption) ?_; intro w' hst)
      | (with_reducible refine wpList_stS rfl _ _ _ rfl _ _ rfl _ rfl (by assumption) ?_; intro w' hst)
      | (with_reducible refine wpList_stB rfl _ _ _ rfl _ _ rfl _ rfl (by assumption) ?_; intro w' hst)
      | (with_reducible refine wpList_stA rfl _ _ _ rfl _ _ rfl _ rfl (by assumption) ?_; intro w' hst)
      | (with_reducible refine wpList_box rfl _ _ rfl (by assumption) _ rfl ?_; intro bb w' hst)
      | (with_reducible refine wpList_new rfl _ rfl (by assumption) _ zero_ent ?_; intro bn w' hst)
      | (with_reducible refine wpList_new rfl _ rfl (by assumption) _ zero_run ?_; intro br w' hst))
    go_ret
    exact ⟨rfl, h1.end⟩
  · go_enter Try.func23, Try.ntmps23
    go_wp2_with (first
      | (with_reducible refine wpList_neqE rfl _ _ _ rfl _ _ rfl rfl ?_)
      | (with_reducible refine wpList_eqlE rfl _ _ _ rfl _ _ rfl rfl ?_)
      | (with_reducible refine wpList_ld rfl _ _ rfl _ _ rfl (by assumption) ?_)
      | (with_reducible refine wpList_lda rfl _ _ rfl _ _ rfl (by assumption) ?_)
      | (with_reducible refine wpList_stI rfl _ _ _ rfl _ _ rfl _ _ rfl (by assumption) ?_; intro w' hst)
      | (with_reducible refine wpList_stS rfl _ _ _ rfl _ _ rfl _ rfl (by assumption) ?_; intro w' hst)
      | (with_reducible refine wpList_stB rfl _ _ _ rfl _ _ rfl _ rfl (by assumption) ?_; intro w' hst)
      | (with_reducible refine wpList_stA rfl _ _ _ rfl _ _ rfl _ rfl (by assumption) ?_; intro w' hst)
      | (with_reducible refine wpList_box rfl _ _ rfl (by assumption) _ rfl ?_; intro bb w' hst)
      | (with_reducible refine wpList_new rfl _ rfl (by assumption) _ zero_ent ?_; intro bn w' hst)
      | (with_reducible refine wpList_new rfl _ rfl (by assumption) _ zero_run ?_; intro br w' hst))
    refine (put_any _ _ HW.out.n.2 _).mono ?_
    rintro r w1 ⟨rfl, hb⟩
    have h1 := hst.below hb
    go_wp2_with (first
      | (with_reducible refine wpList_neqE rfl _ _ _ rfl _ _ rfl rfl ?_)
      | (with_reducible refine wpList_eqlE rfl _ _ _ rfl _ _ rfl rfl ?_)
      | (with_reducible refine wpList_ld rfl _ _ rfl _ _ rfl (by assumption) ?_)
      | (with_reducible refine wpList_lda rfl _ _ rfl _ _ rfl (by assumption) ?_)
      | (with_reducible refine wpList_stI rfl _ _ _ rfl _ _ rfl _ _ rfl (by assumption) ?_; intro w' hst)
      | (with_reducible refine wpList_stS rfl _ _ _ rfl _ _ rfl _ rfl (by assumption) ?_; intro w' hst)
      | (with_reducible refine wpList_stB rfl _ _ _ rfl _ _ rfl _ rfl (by assumption) ?_; intro w' hst)
      | (with_reducible refine wpList_stA rfl _ _ _ rfl _ _ rfl _ rfl (by assumption) ?_; intro w' hst)
      | (with_reducible refine wpList_box rfl _ _ rfl (by assumption) _ rfl ?_; intro bb w' hst)
      | (with_reducible refine wpList_new rfl _ rfl (by assumption) _ zero_ent ?_; intro bn w' hst)
      | (with_reducible refine wpList_new rfl _ rfl (by assumption) _ zero_run ?_; intro br w' hst))
    go_ret
    exact ⟨rfl, h1.end⟩
  · obtain ⟨x, hx⟩ := putTextV_textL e.name
    have HX := Lib.hid hx
    clear hx
    go_enter Try.func23, Try.ntmps23
    go_wp2_with (first
      | (with_reducible refine wpList_neqE rfl _ _ _ rfl _ _ rfl rfl ?_)
      | (with_reducible refine wpList_eqlE rfl _ _ _ rfl _ _ rfl rfl ?_)
      | (with_reducible refine wpList_ld rfl _ _ rfl _ _ rfl (by assumption) ?_)
      | (with_reducible refine wpList_lda rfl _ _ rfl _ _ rfl (by assumption) ?_)
      | (with_reducible refine wpList_stI rfl _ _ _ rfl _ _ rfl _ _ rfl (by assumption) ?_; intro w' hst)
      | (with_reducible refine wpList_stS rfl _ _ _ rfl _ _ rfl _ rfl (by assumption) ?_; intro w' hst)
      | (with_reducible refine wpList_stB rfl _ _ _ rfl _ _ rfl _ rfl (by assumption) ?_; intro w' hst)
      | (with_reducible refine wpList_stA rfl _ _ _ rfl _ _ rfl _ rfl (by assumption) ?_; intro w' hst)
      | (with_reducible refine wpList_box rfl _ _ rfl (by assumption) _ rfl ?_; intro bb w' hst)
      | (with_reducible refine wpList_new rfl _ rfl (by assumption) _ zero_ent ?_; intro bn w' hst)
      | (with_reducible refine wpList_new rfl _ rfl (by assumption) _ zero_run ?_; intro br w' hst))
    refine (put_text_calls _ (by have := HW.out.name; unfold maxLen; omega) _).mono ?_
    rintro r w1 ⟨rfl, hb⟩
    have h1 := hst.below hb
    rw [HX.out]
    go_wp2_with (first
      | (with_reducible refine wpList_neqE rfl _ _ _ rfl _ _ rfl rfl ?_)
      | (with_reducible refine wpList_eqlE rfl _ _ _ rfl _ _ rfl rfl ?_)
      | (with_reducible refine wpList_ld rfl _ _ rfl _ _ rfl (by assumption) ?_)
      | (with_reducible refine wpList_lda rfl _ _ rfl _ _ rfl (by assumption) ?_)
      | (with_reducible refine wpList_stI rfl _ _ _ rfl _ _ rfl _ _ rfl (by assumption) ?_; intro w' hst)
      | (with_reducible refine wpList_stS rfl _ _ _ rfl _ _ rfl _ rfl (by assumption) ?_; intro w' hst)
      | (with_reducible refine wpList_stB rfl _ _ _ rfl _ _ rfl _ rfl (by assumption) ?_; intro w' hst)
      | (with_reducible refine wpList_stA rfl _ _ _ rfl _ _ rfl _ rfl (by assumption) ?_; intro w' hst)
      | (with_reducible refine wpList_box rfl _ _ rfl (by assumption) _ rfl ?_; intro bb w' hst)
      | (with_reducible refine wpList_new rfl _ rfl (by assumption) _ zero_ent ?_; intro bn w' hst)
      | (with_reducible refine wpList_new rfl _ rfl (by assumption) _ zero_run ?_; intro br w' hst))
    go_ret
    exact ⟨rfl, h1.end⟩
  · have HR := Lib.hid (ls_cat4 (putF e.len 2) (mkS e.hash) (putF e.start 2) (putF e.count 2))
    have HV : Hid (mkS (fieldBytes e 3) = mkS (((ls (putF e.len 2) ++ ls (mkS e.hash)) ++ ls (putF e.start 2)) ++ ls (putF e.count 2))) := Lib.hid rfl
    have s1 := putF_size e.len 2
    have s2 := putF_size e.start 2
    have s3 := putF_size e.count 2
    have s4 : (mkS e.hash).size = 32 := by rw [size_mkS, HW.out.hash]
    have c1 := put_any e.len 2 HW.out.len.2
    have c2 := put_any e.start 2 HW.out.start.2
    have c3 := put_any e.count 2 HW.out.count.2
    have c4 := put_hash_callsL e.hash HW.out.hash
    generalize putF e.len 2 = S1 at *
    generalize putF e.start 2 = S2 at *
    generalize putF e.count 2 = S3 at *
    generalize mkS e.hash = S4 at *
    have k1 : ¬ 9223372036854775807 < S1.size + S4.size := by omega
    have k2 : ¬ 9223372036854775807 < (S1 ++ S4).size + S2.size := by rw [ByteArray.size_append]; omega
    have k3 : ¬ 9223372036854775807 < ((S1 ++ S4) ++ S2).size + S3.size := by rw [ByteArray.size_append, ByteArray.size_append]; omega
    have C1 := Lib.hid c1
    have C2 := Lib.hid c2
    have C3 := Lib.hid c3
    have C4 := Lib.hid c4
    clear c1 c2 c3 c4
    go_enter Try.func23, Try.ntmps23
    go_wp2_with (first
      | (with_reducible refine wpList_neqE rfl _ _ _ rfl _ _ rfl rfl ?_)
      | (with_reducible refine wpList_eqlE rfl _ _ _ rfl _ _ rfl rfl ?_)
      | (with_reducible refine wpList_ld rfl _ _ rfl _ _ rfl (by assumption) ?_)
      | (with_reducible refine wpList_lda rfl _ _ rfl _ _ rfl (by assumption) ?_)
      | (with_reducible refine wpList_stI rfl _ _ _ rfl _ _ rfl _ _ rfl (by assumption) ?_; intro w' hst)
      | (with_reducible refine wpList_stS rfl _ _ _ rfl _ _ rfl _ rfl (by assumption) ?_; intro w' hst)
      | (with_reducible refine wpList_stB rfl _ _ _ rfl _ _ rfl _ rfl (by assumption) ?_; intro w' hst)
      | (with_reducible refine wpList_stA rfl _ _ _ rfl _ _ rfl _ rfl (by assumption) ?_; intro w' hst)
      | (with_reducible refine wpList_box rfl _ _ rfl (by assumption) _ rfl ?_; intro bb w' hst)
      | (with_reducible refine wpList_new rfl _ rfl (by assumption) _ zero_ent ?_; intro bn w' hst)
      | (with_reducible refine wpList_new rfl _ rfl (by assumption) _ zero_run ?_; intro br w' hst))
    have hq := hst.quiet
    refine wp_region_below_lit (by kernel_rfl) (by kernel_rfl) ?_
    repeat (first
      | (with_reducible refine wpQuiet_ld rfl _ _ rfl _ _ rfl hq ?_; simp only [Act.put, List.setIfInBounds_toArray, List.set_cons_succ, List.set_cons_zero])
      | (with_reducible refine wpQuiet_lda rfl _ _ rfl _ _ rfl hq ?_; simp only [Act.put, List.setIfInBounds_toArray, List.set_cons_succ, List.set_cons_zero])
      | go_big_quiet_step ((first | (go_at_call 21; first | with_reducible exact Calls.below_of (C1.out _) | with_reducible exact Calls.below_of (C2.out _) | with_reducible exact Calls.below_of (C3.out _)) | (go_at_call 41; with_reducible exact Calls.below_of (C4.out _)))))
    refine wpQuiet_nil ?_
    intro wq hwq
    have h1 := hq wq hwq
    clear hq hwq
    go_wp2_with (first
      | (with_reducible refine wpList_neqE rfl _ _ _ rfl _ _ rfl rfl ?_)
      | (with_reducible refine wpList_eqlE rfl _ _ _ rfl _ _ rfl rfl ?_)
      | (with_reducible refine wpList_ld rfl _ _ rfl _ _ rfl (by assumption) ?_)
      | (with_reducible refine wpList_lda rfl _ _ rfl _ _ rfl (by assumption) ?_)
      | (with_reducible refine wpList_stI rfl _ _ _ rfl _ _ rfl _ _ rfl (by assumption) ?_; intro w' hst)
      | (with_reducible refine wpList_stS rfl _ _ _ rfl _ _ rfl _ rfl (by assumption) ?_; intro w' hst)
      | (with_reducible refine wpList_stB rfl _ _ _ rfl _ _ rfl _ rfl (by assumption) ?_; intro w' hst)
      | (with_reducible refine wpList_stA rfl _ _ _ rfl _ _ rfl _ rfl (by assumption) ?_; intro w' hst)
      | (with_reducible refine wpList_box rfl _ _ rfl (by assumption) _ rfl ?_; intro bb w' hst)
      | (with_reducible refine wpList_new rfl _ rfl (by assumption) _ zero_ent ?_; intro bn w' hst)
      | (with_reducible refine wpList_new rfl _ rfl (by assumption) _ zero_run ?_; intro br w' hst))
    go_ret
    exact ⟨by rw [HV.out, ← HR.out]; rfl, h1.end⟩
end Go.Proofs.Ytgjgjhikimnknaa
