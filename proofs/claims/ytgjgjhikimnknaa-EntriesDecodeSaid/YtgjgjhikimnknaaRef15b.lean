/- The contracts of the reference's PutHash, bare, May. -/
import Derived.Test.YtgjgjhikimnknaaRef15a
set_option linter.unusedVariables false
set_option linter.unusedSimpArgs false
namespace Go.Proofs.Ytgjgjhikimnknaa
open Go.RowKit

instance : OneT 5 := ⟨fun w => by kernel_rfl, by kernel_rfl⟩
section
variable {ops : Array Oper} {rest : List Oper} {o : Oper} {a : Act} {w : World} {Q : Exit → Act → World → Prop}
theorem wpList_str (hw : Region.wanted o (yielded ops a.tmps) = true) (x : Operand) (ho : o.op = .convert 42 9 x) (g n c : Nat) (hx : a.eval x = .slice (some ⟨g, 0, none⟩) n c) (l : List UInt8) (hn : l.length = n) {T : TypeId} (hg : w.heap[g]? = some (.cells (u8s l).toArray T (0, 0)))
    (hk : wpList Try.prog ops Q rest (a.put o.dst (.string (mkS l))) w) : wpList Try.prog ops Q (o :: rest) a w :=
  BigFrame.wpList_want hw fun K hK => by
    subst hn
    have hh := run_convert_bytes_back (P := Try.prog) w 42 9 5 ⟨g, 0, none⟩ c l T29 U5 T9 (fun j hj => by
      rw [addr_add, cell_of_row w g _ _ T (0, 0) hg]
      simp [u8s, hj])
    unfold Oper.wp execOp
    simp only [ho, hx, Sem.run_bind, hh, Result.andThen_ok]
    exact hK _ _ hk
end
theorem hash_cell (h : List UInt8) (hl : h.length = 32) (k : Nat) (hk : k < h.length) : CellAt (hashL h).toArray k (.int .u8 (h[k].toNat : Int)) := ⟨by rw [hashL_eq h hl]; simp [u8s, hk]⟩
theorem take_str (h : List UInt8) (k : Nat) (hk : k < h.length) : mkS (h.take k) ++ mkS [h[k]] = mkS (h.take (k + 1)) := by
  apply eq_mkS
  rw [ls_append, ls_mkS, ls_mkS, List.take_succ_eq_append_getElem hk]
set_option maxHeartbeats 4000000 in
set_option maxRecDepth 100000 in
theorem ref_put_hash_calls (h : List UInt8) (hl : h.length = 32) (w : World) :
    Calls Try.prog 44 #[.agg (hashL h).toArray] w fun e w' => e = .returned (.string (mkS h)) ∧ Below w.heap.size w w' := by
  have hst := St.start w
  have HL := Lib.hid hl
  go_enter Try.func44, Try.ntmps44
  go_wp2_with (with_reducible refine wpList_box rfl _ _ rfl (by assumption) (hashL h).toArray rfl ?_; intro bH w' hst)
  go_loopw [3, 4] (fun sv iv wr => ∃ k : Nat, k ≤ 32 ∧ iv = .int .i64 k ∧ sv = .string (mkS (h.take k)) ∧ St [] w wr [(bH, (hashL h).toArray, 23)]) (fun _ i _ => 32 - (intOf i).toNat)
  case atStart => exact ⟨0, by omega, rfl, rfl, hst⟩
  case round =>
    obtain ⟨k, hk, rfl, rfl, hs⟩ := hrel
    clear hst
    by_cases hlt : k < 32
    · have hkl : k < h.length := by rw [HL.out]; exact hlt
      have hc := hash_cell h HL.out k hkl
      have HT := Lib.hid (take_str h k hkl)
      have HZ : (mkS (h.take k)).size ≤ 32 := by rw [size_mkS, List.length_take]; omega
      have f1 : ¬ 9223372036854775807 < (mkS (h.take k)).size + (mkS [h[k]]).size := by rw [size_mkS [h[k]]]; simp; omega
      have f2 : ¬ 9223372036854775807 < (mkS (h.take k)).size + 1 := by omega
      generalize h[k] = c at *
      generalize mkS (h.take k) = S at *
      go_wp2_with (first
        | (with_reducible refine wpList_ld rfl _ _ rfl _ _ rfl (by assumption) ?_)
        | (refine wpList_blk rfl 13 rfl hs (u8s [c]).toArray 5 (fun b => .slice (some ⟨b, 0, none⟩) 1 1) (fun w => by kernel_rfl) ?_; intro b1 w1 hb1 hs1)
        | (refine wpList_str rfl _ rfl b1 1 1 rfl [c] rfl (hs1.has (g := b1)) ?_))
      go_roundw
      case rel => exact ⟨k + 1, by omega, by go_num, by rw [HT.out], hs1.drop⟩
      case measure => simp [intOf]; omega
    · obtain rfl : k = 32 := by omega
      go_wp2_with fail
      go_ret
      exact ⟨by rw [List.take_of_length_le (by rw [HL.out]; omega)]; rfl, hs.end⟩

theorem results_ent {fn : Func} {tmps : Array Value} {w : World} (p : Tmp) (hf : fn.results = #[.cell p 27]) (g : Nat) (hp : tmps.getD p undef = .pointer (some ⟨g, 0, none⟩))
    (e : Ent) (t : TypeId) (hg : w.heap[g]? = some (.cells (entC e) t (0, 0))) : (results fn tmps).run Try.prog w = .ok (.agg (entL e).toArray) w := by
  have hp' : tmps[p]?.getD undef = .pointer (some ⟨g, 0, none⟩) := by simpa using hp
  have hr : (loadVar 27 ⟨g, 0, none⟩).run Try.prog w = .ok (.agg (entL e).toArray) w := run_load_ent_at w ⟨g, 0, none⟩ e (fun j hj => by rw [addr_add, cell_of_row w g _ _ t (0, 0) hg, Nat.zero_add])
  simp [results, hf, hp', asAddr, hr]
def bareE (e : Ent) : Ent :=
  if e.kind = 1 then { ent0 with kind := e.kind, name := e.name, hash := zeros 32 } else if e.kind = 2 then { e with name := noS } else if e.kind = 3 ∨ e.kind = 6 then { ent0 with kind := e.kind, stream := e.stream, n := e.n, hash := zeros 32 }
  else if e.kind = 4 ∨ e.kind = 5 then { ent0 with kind := e.kind, stream := e.stream, name := e.name, hash := zeros 32 } else { ent0 with hash := zeros 32 }
set_option maxHeartbeats 4000000 in
set_option maxRecDepth 100000 in
theorem bare_calls (e : Ent) (w : World) :
    Calls Try.prog 30 #[.agg (entC e)] w fun r w' => r = .returned (.agg (entL (bareE e)).toArray) ∧ Below w.heap.size w w' := by
  have hst := St.start w
  by_cases h1 : e.kind = 1
  · have HB : Hid (bareE e = { ent0 with kind := e.kind, name := e.name, hash := zeros 32 }) := Lib.hid (by unfold bareE; simp [h1])
    have f1 : (e.kind == 1) = true := by simpa using h1
    clear h1
    go_enter Try.func30, Try.ntmps30
    go_wp2_with (first
      | (refine wpList_val rfl 11 rfl (.agg (entL ({ ent0 with kind := e.kind, name := e.name, hash := zeros 32 })).toArray) (fun w => by kernel_rfl) ?_)
      | (first
      | (with_reducible refine wpList_neqE rfl _ _ _ rfl _ _ rfl rfl ?_)
      | (with_reducible refine wpList_eqlE rfl _ _ _ rfl _ _ rfl rfl ?_)
      | (with_reducible refine wpList_ld rfl _ _ rfl _ _ rfl (by assumption) ?_)
      | (with_reducible refine wpList_lda rfl _ _ rfl _ _ rfl (by assumption) ?_)
      | (with_reducible refine wpList_stI rfl _ _ _ rfl _ _ rfl _ _ rfl (by assumption) ?_; intro w' hst)
      | (with_reducible refine wpList_stS rfl _ _ _ rfl _ _ rfl _ rfl (by assumption) ?_; intro w' hst)
      | (with_reducible refine wpList_stB rfl _ _ _ rfl _ _ rfl _ rfl (by assumption) ?_; intro w' hst)
      | (with_reducible refine wpList_stA rfl _ _ _ rfl _ _ rfl _ rfl (by assumption) ?_; intro w' hst)
      | (with_reducible refine wpList_box rfl _ _ rfl (by assumption) _ rfl ?_; intro bb w' hst)
      | (with_reducible refine wpList_new rfl _ rfl (by assumption) _ zero_ent ?_; intro bn w' hst)
      | (with_reducible refine wpList_new rfl _ rfl (by assumption) _ zero_run ?_; intro br w' hst)))
    exact bodyPost_ret (v := .agg (entL ({ ent0 with kind := e.kind, name := e.name, hash := zeros 32 })).toArray) (results_ent 2 rfl _ rfl _ _ hst.has) rfl ⟨by rw [HB.out], hst.end⟩
  by_cases h2 : e.kind = 2
  · have HB : Hid (bareE e = { e with name := noS }) := Lib.hid (by unfold bareE; simp [h2])
    have f1 : (e.kind == 1) = false := by simpa using h1
    have f2 : (e.kind == 2) = true := by simpa using h2
    clear h1
    clear h2
    go_enter Try.func30, Try.ntmps30
    go_wp2_with (first
      | (refine wpList_val rfl 26 rfl (.agg (entL ({ e with name := noS })).toArray) (fun w => by kernel_rfl) ?_)
      | (first
      | (with_reducible refine wpList_neqE rfl _ _ _ rfl _ _ rfl rfl ?_)
      | (with_reducible refine wpList_eqlE rfl _ _ _ rfl _ _ rfl rfl ?_)
      | (with_reducible refine wpList_ld rfl _ _ rfl _ _ rfl (by assumption) ?_)
      | (with_reducible refine wpList_lda rfl _ _ rfl _ _ rfl (by assumption) ?_)
      | (with_reducible refine wpList_stI rfl _ _ _ rfl _ _ rfl _ _ rfl (by assumption) ?_; intro w' hst)
      | (with_reducible refine wpList_stS rfl _ _ _ rfl _ _ rfl _ rfl (by assumption) ?_; intro w' hst)
      | (with_reducible refine wpList_stB rfl _ _ _ rfl _ _ rfl _ rfl (by assumption) ?_; intro w' hst)
      | (with_reducible refine wpList_stA rfl _ _ _ rfl _ _ rfl _ rfl (by assumption) ?_; intro w' hst)
      | (with_reducible refine wpList_box rfl _ _ rfl (by assumption) _ rfl ?_; intro bb w' hst)
      | (with_reducible refine wpList_new rfl _ rfl (by assumption) _ zero_ent ?_; intro bn w' hst)
      | (with_reducible refine wpList_new rfl _ rfl (by assumption) _ zero_run ?_; intro br w' hst)))
    exact bodyPost_ret (v := .agg (entL ({ e with name := noS })).toArray) (results_ent 2 rfl _ rfl _ _ hst.has) rfl ⟨by rw [HB.out], hst.end⟩
  by_cases h3 : e.kind = 3
  · have HB : Hid (bareE e = { ent0 with kind := e.kind, stream := e.stream, n := e.n, hash := zeros 32 }) := Lib.hid (by unfold bareE; simp [h3])
    have f1 : (e.kind == 1) = false := by simpa using h1
    have f2 : (e.kind == 2) = false := by simpa using h2
    have f3 : (e.kind == 3) = true := by simpa using h3
    clear h1
    clear h2
    clear h3
    go_enter Try.func30, Try.ntmps30
    go_wp2_with (first
      | (refine wpList_val rfl 36 rfl (.agg (entL ({ ent0 with kind := e.kind, stream := e.stream, n := e.n, hash := zeros 32 })).toArray) (fun w => by kernel_rfl) ?_)
      | (first
      | (with_reducible refine wpList_neqE rfl _ _ _ rfl _ _ rfl rfl ?_)
      | (with_reducible refine wpList_eqlE rfl _ _ _ rfl _ _ rfl rfl ?_)
      | (with_reducible refine wpList_ld rfl _ _ rfl _ _ rfl (by assumption) ?_)
      | (with_reducible refine wpList_lda rfl _ _ rfl _ _ rfl (by assumption) ?_)
      | (with_reducible refine wpList_stI rfl _ _ _ rfl _ _ rfl _ _ rfl (by assumption) ?_; intro w' hst)
      | (with_reducible refine wpList_stS rfl _ _ _ rfl _ _ rfl _ rfl (by assumption) ?_; intro w' hst)
      | (with_reducible refine wpList_stB rfl _ _ _ rfl _ _ rfl _ rfl (by assumption) ?_; intro w' hst)
      | (with_reducible refine wpList_stA rfl _ _ _ rfl _ _ rfl _ rfl (by assumption) ?_; intro w' hst)
      | (with_reducible refine wpList_box rfl _ _ rfl (by assumption) _ rfl ?_; intro bb w' hst)
      | (with_reducible refine wpList_new rfl _ rfl (by assumption) _ zero_ent ?_; intro bn w' hst)
      | (with_reducible refine wpList_new rfl _ rfl (by assumption) _ zero_run ?_; intro br w' hst)))
    exact bodyPost_ret (v := .agg (entL ({ ent0 with kind := e.kind, stream := e.stream, n := e.n, hash := zeros 32 })).toArray) (results_ent 2 rfl _ rfl _ _ hst.has) rfl ⟨by rw [HB.out], hst.end⟩
  by_cases h6 : e.kind = 6
  · have HB : Hid (bareE e = { ent0 with kind := e.kind, stream := e.stream, n := e.n, hash := zeros 32 }) := Lib.hid (by unfold bareE; simp [h6])
    have f1 : (e.kind == 1) = false := by simpa using h1
    have f2 : (e.kind == 2) = false := by simpa using h2
    have f3 : (e.kind == 3) = false := by simpa using h3
    have f6 : (e.kind == 6) = true := by simpa using h6
    clear h1
    clear h2
    clear h3
    clear h6
    go_enter Try.func30, Try.ntmps30
    go_wp2_with (first
      | (refine wpList_val rfl 36 rfl (.agg (entL ({ ent0 with kind := e.kind, stream := e.stream, n := e.n, hash := zeros 32 })).toArray) (fun w => by kernel_rfl) ?_)
      | (first
      | (with_reducible refine wpList_neqE rfl _ _ _ rfl _ _ rfl rfl ?_)
      | (with_reducible refine wpList_eqlE rfl _ _ _ rfl _ _ rfl rfl ?_)
      | (with_reducible refine wpList_ld rfl _ _ rfl _ _ rfl (by assumption) ?_)
      | (with_reducible refine wpList_lda rfl _ _ rfl _ _ rfl (by assumption) ?_)
      | (with_reducible refine wpList_stI rfl _ _ _ rfl _ _ rfl _ _ rfl (by assumption) ?_; intro w' hst)
      | (with_reducible refine wpList_stS rfl _ _ _ rfl _ _ rfl _ rfl (by assumption) ?_; intro w' hst)
      | (with_reducible refine wpList_stB rfl _ _ _ rfl _ _ rfl _ rfl (by assumption) ?_; intro w' hst)
      | (with_reducible refine wpList_stA rfl _ _ _ rfl _ _ rfl _ rfl (by assumption) ?_; intro w' hst)
      | (with_reducible refine wpList_box rfl _ _ rfl (by assumption) _ rfl ?_; intro bb w' hst)
      | (with_reducible refine wpList_new rfl _ rfl (by assumption) _ zero_ent ?_; intro bn w' hst)
      | (with_reducible refine wpList_new rfl _ rfl (by assumption) _ zero_run ?_; intro br w' hst)))
    exact bodyPost_ret (v := .agg (entL ({ ent0 with kind := e.kind, stream := e.stream, n := e.n, hash := zeros 32 })).toArray) (results_ent 2 rfl _ rfl _ _ hst.has) rfl ⟨by rw [HB.out], hst.end⟩
  by_cases h4 : e.kind = 4
  · have HB : Hid (bareE e = { ent0 with kind := e.kind, stream := e.stream, name := e.name, hash := zeros 32 }) := Lib.hid (by unfold bareE; simp [h4])
    have f1 : (e.kind == 1) = false := by simpa using h1
    have f2 : (e.kind == 2) = false := by simpa using h2
    have f3 : (e.kind == 3) = false := by simpa using h3
    have f6 : (e.kind == 6) = false := by simpa using h6
    have f4 : (e.kind == 4) = true := by simpa using h4
    clear h1
    clear h2
    clear h3
    clear h6
    clear h4
    go_enter Try.func30, Try.ntmps30
    go_wp2_with (first
      | (refine wpList_val rfl 46 rfl (.agg (entL ({ ent0 with kind := e.kind, stream := e.stream, name := e.name, hash := zeros 32 })).toArray) (fun w => by kernel_rfl) ?_)
      | (first
      | (with_reducible refine wpList_neqE rfl _ _ _ rfl _ _ rfl rfl ?_)
      | (with_reducible refine wpList_eqlE rfl _ _ _ rfl _ _ rfl rfl ?_)
      | (with_reducible refine wpList_ld rfl _ _ rfl _ _ rfl (by assumption) ?_)
      | (with_reducible refine wpList_lda rfl _ _ rfl _ _ rfl (by assumption) ?_)
      | (with_reducible refine wpList_stI rfl _ _ _ rfl _ _ rfl _ _ rfl (by assumption) ?_; intro w' hst)
      | (with_reducible refine wpList_stS rfl _ _ _ rfl _ _ rfl _ rfl (by assumption) ?_; intro w' hst)
      | (with_reducible refine wpList_stB rfl _ _ _ rfl _ _ rfl _ rfl (by assumption) ?_; intro w' hst)
      | (with_reducible refine wpList_stA rfl _ _ _ rfl _ _ rfl _ rfl (by assumption) ?_; intro w' hst)
      | (with_reducible refine wpList_box rfl _ _ rfl (by assumption) _ rfl ?_; intro bb w' hst)
      | (with_reducible refine wpList_new rfl _ rfl (by assumption) _ zero_ent ?_; intro bn w' hst)
      | (with_reducible refine wpList_new rfl _ rfl (by assumption) _ zero_run ?_; intro br w' hst)))
    exact bodyPost_ret (v := .agg (entL ({ ent0 with kind := e.kind, stream := e.stream, name := e.name, hash := zeros 32 })).toArray) (results_ent 2 rfl _ rfl _ _ hst.has) rfl ⟨by rw [HB.out], hst.end⟩
  by_cases h5 : e.kind = 5
  · have HB : Hid (bareE e = { ent0 with kind := e.kind, stream := e.stream, name := e.name, hash := zeros 32 }) := Lib.hid (by unfold bareE; simp [h5])
    have f1 : (e.kind == 1) = false := by simpa using h1
    have f2 : (e.kind == 2) = false := by simpa using h2
    have f3 : (e.kind == 3) = false := by simpa using h3
    have f6 : (e.kind == 6) = false := by simpa using h6
    have f4 : (e.kind == 4) = false := by simpa using h4
    have f5 : (e.kind == 5) = true := by simpa using h5
    clear h1
    clear h2
    clear h3
    clear h6
    clear h4
    clear h5
    go_enter Try.func30, Try.ntmps30
    go_wp2_with (first
      | (refine wpList_val rfl 46 rfl (.agg (entL ({ ent0 with kind := e.kind, stream := e.stream, name := e.name, hash := zeros 32 })).toArray) (fun w => by kernel_rfl) ?_)
      | (first
      | (with_reducible refine wpList_neqE rfl _ _ _ rfl _ _ rfl rfl ?_)
      | (with_reducible refine wpList_eqlE rfl _ _ _ rfl _ _ rfl rfl ?_)
      | (with_reducible refine wpList_ld rfl _ _ rfl _ _ rfl (by assumption) ?_)
      | (with_reducible refine wpList_lda rfl _ _ rfl _ _ rfl (by assumption) ?_)
      | (with_reducible refine wpList_stI rfl _ _ _ rfl _ _ rfl _ _ rfl (by assumption) ?_; intro w' hst)
      | (with_reducible refine wpList_stS rfl _ _ _ rfl _ _ rfl _ rfl (by assumption) ?_; intro w' hst)
      | (with_reducible refine wpList_stB rfl _ _ _ rfl _ _ rfl _ rfl (by assumption) ?_; intro w' hst)
      | (with_reducible refine wpList_stA rfl _ _ _ rfl _ _ rfl _ rfl (by assumption) ?_; intro w' hst)
      | (with_reducible refine wpList_box rfl _ _ rfl (by assumption) _ rfl ?_; intro bb w' hst)
      | (with_reducible refine wpList_new rfl _ rfl (by assumption) _ zero_ent ?_; intro bn w' hst)
      | (with_reducible refine wpList_new rfl _ rfl (by assumption) _ zero_run ?_; intro br w' hst)))
    exact bodyPost_ret (v := .agg (entL ({ ent0 with kind := e.kind, stream := e.stream, name := e.name, hash := zeros 32 })).toArray) (results_ent 2 rfl _ rfl _ _ hst.has) rfl ⟨by rw [HB.out], hst.end⟩
  have HB : Hid (bareE e = { ent0 with hash := zeros 32 }) := Lib.hid (by unfold bareE; simp [h1, h2, h3, h4, h5, h6])
  have f1 : (e.kind == 1) = false := by simpa using h1
  have f2 : (e.kind == 2) = false := by simpa using h2
  have f3 : (e.kind == 3) = false := by simpa using h3
  have f6 : (e.kind == 6) = false := by simpa using h6
  have f4 : (e.kind == 4) = false := by simpa using h4
  have f5 : (e.kind == 5) = false := by simpa using h5
  clear h1 h2 h3 h4 h5 h6
  go_enter Try.func30, Try.ntmps30
  go_wp2_with (first
    | (refine wpList_val rfl 47 rfl (.agg (entL ({ ent0 with hash := zeros 32 })).toArray) (fun w => by kernel_rfl) ?_)
    | (first
      | (with_reducible refine wpList_neqE rfl _ _ _ rfl _ _ rfl rfl ?_)
      | (with_reducible refine wpList_eqlE rfl _ _ _ rfl _ _ rfl rfl ?_)
      | (with_reducible refine wpList_ld rfl _ _ rfl _ _ rfl (by assumption) ?_)
      | (with_reducible refine wpList_lda rfl _ _ rfl _ _ rfl (by assumption) ?_)
      | (with_reducible refine wpList_stI rfl _ _ _ rfl _ _ rfl _ _ rfl (by assumption) ?_; intro w' hst)
      | (with_reducible refine wpList_stS rfl _ _ _ rfl _ _ rfl _ rfl (by assumption) ?_; intro w' hst)
      | (with_reducible refine wpList_stB rfl _ _ _ rfl _ _ rfl _ rfl (by assumption) ?_; intro w' hst)
      | (with_reducible refine wpList_stA rfl _ _ _ rfl _ _ rfl _ rfl (by assumption) ?_; intro w' hst)
      | (with_reducible refine wpList_box rfl _ _ rfl (by assumption) _ rfl ?_; intro bb w' hst)
      | (with_reducible refine wpList_new rfl _ rfl (by assumption) _ zero_ent ?_; intro bn w' hst)
      | (with_reducible refine wpList_new rfl _ rfl (by assumption) _ zero_run ?_; intro br w' hst)))
  exact bodyPost_ret (v := .agg (entL ({ ent0 with hash := zeros 32 })).toArray) (results_ent 2 rfl _ rfl _ _ hst.has) rfl ⟨by rw [HB.out], hst.end⟩
end Go.Proofs.Ytgjgjhikimnknaa
