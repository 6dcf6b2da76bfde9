/- The contracts of seals: Of, Follows. -/
import Derived.Test.YtigihgbgdillpaaGreatDoorP32
set_option linter.unusedVariables false
set_option linter.unusedSimpArgs false
set_option maxRecDepth 100000
namespace Go.Proofs.YtigihgbgdillpaaGreatDoor
open Go.RowKit

theorem Fx.e_eqh {ρ : Operand → Value} {o : Oper} {x y : Operand} {U : TypeId} {g h : List UInt8} {b : Bool} (ho : o.op = .binOp .eql 34 x y U) (hx : ρ x = .agg (hashL g).toArray) (hy : ρ y = .agg (hashL h).toArray) (hb : (h32 g == h32 h) = b) (w : World) : (execOp ρ o).run Tryz.prog w = .ok (.value (.bool b)) w := by
  rw [hashL_32, ← arr_hashL _ (h32_length g)] at hx
  rw [hashL_32, ← arr_hashL _ (h32_length h)] at hy
  unfold execOp
  rw [ho]
  simp only [hx, hy, Sem.run_bind, guard_hash, Result.andThen_ok, eql_hash _ _ (h32_length g) (h32_length h), hb]
  rfl
theorem Fx.e_neqh {ρ : Operand → Value} {o : Oper} {x y : Operand} {U : TypeId} {g h : List UInt8} {b : Bool} (ho : o.op = .binOp .neq 34 x y U) (hx : ρ x = .agg (hashL g).toArray) (hy : ρ y = .agg (hashL h).toArray) (hb : (h32 g != h32 h) = b) (w : World) : (execOp ρ o).run Tryz.prog w = .ok (.value (.bool b)) w := by
  rw [hashL_32, ← arr_hashL _ (h32_length g)] at hx
  rw [hashL_32, ← arr_hashL _ (h32_length h)] at hy
  unfold execOp
  rw [ho]
  simp only [hx, hy, Sem.run_bind, guard_hash, Result.andThen_ok, neq_hash _ _ (h32_length g) (h32_length h), hb]
  rfl
/-! Of -/
theorem frDecF_data (t : List UInt8) : (frDecF t).1.data.size ≤ 255 := by
  unfold frDecF
  split
  · unfold decT
    split
    · decide
    · split
      · rw [frOf, size_mkS]
        have := ((bareF t).1.getD 7 0).toNat_lt
        exact Nat.le_trans (List.length_take_le ..) (by omega)
      · decide
  · decide
def slOf (s : ByteArray) : Sl × Int :=
  if (frDecF (ls s)).2 ≠ 0 then (sl0, (frDecF (ls s)).2) else
    if decide ((slDec (frDecF (ls s)).1.data).2 ≠ 0) || (decide ((frDecF (ls s)).1.kind ≠ 83) || (decide ((frDecF (ls s)).1.epoch ≠ (slDec (frDecF (ls s)).1.data).1.n) || decide ((frDecF (ls s)).1.index ≠ 0))) then (sl0, 10) else ((slDec (frDecF (ls s)).1.data).1, 0)
set_option maxHeartbeats 4000000 in
theorem sof_calls (s : ByteArray) (hs : s.size ≤ 1000000) (w : World) (hG : GSums w) : Calls Tryz.prog 82 #[.string s] w (Ret (.tuple #[.agg (slC (slOf s).1), .int .i64 (slOf s).2]) w) := by
  have hst := Sx.startN w
  have HF := Lib.hid (fun wx (h : GSums wx) => frDec_calls s wx hs h)
  have hz := frDecF_data (ls s)
  have HU := Lib.hid (show slOf s = if (frDecF (ls s)).2 ≠ 0 then (sl0, (frDecF (ls s)).2) else if decide ((slDec (frDecF (ls s)).1.data).2 ≠ 0) || (decide ((frDecF (ls s)).1.kind ≠ 83) || (decide ((frDecF (ls s)).1.epoch ≠ (slDec (frDecF (ls s)).1.data).1.n) || decide ((frDecF (ls s)).1.index ≠ 0))) then (sl0, 10) else ((slDec (frDecF (ls s)).1.data).1, 0) from rfl)
  generalize frDecF (ls s) = p at *
  generalize slOf s = res at *
  obtain ⟨⟨k, ep, ix, da⟩, er⟩ := p
  simp only at HF HU hz
  have HD := Lib.hid (fun wx => sdecode_calls da (by unfold maxLen; omega) wx)
  generalize slDec da = q at *
  obtain ⟨t, e2⟩ := q
  simp only at HU HD
  obtain ⟨d0, h0⟩ : ∃ d, decide (e2 ≠ 0) = d := ⟨_, rfl⟩
  obtain ⟨d1, h1⟩ : ∃ d, decide (k ≠ 83) = d := ⟨_, rfl⟩
  obtain ⟨d2, h2⟩ : ∃ d, decide (ep ≠ t.n) = d := ⟨_, rfl⟩
  obtain ⟨d3, h3⟩ : ∃ d, decide (ix ≠ 0) = d := ⟨_, rfl⟩
  rw [h0, h1, h2, h3] at HU
  have HR : ∀ {u : Sl × Int}, res = u → Ending.returned (.tuple #[.agg (slC u.1), .int .i64 u.2]) = .returned (.tuple #[.agg (slC res.1), .int .i64 res.2]) := fun h => by rw [h]
  by_cases her : er ≠ 0
  · rw [if_pos her] at HU
    go_enter Tryz.func82, Tryz.ntmps82
    go_wp2_with (first | (with_reducible first|(refine xsa rfl rfl rfl rfl hst ?_;clear hst;intro w' hst)|(refine xnw rfl rfl hst ?_;clear hst;intro bn w' hst)) | (with_reducible (refine xval rfl 14 rfl (.agg (slC sl0)) (fun w => by kernel_rfl) ?_)) | (with_reducible (refine callE (HF.out _ (hG.below hst.end)) hst ?_; clear hst; intro w' hst)) | (with_reducible (refine callB (HD.out _) hst ?_; clear hst; intro w' hst)))
    refine bodyPost_ret (results2 rfl (res_agg rfl hst.st.has) res_tmp) rfl ⟨HR HU.out, hst.end⟩
  · rw [if_neg her] at HU
    cases d0
    · cases d1
      · cases d2
        · cases d3
          · go_enter Tryz.func82, Tryz.ntmps82
            go_wp2_with (first | (with_reducible first|refine x1 rfl rfl rfl hst ?_|refine xa rfl rfl rfl hst ?_|(refine xsa rfl rfl rfl rfl hst ?_;clear hst;intro w' hst)|(refine xnw rfl rfl hst ?_;clear hst;intro bn w' hst)) | (with_reducible (refine xval rfl 14 rfl (.agg (slC sl0)) (fun w => by kernel_rfl) ?_)) | (with_reducible (refine callE (HF.out _ (hG.below hst.end)) hst ?_; clear hst; intro w' hst)) | (with_reducible (refine callB (HD.out _) hst ?_; clear hst; intro w' hst)) | (with_reducible (refine xval rfl 41 rfl (.agg (slC sl0)) (fun w => by kernel_rfl) ?_)) | (with_reducible (refine xval rfl 23 rfl (.bool false) (fun w => Fx.e_neq rfl rfl rfl h0 w) ?_)) | (with_reducible (refine xval rfl 27 rfl (.bool false) (fun w => Fx.e_neq rfl rfl rfl h1 w) ?_)) | (with_reducible (refine xval rfl 34 rfl (.bool false) (fun w => Fx.e_neq rfl rfl rfl h2 w) ?_)) | (with_reducible (refine xval rfl 39 rfl (.bool false) (fun w => Fx.e_neq rfl rfl rfl h3 w) ?_)))
            refine bodyPost_ret (results2 rfl (res_agg rfl hst.st.has) res_tmp) rfl ⟨HR HU.out, hst.end⟩
          · go_enter Tryz.func82, Tryz.ntmps82
            go_wp2_with (first | (with_reducible first|refine x1 rfl rfl rfl hst ?_|(refine xsa rfl rfl rfl rfl hst ?_;clear hst;intro w' hst)|(refine xnw rfl rfl hst ?_;clear hst;intro bn w' hst)) | (with_reducible (refine xval rfl 14 rfl (.agg (slC sl0)) (fun w => by kernel_rfl) ?_)) | (with_reducible (refine callE (HF.out _ (hG.below hst.end)) hst ?_; clear hst; intro w' hst)) | (with_reducible (refine callB (HD.out _) hst ?_; clear hst; intro w' hst)) | (with_reducible (refine xval rfl 41 rfl (.agg (slC sl0)) (fun w => by kernel_rfl) ?_)) | (with_reducible (refine xval rfl 23 rfl (.bool false) (fun w => Fx.e_neq rfl rfl rfl h0 w) ?_)) | (with_reducible (refine xval rfl 27 rfl (.bool false) (fun w => Fx.e_neq rfl rfl rfl h1 w) ?_)) | (with_reducible (refine xval rfl 34 rfl (.bool false) (fun w => Fx.e_neq rfl rfl rfl h2 w) ?_)) | (with_reducible (refine xval rfl 39 rfl (.bool true) (fun w => Fx.e_neq rfl rfl rfl h3 w) ?_)))
            refine bodyPost_ret (results2 rfl (res_agg rfl hst.st.has) res_tmp) rfl ⟨HR HU.out, hst.end⟩
        · go_enter Tryz.func82, Tryz.ntmps82
          go_wp2_with (first | (with_reducible first|refine x1 rfl rfl rfl hst ?_|(refine xsa rfl rfl rfl rfl hst ?_;clear hst;intro w' hst)|(refine xnw rfl rfl hst ?_;clear hst;intro bn w' hst)) | (with_reducible (refine xval rfl 14 rfl (.agg (slC sl0)) (fun w => by kernel_rfl) ?_)) | (with_reducible (refine callE (HF.out _ (hG.below hst.end)) hst ?_; clear hst; intro w' hst)) | (with_reducible (refine callB (HD.out _) hst ?_; clear hst; intro w' hst)) | (with_reducible (refine xval rfl 41 rfl (.agg (slC sl0)) (fun w => by kernel_rfl) ?_)) | (with_reducible (refine xval rfl 23 rfl (.bool false) (fun w => Fx.e_neq rfl rfl rfl h0 w) ?_)) | (with_reducible (refine xval rfl 27 rfl (.bool false) (fun w => Fx.e_neq rfl rfl rfl h1 w) ?_)) | (with_reducible (refine xval rfl 34 rfl (.bool true) (fun w => Fx.e_neq rfl rfl rfl h2 w) ?_)))
          refine bodyPost_ret (results2 rfl (res_agg rfl hst.st.has) res_tmp) rfl ⟨HR HU.out, hst.end⟩
      · go_enter Tryz.func82, Tryz.ntmps82
        go_wp2_with (first | (with_reducible first|refine x1 rfl rfl rfl hst ?_|(refine xsa rfl rfl rfl rfl hst ?_;clear hst;intro w' hst)|(refine xnw rfl rfl hst ?_;clear hst;intro bn w' hst)) | (with_reducible (refine xval rfl 14 rfl (.agg (slC sl0)) (fun w => by kernel_rfl) ?_)) | (with_reducible (refine callE (HF.out _ (hG.below hst.end)) hst ?_; clear hst; intro w' hst)) | (with_reducible (refine callB (HD.out _) hst ?_; clear hst; intro w' hst)) | (with_reducible (refine xval rfl 41 rfl (.agg (slC sl0)) (fun w => by kernel_rfl) ?_)) | (with_reducible (refine xval rfl 23 rfl (.bool false) (fun w => Fx.e_neq rfl rfl rfl h0 w) ?_)) | (with_reducible (refine xval rfl 27 rfl (.bool true) (fun w => Fx.e_neq rfl rfl rfl h1 w) ?_)))
        refine bodyPost_ret (results2 rfl (res_agg rfl hst.st.has) res_tmp) rfl ⟨HR HU.out, hst.end⟩
    · go_enter Tryz.func82, Tryz.ntmps82
      go_wp2_with (first | (with_reducible first|refine x1 rfl rfl rfl hst ?_|(refine xsa rfl rfl rfl rfl hst ?_;clear hst;intro w' hst)|(refine xnw rfl rfl hst ?_;clear hst;intro bn w' hst)) | (with_reducible (refine xval rfl 14 rfl (.agg (slC sl0)) (fun w => by kernel_rfl) ?_)) | (with_reducible (refine callE (HF.out _ (hG.below hst.end)) hst ?_; clear hst; intro w' hst)) | (with_reducible (refine callB (HD.out _) hst ?_; clear hst; intro w' hst)) | (with_reducible (refine xval rfl 41 rfl (.agg (slC sl0)) (fun w => by kernel_rfl) ?_)) | (with_reducible (refine xval rfl 23 rfl (.bool true) (fun w => Fx.e_neq rfl rfl rfl h0 w) ?_)))
      refine bodyPost_ret (results2 rfl (res_agg rfl hst.st.has) res_tmp) rfl ⟨HR HU.out, hst.end⟩
/-! Follows -/
def slFol (s : Sl) : Option Sl → Bool
  | none => decide (s.n = 1) && (h32 s.prev == h32 [])
  | some t => decide (t.n < s.n) && (decide (s.n - 1 = t.n) && ((h32 s.prev == h32 (slHash t)) && decide (t.clock ≤ s.clock)))
set_option maxHeartbeats 1000000 in
theorem sfollows_nil (s : Sl) (w : World) : Calls Tryz.prog 39 #[.agg (slC s), .pointer none] w (Ret (.bool (slFol s none)) w) := by
  have hst := Sx.startN w
  obtain ⟨d0, h0⟩ : ∃ d, decide (s.n = 1) = d := ⟨_, rfl⟩
  obtain ⟨d1, h1⟩ : ∃ d, (h32 s.prev == h32 []) = d := ⟨_, rfl⟩
  have HU : slFol s none = (d0 && d1) := by unfold slFol; rw [h0, h1]
  rw [HU]
  clear HU
  go_enter Tryz.func39, Tryz.ntmps39
  cases d0
  · go_wp2_with (first | (with_reducible (refine xval rfl 9 rfl (.bool false) (fun w => Fx.e_eql rfl rfl rfl h0 w) ?_)) | (with_reducible first|refine x1 rfl rfl rfl hst ?_|(refine xba rfl rfl hst rfl ?_;clear hst;intro bb w' hst)))
    go_ret
    exact ⟨rfl, hst.end⟩
  · go_wp2_with (first | (with_reducible (refine xval rfl 9 rfl (.bool true) (fun w => Fx.e_eql rfl rfl rfl h0 w) ?_)) | (with_reducible (refine xval rfl 13 rfl (.agg (hashL []).toArray) (fun w => by kernel_rfl) ?_)) | (with_reducible (refine xval rfl 14 rfl (.bool d1) (fun w => Fx.e_eqh rfl rfl rfl h1 w) ?_)) | (with_reducible first|refine x1 rfl rfl rfl hst ?_|refine xa rfl rfl rfl hst ?_|(refine xba rfl rfl hst rfl ?_;clear hst;intro bb w' hst)))
    go_ret
    exact ⟨rfl, hst.end⟩
theorem GBegin.of_sx {S : List Nat} {w0 w : World} {L : List Blk} {D : Dat} {F : List Nat} (h : GBegin w0) (hs : Sx S w0 w L D F) (hS : 0 ∉ S) : GBegin w :=
  ⟨fun i v hi => by
    have h1 := h.at_ i v hi
    have h2 := cell_lt h1
    exact (World.cell?_of_block (a := ⟨0, i, none⟩) (hs.st.kept _ h2 hS)).trans h1⟩
section
/-- A seal that lies somewhere, as data. -/
structure SealAt (D : Dat) (g off : Nat) (t : Sl) : Prop where
  num : LdD D 3 ⟨g, off, none⟩ (.int .i64 t.n)
  clk : LdD D 3 ⟨g, off + 68, none⟩ (.int .i64 t.clock)
  all : LdD D 38 ⟨g, off, none⟩ (.agg (slC t))
theorem SealAt.of {D : Dat} {g off : Nat} {t : Sl} {C : Array Value} {Tb : TypeId} (hD : D (g, C, Tb)) (hc : ∀ j v, (slL t)[j]? = some v → C[off + j]? = some v) : SealAt D g off t :=
  ⟨LdD.one hD (by have := hc 0 _ rfl; simpa using this), LdD.one hD (hc 68 _ rfl), LdD.agg hD ⟨rfl, hc⟩⟩
set_option maxHeartbeats 4000000 in
theorem sfollows_calls (s t : Sl) {g off : Nat} (w : World) (ha : SealAt (snap w) g off t) (hs : -4611686018427387904 ≤ s.n ∧ s.n ≤ 4611686018427387904) (ht : t.start ≤ 4611686018427387904) (hB : GBegin w) (hG : GSha w) :
    Calls Tryz.prog 39 #[.agg (slC s), .pointer (some ⟨g, off, none⟩)] w (Ret (.bool (slFol s (some t))) w) := by
  have hst := Sx.start0 w (snap_holds w)
  obtain ⟨i1, i2, i3⟩ := ha
  have HH := Lib.hid (fun wx (h1 : GBegin wx) (h2 : GSha wx) => shash_calls t ht wx h1 h2)
  go_enter Tryz.func39, Tryz.ntmps39
  go_wp2_with (with_reducible (refine xba rfl rfl hst rfl ?_;clear hst;intro bb w' hst))
  have hcs : (¬ t.n < s.n) ∨ (t.n < s.n ∧ ¬ s.n - 1 = t.n) ∨ (t.n < s.n ∧ s.n - 1 = t.n ∧ ¬ (h32 s.prev == h32 (slHash t)) = true) ∨ (t.n < s.n ∧ s.n - 1 = t.n ∧ (h32 s.prev == h32 (slHash t)) = true ∧ ¬ t.clock ≤ s.clock) ∨ (t.n < s.n ∧ s.n - 1 = t.n ∧ (h32 s.prev == h32 (slHash t)) = true ∧ t.clock ≤ s.clock) := by
    by_cases a : t.n < s.n <;> by_cases b : s.n - 1 = t.n <;> by_cases c : (h32 s.prev == h32 (slHash t)) = true <;> by_cases d : t.clock ≤ s.clock <;> simp [a, b, c, d]
  refine Fx.go (fun _ => false) (fun i => !(i == 1 || i == 5 || i == 9 || i == 14 || i == 19 || i == 22 || i == 23 || i == 28 || i == 32)) (fun _ => false) (List.range 36) rfl hst (by kernel_rfl) (by kernel_rfl) (by kernel_rfl) (by kernel_rfl) (by kernel_rfl) ?_
  show Fx.wpLX _ _ _ [0, 1, 2, 3, 4, 5, 6, 7, 8, 9, 10, 11, 12, 13, 14, 15, 16, 17, 18, 19, 20, 21, 22, 23, 24, 25, 26, 27, 28, 29, 30, 31, 32, 33, 34, 35] _ _
  rcases hcs with h | h | h | h | h
-- FOLCASES
  · have hn := h
    refine Fx.fa rfl rfl rfl rfl rfl rfl ?_
    refine Fx.l1 rfl rfl rfl rfl rfl rfl ?_
    refine Fx.val (v := .pointer (some ⟨g, off, none⟩)) rfl rfl rfl rfl (Fx.e_mv rfl rfl) ?_
    refine Fx.val (v := .pointer (some ⟨g, off, none⟩)) rfl rfl rfl rfl (Fx.e_nil rfl rfl) ?_
    refine Fx.fa rfl rfl rfl rfl rfl rfl ?_
    refine Fx.lD rfl rfl rfl rfl rfl rfl ?_
    refine Fx.val (v := .bool false) rfl rfl rfl rfl (Fx.e_gtr rfl rfl rfl (by first | exact decide_eq_true h0 | exact decide_eq_false hn)) ?_
    refine Fx.val (v := .bool false) rfl rfl rfl rfl (Fx.e_mv rfl rfl) ?_
    refine Fx.skip rfl rfl (by kernel_rfl) rfl ?_
    refine Fx.skipB rfl rfl (by kernel_rfl) (fun w h => h) ?_
    refine Fx.skip rfl rfl (by kernel_rfl) rfl ?_
    refine Fx.skip rfl rfl (by kernel_rfl) rfl ?_
    refine Fx.skip rfl rfl (by kernel_rfl) rfl ?_
    refine Fx.skip rfl rfl (by kernel_rfl) rfl ?_
    refine Fx.skipB rfl rfl (by kernel_rfl) (fun w h => h) ?_
    refine Fx.skip rfl rfl (by kernel_rfl) rfl ?_
    refine Fx.val (v := .bool false) rfl rfl rfl rfl (Fx.e_pkF rfl rfl rfl) ?_
    refine Fx.val (v := .bool false) rfl rfl rfl rfl (Fx.e_mv rfl rfl) ?_
    refine Fx.skip rfl rfl (by kernel_rfl) rfl ?_
    refine Fx.skipB rfl rfl (by kernel_rfl) (fun w h => h) ?_
    refine Fx.skip rfl rfl (by kernel_rfl) rfl ?_
    refine Fx.skip rfl rfl (by kernel_rfl) rfl ?_
    refine Fx.skipB rfl rfl (by kernel_rfl) (fun w h => h) ?_
    refine Fx.skipB rfl rfl (by kernel_rfl) (fun w h => h) ?_
    refine Fx.skip rfl rfl (by kernel_rfl) rfl ?_
    refine Fx.val (v := .bool false) rfl rfl rfl rfl (Fx.e_pkF rfl rfl rfl) ?_
    refine Fx.val (v := .bool false) rfl rfl rfl rfl (Fx.e_mv rfl rfl) ?_
    refine Fx.skip rfl rfl (by kernel_rfl) rfl ?_
    refine Fx.skipB rfl rfl (by kernel_rfl) (fun w h => h) ?_
    refine Fx.skip rfl rfl (by kernel_rfl) rfl ?_
    refine Fx.skip rfl rfl (by kernel_rfl) rfl ?_
    refine Fx.skip rfl rfl (by kernel_rfl) rfl ?_
    refine Fx.skipB rfl rfl (by kernel_rfl) (fun w h => h) ?_
    refine Fx.skip rfl rfl (by kernel_rfl) rfl ?_
    refine Fx.val (v := .bool false) rfl rfl rfl rfl (Fx.e_pkF rfl rfl rfl) ?_
    refine Fx.val (v := .bool false) rfl rfl rfl rfl (Fx.e_as rfl rfl) ?_
    clear hst
    intro w' hst
    generalize hact : Fx.mkO _ _ = act
    have hv : act.tmps.getD 4 undef = .bool false := by rw [← hact]; kernel_rfl
    have hd : act.defers = [] := by rw [← hact]; kernel_rfl
    clear hact
    go_wp2_with fail
    refine bodyPost_ret (results_tmp rfl _ _ _) hd ?_
    rw [hv]
    exact ⟨ret_bool (by first | (simp [slFol, *]; done) | (simp [slFol, *]; intros; omega)), hst.end⟩
  · obtain ⟨h0, hn⟩ := h
    refine Fx.fa rfl rfl rfl rfl rfl rfl ?_
    refine Fx.l1 rfl rfl rfl rfl rfl rfl ?_
    refine Fx.val (v := .pointer (some ⟨g, off, none⟩)) rfl rfl rfl rfl (Fx.e_mv rfl rfl) ?_
    refine Fx.val (v := .pointer (some ⟨g, off, none⟩)) rfl rfl rfl rfl (Fx.e_nil rfl rfl) ?_
    refine Fx.fa rfl rfl rfl rfl rfl rfl ?_
    refine Fx.lD rfl rfl rfl rfl rfl rfl ?_
    refine Fx.val (v := .bool true) rfl rfl rfl rfl (Fx.e_gtr rfl rfl rfl (by first | exact decide_eq_true h0 | exact decide_eq_false hn)) ?_
    refine Fx.val (v := .bool true) rfl rfl rfl rfl (Fx.e_mv rfl rfl) ?_
    refine Fx.fa rfl rfl rfl (by kernel_rfl) rfl rfl ?_
    refine Fx.l1 rfl rfl rfl (by kernel_rfl) rfl rfl ?_
    refine Fx.val (v := .int .i64 (s.n - 1)) rfl rfl rfl (by kernel_rfl) (Fx.e_sub (m := s.n) (n := 1) rfl rfl rfl (by omega)) ?_
    refine Fx.val (v := .pointer (some ⟨g, off, none⟩)) rfl rfl rfl (by kernel_rfl) (Fx.e_mv rfl rfl) ?_
    refine Fx.val (v := .pointer (some ⟨g, off, none⟩)) rfl rfl rfl (by kernel_rfl) (Fx.e_nil rfl rfl) ?_
    refine Fx.fa rfl rfl rfl (by kernel_rfl) rfl rfl ?_
    refine Fx.lD rfl rfl rfl (by kernel_rfl) rfl rfl ?_
    refine Fx.val (v := .bool false) rfl rfl rfl (by kernel_rfl) (Fx.e_eql rfl rfl rfl (by first | exact decide_eq_true h1 | exact decide_eq_false hn)) ?_
    refine Fx.val (v := .bool false) rfl rfl rfl rfl (Fx.e_pkT rfl rfl rfl) ?_
    refine Fx.val (v := .bool false) rfl rfl rfl rfl (Fx.e_mv rfl rfl) ?_
    refine Fx.skip rfl rfl (by kernel_rfl) rfl ?_
    refine Fx.skipB rfl rfl (by kernel_rfl) (fun w h => h) ?_
    refine Fx.skip rfl rfl (by kernel_rfl) rfl ?_
    refine Fx.skip rfl rfl (by kernel_rfl) rfl ?_
    refine Fx.skipB rfl rfl (by kernel_rfl) (fun w h => h) ?_
    refine Fx.skipB rfl rfl (by kernel_rfl) (fun w h => h) ?_
    refine Fx.skip rfl rfl (by kernel_rfl) rfl ?_
    refine Fx.val (v := .bool false) rfl rfl rfl rfl (Fx.e_pkF rfl rfl rfl) ?_
    refine Fx.val (v := .bool false) rfl rfl rfl rfl (Fx.e_mv rfl rfl) ?_
    refine Fx.skip rfl rfl (by kernel_rfl) rfl ?_
    refine Fx.skipB rfl rfl (by kernel_rfl) (fun w h => h) ?_
    refine Fx.skip rfl rfl (by kernel_rfl) rfl ?_
    refine Fx.skip rfl rfl (by kernel_rfl) rfl ?_
    refine Fx.skip rfl rfl (by kernel_rfl) rfl ?_
    refine Fx.skipB rfl rfl (by kernel_rfl) (fun w h => h) ?_
    refine Fx.skip rfl rfl (by kernel_rfl) rfl ?_
    refine Fx.val (v := .bool false) rfl rfl rfl rfl (Fx.e_pkF rfl rfl rfl) ?_
    refine Fx.val (v := .bool false) rfl rfl rfl rfl (Fx.e_as rfl rfl) ?_
    clear hst
    intro w' hst
    generalize hact : Fx.mkO _ _ = act
    have hv : act.tmps.getD 4 undef = .bool false := by rw [← hact]; kernel_rfl
    have hd : act.defers = [] := by rw [← hact]; kernel_rfl
    clear hact
    go_wp2_with fail
    refine bodyPost_ret (results_tmp rfl _ _ _) hd ?_
    rw [hv]
    exact ⟨ret_bool (by first | (simp [slFol, *]; done) | (simp [slFol, *]; intros; omega)), hst.end⟩
  · obtain ⟨h0, h1, hn⟩ := h
    refine Fx.fa rfl rfl rfl rfl rfl rfl ?_
    refine Fx.l1 rfl rfl rfl rfl rfl rfl ?_
    refine Fx.val (v := .pointer (some ⟨g, off, none⟩)) rfl rfl rfl rfl (Fx.e_mv rfl rfl) ?_
    refine Fx.val (v := .pointer (some ⟨g, off, none⟩)) rfl rfl rfl rfl (Fx.e_nil rfl rfl) ?_
    refine Fx.fa rfl rfl rfl rfl rfl rfl ?_
    refine Fx.lD rfl rfl rfl rfl rfl rfl ?_
    refine Fx.val (v := .bool true) rfl rfl rfl rfl (Fx.e_gtr rfl rfl rfl (by first | exact decide_eq_true h0 | exact decide_eq_false hn)) ?_
    refine Fx.val (v := .bool true) rfl rfl rfl rfl (Fx.e_mv rfl rfl) ?_
    refine Fx.fa rfl rfl rfl (by kernel_rfl) rfl rfl ?_
    refine Fx.l1 rfl rfl rfl (by kernel_rfl) rfl rfl ?_
    refine Fx.val (v := .int .i64 (s.n - 1)) rfl rfl rfl (by kernel_rfl) (Fx.e_sub (m := s.n) (n := 1) rfl rfl rfl (by omega)) ?_
    refine Fx.val (v := .pointer (some ⟨g, off, none⟩)) rfl rfl rfl (by kernel_rfl) (Fx.e_mv rfl rfl) ?_
    refine Fx.val (v := .pointer (some ⟨g, off, none⟩)) rfl rfl rfl (by kernel_rfl) (Fx.e_nil rfl rfl) ?_
    refine Fx.fa rfl rfl rfl (by kernel_rfl) rfl rfl ?_
    refine Fx.lD rfl rfl rfl (by kernel_rfl) rfl rfl ?_
    refine Fx.val (v := .bool true) rfl rfl rfl (by kernel_rfl) (Fx.e_eql rfl rfl rfl (by first | exact decide_eq_true h1 | exact decide_eq_false hn)) ?_
    refine Fx.val (v := .bool true) rfl rfl rfl rfl (Fx.e_pkT rfl rfl rfl) ?_
    refine Fx.val (v := .bool true) rfl rfl rfl rfl (Fx.e_mv rfl rfl) ?_
    refine Fx.fa rfl rfl rfl (by kernel_rfl) rfl rfl ?_
    refine Fx.lA rfl rfl rfl (by kernel_rfl) rfl rfl ?_
    refine Fx.val (v := .pointer (some ⟨g, off, none⟩)) rfl rfl rfl (by kernel_rfl) (Fx.e_mv rfl rfl) ?_
    refine Fx.val (v := .pointer (some ⟨g, off, none⟩)) rfl rfl rfl (by kernel_rfl) (Fx.e_nil rfl rfl) ?_
    refine Fx.lD rfl rfl rfl (by kernel_rfl) rfl rfl ?_
    refine Fx.callB rfl rfl (fun w h => h) (fun w h => HH.out w (hB.below h.end) (hG.below h.end)) rfl (by kernel_rfl) (fun w => by kernel_rfl) ?_
    refine Fx.val (v := .bool false) rfl rfl rfl (by kernel_rfl) (Fx.e_eqh rfl rfl rfl (by first | exact h2 | simpa using hn)) ?_
    refine Fx.val (v := .bool false) rfl rfl rfl rfl (Fx.e_pkT rfl rfl rfl) ?_
    refine Fx.val (v := .bool false) rfl rfl rfl rfl (Fx.e_mv rfl rfl) ?_
    refine Fx.skip rfl rfl (by kernel_rfl) rfl ?_
    refine Fx.skipB rfl rfl (by kernel_rfl) (fun w h => h) ?_
    refine Fx.skip rfl rfl (by kernel_rfl) rfl ?_
    refine Fx.skip rfl rfl (by kernel_rfl) rfl ?_
    refine Fx.skip rfl rfl (by kernel_rfl) rfl ?_
    refine Fx.skipB rfl rfl (by kernel_rfl) (fun w h => h) ?_
    refine Fx.skip rfl rfl (by kernel_rfl) rfl ?_
    refine Fx.val (v := .bool false) rfl rfl rfl rfl (Fx.e_pkF rfl rfl rfl) ?_
    refine Fx.val (v := .bool false) rfl rfl rfl rfl (Fx.e_as rfl rfl) ?_
    clear hst
    intro w' hst
    generalize hact : Fx.mkO _ _ = act
    have hv : act.tmps.getD 4 undef = .bool false := by rw [← hact]; kernel_rfl
    have hd : act.defers = [] := by rw [← hact]; kernel_rfl
    clear hact
    go_wp2_with fail
    refine bodyPost_ret (results_tmp rfl _ _ _) hd ?_
    rw [hv]
    exact ⟨ret_bool (by first | (simp [slFol, *]; done) | (simp [slFol, *]; intros; omega)), hst.end⟩
  · obtain ⟨h0, h1, h2, hn⟩ := h
    refine Fx.fa rfl rfl rfl rfl rfl rfl ?_
    refine Fx.l1 rfl rfl rfl rfl rfl rfl ?_
    refine Fx.val (v := .pointer (some ⟨g, off, none⟩)) rfl rfl rfl rfl (Fx.e_mv rfl rfl) ?_
    refine Fx.val (v := .pointer (some ⟨g, off, none⟩)) rfl rfl rfl rfl (Fx.e_nil rfl rfl) ?_
    refine Fx.fa rfl rfl rfl rfl rfl rfl ?_
    refine Fx.lD rfl rfl rfl rfl rfl rfl ?_
    refine Fx.val (v := .bool true) rfl rfl rfl rfl (Fx.e_gtr rfl rfl rfl (by first | exact decide_eq_true h0 | exact decide_eq_false hn)) ?_
    refine Fx.val (v := .bool true) rfl rfl rfl rfl (Fx.e_mv rfl rfl) ?_
    refine Fx.fa rfl rfl rfl (by kernel_rfl) rfl rfl ?_
    refine Fx.l1 rfl rfl rfl (by kernel_rfl) rfl rfl ?_
    refine Fx.val (v := .int .i64 (s.n - 1)) rfl rfl rfl (by kernel_rfl) (Fx.e_sub (m := s.n) (n := 1) rfl rfl rfl (by omega)) ?_
    refine Fx.val (v := .pointer (some ⟨g, off, none⟩)) rfl rfl rfl (by kernel_rfl) (Fx.e_mv rfl rfl) ?_
    refine Fx.val (v := .pointer (some ⟨g, off, none⟩)) rfl rfl rfl (by kernel_rfl) (Fx.e_nil rfl rfl) ?_
    refine Fx.fa rfl rfl rfl (by kernel_rfl) rfl rfl ?_
    refine Fx.lD rfl rfl rfl (by kernel_rfl) rfl rfl ?_
    refine Fx.val (v := .bool true) rfl rfl rfl (by kernel_rfl) (Fx.e_eql rfl rfl rfl (by first | exact decide_eq_true h1 | exact decide_eq_false hn)) ?_
    refine Fx.val (v := .bool true) rfl rfl rfl rfl (Fx.e_pkT rfl rfl rfl) ?_
    refine Fx.val (v := .bool true) rfl rfl rfl rfl (Fx.e_mv rfl rfl) ?_
    refine Fx.fa rfl rfl rfl (by kernel_rfl) rfl rfl ?_
    refine Fx.lA rfl rfl rfl (by kernel_rfl) rfl rfl ?_
    refine Fx.val (v := .pointer (some ⟨g, off, none⟩)) rfl rfl rfl (by kernel_rfl) (Fx.e_mv rfl rfl) ?_
    refine Fx.val (v := .pointer (some ⟨g, off, none⟩)) rfl rfl rfl (by kernel_rfl) (Fx.e_nil rfl rfl) ?_
    refine Fx.lD rfl rfl rfl (by kernel_rfl) rfl rfl ?_
    refine Fx.callB rfl rfl (fun w h => h) (fun w h => HH.out w (hB.below h.end) (hG.below h.end)) rfl (by kernel_rfl) (fun w => by kernel_rfl) ?_
    refine Fx.val (v := .bool true) rfl rfl rfl (by kernel_rfl) (Fx.e_eqh rfl rfl rfl (by first | exact h2 | simpa using hn)) ?_
    refine Fx.val (v := .bool true) rfl rfl rfl rfl (Fx.e_pkT rfl rfl rfl) ?_
    refine Fx.val (v := .bool true) rfl rfl rfl rfl (Fx.e_mv rfl rfl) ?_
    refine Fx.fa rfl rfl rfl (by kernel_rfl) rfl rfl ?_
    refine Fx.l1 rfl rfl rfl (by kernel_rfl) rfl rfl ?_
    refine Fx.val (v := .pointer (some ⟨g, off, none⟩)) rfl rfl rfl (by kernel_rfl) (Fx.e_mv rfl rfl) ?_
    refine Fx.val (v := .pointer (some ⟨g, off, none⟩)) rfl rfl rfl (by kernel_rfl) (Fx.e_nil rfl rfl) ?_
    refine Fx.fa rfl rfl rfl (by kernel_rfl) rfl rfl ?_
    refine Fx.lD rfl rfl rfl (by kernel_rfl) rfl rfl ?_
    refine Fx.val (v := .bool false) rfl rfl rfl (by kernel_rfl) (Fx.e_geq rfl rfl rfl (by first | exact decide_eq_true h3 | exact decide_eq_false hn)) ?_
    refine Fx.val (v := .bool false) rfl rfl rfl rfl (Fx.e_pkT rfl rfl rfl) ?_
    refine Fx.val (v := .bool false) rfl rfl rfl rfl (Fx.e_as rfl rfl) ?_
    clear hst
    intro w' hst
    generalize hact : Fx.mkO _ _ = act
    have hv : act.tmps.getD 4 undef = .bool false := by rw [← hact]; kernel_rfl
    have hd : act.defers = [] := by rw [← hact]; kernel_rfl
    clear hact
    go_wp2_with fail
    refine bodyPost_ret (results_tmp rfl _ _ _) hd ?_
    rw [hv]
    exact ⟨ret_bool (by first | (simp [slFol, *]; done) | (simp [slFol, *]; intros; omega)), hst.end⟩
  · obtain ⟨h0, h1, h2, h3⟩ := h
    refine Fx.fa rfl rfl rfl rfl rfl rfl ?_
    refine Fx.l1 rfl rfl rfl rfl rfl rfl ?_
    refine Fx.val (v := .pointer (some ⟨g, off, none⟩)) rfl rfl rfl rfl (Fx.e_mv rfl rfl) ?_
    refine Fx.val (v := .pointer (some ⟨g, off, none⟩)) rfl rfl rfl rfl (Fx.e_nil rfl rfl) ?_
    refine Fx.fa rfl rfl rfl rfl rfl rfl ?_
    refine Fx.lD rfl rfl rfl rfl rfl rfl ?_
    refine Fx.val (v := .bool true) rfl rfl rfl rfl (Fx.e_gtr rfl rfl rfl (by first | exact decide_eq_true h0 | exact decide_eq_false hn)) ?_
    refine Fx.val (v := .bool true) rfl rfl rfl rfl (Fx.e_mv rfl rfl) ?_
    refine Fx.fa rfl rfl rfl (by kernel_rfl) rfl rfl ?_
    refine Fx.l1 rfl rfl rfl (by kernel_rfl) rfl rfl ?_
    refine Fx.val (v := .int .i64 (s.n - 1)) rfl rfl rfl (by kernel_rfl) (Fx.e_sub (m := s.n) (n := 1) rfl rfl rfl (by omega)) ?_
    refine Fx.val (v := .pointer (some ⟨g, off, none⟩)) rfl rfl rfl (by kernel_rfl) (Fx.e_mv rfl rfl) ?_
    refine Fx.val (v := .pointer (some ⟨g, off, none⟩)) rfl rfl rfl (by kernel_rfl) (Fx.e_nil rfl rfl) ?_
    refine Fx.fa rfl rfl rfl (by kernel_rfl) rfl rfl ?_
    refine Fx.lD rfl rfl rfl (by kernel_rfl) rfl rfl ?_
    refine Fx.val (v := .bool true) rfl rfl rfl (by kernel_rfl) (Fx.e_eql rfl rfl rfl (by first | exact decide_eq_true h1 | exact decide_eq_false hn)) ?_
    refine Fx.val (v := .bool true) rfl rfl rfl rfl (Fx.e_pkT rfl rfl rfl) ?_
    refine Fx.val (v := .bool true) rfl rfl rfl rfl (Fx.e_mv rfl rfl) ?_
    refine Fx.fa rfl rfl rfl (by kernel_rfl) rfl rfl ?_
    refine Fx.lA rfl rfl rfl (by kernel_rfl) rfl rfl ?_
    refine Fx.val (v := .pointer (some ⟨g, off, none⟩)) rfl rfl rfl (by kernel_rfl) (Fx.e_mv rfl rfl) ?_
    refine Fx.val (v := .pointer (some ⟨g, off, none⟩)) rfl rfl rfl (by kernel_rfl) (Fx.e_nil rfl rfl) ?_
    refine Fx.lD rfl rfl rfl (by kernel_rfl) rfl rfl ?_
    refine Fx.callB rfl rfl (fun w h => h) (fun w h => HH.out w (hB.below h.end) (hG.below h.end)) rfl (by kernel_rfl) (fun w => by kernel_rfl) ?_
    refine Fx.val (v := .bool true) rfl rfl rfl (by kernel_rfl) (Fx.e_eqh rfl rfl rfl (by first | exact h2 | simpa using hn)) ?_
    refine Fx.val (v := .bool true) rfl rfl rfl rfl (Fx.e_pkT rfl rfl rfl) ?_
    refine Fx.val (v := .bool true) rfl rfl rfl rfl (Fx.e_mv rfl rfl) ?_
    refine Fx.fa rfl rfl rfl (by kernel_rfl) rfl rfl ?_
    refine Fx.l1 rfl rfl rfl (by kernel_rfl) rfl rfl ?_
    refine Fx.val (v := .pointer (some ⟨g, off, none⟩)) rfl rfl rfl (by kernel_rfl) (Fx.e_mv rfl rfl) ?_
    refine Fx.val (v := .pointer (some ⟨g, off, none⟩)) rfl rfl rfl (by kernel_rfl) (Fx.e_nil rfl rfl) ?_
    refine Fx.fa rfl rfl rfl (by kernel_rfl) rfl rfl ?_
    refine Fx.lD rfl rfl rfl (by kernel_rfl) rfl rfl ?_
    refine Fx.val (v := .bool true) rfl rfl rfl (by kernel_rfl) (Fx.e_geq rfl rfl rfl (by first | exact decide_eq_true h3 | exact decide_eq_false hn)) ?_
    refine Fx.val (v := .bool true) rfl rfl rfl rfl (Fx.e_pkT rfl rfl rfl) ?_
    refine Fx.val (v := .bool true) rfl rfl rfl rfl (Fx.e_as rfl rfl) ?_
    clear hst
    intro w' hst
    generalize hact : Fx.mkO _ _ = act
    have hv : act.tmps.getD 4 undef = .bool true := by rw [← hact]; kernel_rfl
    have hd : act.defers = [] := by rw [← hact]; kernel_rfl
    clear hact
    go_wp2_with fail
    refine bodyPost_ret (results_tmp rfl _ _ _) hd ?_
    rw [hv]
    exact ⟨ret_bool (by first | (simp [slFol, *]; done) | (simp [slFol, *]; intros; omega)), hst.end⟩
-- FOLEND
end
end Go.Proofs.YtigihgbgdillpaaGreatDoor
