/- The contract of frames.text · The contract of frames.Encode. -/
import Derived.Test.YtigihgbgdillpaaGreatDoorP12
import Derived.Test.YtigihgbgdillpaaGreatDoorP13
set_option linter.unusedVariables false
set_option linter.unusedSimpArgs false
set_option maxRecDepth 100000
namespace Go.Proofs.YtigihgbgdillpaaGreatDoor
open Go.RowKit

section
variable {ops : Array Oper} {F : Flow} {Qf : List Blk → Act → Prop} {l : List Nat} {k : Nat} {o : Oper} {L : List Blk} {a : Act}
theorem run_bsb (x : Int) (w : World) : (Instr.buildSlice 115 1 #[(0, .int .u8 x)]).run Tryz.prog w = .ok (.slice (some ⟨w.heap.size, 0, none⟩) 1 1) (w.alloc (.cells #[.int .u8 x] 5)) := by kernel_rfl
/-- '[]byte{x}'. -/
theorem fl_bsb (h0 : ops[k]? = some o) (hs : F.special k = true) (y : Operand) (ho : o.op = .buildSlice 115 1 #[(0, y)]) (x : Int) (hx : a.eval y = .int .u8 x)
    (hB : ∀ b w, St F.S F.w0 w ((b, #[.int .u8 x], 5) :: L) → F.B w) (hk : ∀ b, wpLX ops F Qf l ((b, #[.int .u8 x], 5) :: L) (a.put o.dst (.slice (some ⟨b, 0, none⟩) 1 1))) : wpLX ops F Qf (k :: l) L a := by
  show xstep _ _ _ _ _ _
  unfold xstep
  rw [h0]
  show xdo _ _ _ _ _ _ _
  unfold xdo
  rw [if_pos hs]
  refine ⟨fun L' u => ∃ b, L' = (b, #[.int .u8 x], 5) :: L ∧ u = .slice (some ⟨b, 0, none⟩) 1 1, fun w hw => Or.inl ?_, ?_⟩
  · refine ⟨.slice (some ⟨w.heap.size, 0, none⟩) 1 1, _, (w.heap.size, #[.int .u8 x], 5) :: L, ?_, ⟨_, rfl, rfl⟩, hw.alloc #[.int .u8 x] _⟩
    have hm : (#[(0, y)].map fun p => (p.1, a.eval p.2)) = #[(0, .int .u8 x)] := by simp [hx]
    unfold execOp
    simp only [ho]
    rw [show ((#[(0, y)] : Array (Nat × Operand)).map fun (i, x) => (i, a.eval x)) = #[(0, .int .u8 x)] from hm]
    simp only [Sem.run_bind, run_bsb, Result.andThen_ok]
    rfl
  · rintro L' u ⟨b, rfl, rfl⟩
    exact ⟨Or.inr (fun w hw => hB b w hw), hk b⟩
/-- 'string(b)' of a block of bytes in the list. -/
theorem fl_b2s (h0 : ops[k]? = some o) (hs : F.special k = true) (y : Operand) (ho : o.op = .convert 115 9 y) (g cap : Nat) (bs : List UInt8) (hx : a.eval y = .slice (some ⟨g, 0, none⟩) bs.length cap)
    {C : Array Value} {Tb : TypeId} [kk : Has L g C Tb] (hc : ∀ j (hj : j < bs.length), C[j]? = some (.int .u8 (bs[j].toNat : Int)))
    (A : ByteArray) (hA : mkS bs = A) (hB : ∀ w, St F.S F.w0 w L → F.B w) (hk : wpLX ops F Qf l L (a.put o.dst (.string A))) : wpLX ops F Qf (k :: l) L a := by
  subst hA
  show xstep _ _ _ _ _ _
  unfold xstep
  rw [h0]
  show xdo _ _ _ _ _ _ _
  unfold xdo
  rw [if_pos hs]
  refine ⟨fun L' u => L' = L ∧ u = .string (mkS bs), fun w hw => Or.inl ?_, ?_⟩
  · refine ⟨.string (mkS bs), w, L, ?_, ⟨rfl, rfl⟩, hw⟩
    have hr := run_convert_bytes_back (P := Tryz.prog) w 115 9 5 ⟨g, 0, none⟩ cap bs Tryz.underlying115 Tryz.underlying5 Tryz.underlying9 (fun j hj => by
      rw [addr_add, cell_of_row w g _ _ _ _ hw.has, Nat.zero_add]
      exact hc j hj)
    unfold execOp
    simp only [ho, hx, Sem.run_bind, hr, Result.andThen_ok]
    rfl
  · rintro L' u ⟨rfl, rfl⟩
    exact ⟨Or.inr hB, hk⟩
/-- Texts, one behind the other. -/
theorem fl_cat (h0 : ops[k]? = some o) (hs : F.special k = false) (hp : F.pure k = true) (x y : Operand) (r : TypeId) (ho : o.op = .binOp .add 9 x y r) (A B : ByteArray) (hx : a.eval x = .string A) (hy : a.eval y = .string B)
    (hw : Region.wanted o (yielded ops a.tmps) = true) (hl : A.size + B.size ≤ 9223372036854775807) (hk : wpLX ops F Qf l L (a.put o.dst (.string (A ++ B)))) : wpLX ops F Qf (k :: l) L a :=
  fl_pure h0 hs hp (.string (A ++ B)) hw (fun w => by
    unfold execOp
    simp only [ho, hx, hy, Sem.run_bind, eqGuard_add, Sem.run_pure, Result.andThen_ok, binOp_string_add, run_string_add_sum w A B (by omega)]) hk
end

def frHead (f : Fr) : List UInt8 := UInt8.ofNat f.kind.toNat :: (putL f.epoch 4 ++ (putL f.index 2 ++ putL f.data.size 1))
def frBody (f : Fr) : List UInt8 := frHead f ++ (putL (crc (frHead f ++ ls f.data) : Nat) 4 ++ ls f.data)
def frText (f : Fr) : List UInt8 := frBody f ++ List.replicate (124 - (frBody f).length) 0
theorem frHead_s (f : Fr) : mkS [UInt8.ofNat f.kind.toNat] ++ putF f.epoch 4 ++ putF f.index 2 ++ putF f.data.size 1 = mkS (frHead f) := by
  apply eq_mkS
  simp [ls_append, ls_mkS, frHead, putL]

theorem be_length' : ∀ (b n : Nat), (be b n).length = b
  | 0, _ => rfl
  | b + 1, n => by simp [be, be_length' b]
theorem putL_le (n : Int) (b : Nat) : (putL n b).length ≤ b := by
  have h : putL n b = (putF n b).toList := by rw [ByteArray.toList_eq]; rfl
  rw [h, putF_list]
  split
  · rw [be_length']; exact Nat.le_refl _
  · simp
theorem crc4_lt {r : Nat} (h : r < 4294967296) : crc4 r < 4294967296 := by
  unfold crc4
  exact Nat.xor_lt_two_pow (n := 32) (by omega) (sumsT_lt _)
theorem crcB_lt {r : Nat} (h : r < 4294967296) (c : UInt8) : crcB r c < 4294967296 := by
  have := c.toNat_lt
  exact crc4_lt (crc4_lt (Nat.xor_lt_two_pow (n := 32) h (by omega)))
theorem crc_fold_lt : ∀ (l : List UInt8) (r : Nat), r < 4294967296 → l.foldl crcB r < 4294967296
  | [], _, h => h
  | c :: l, _, h => crc_fold_lt l _ (crcB_lt h c)
theorem crc_lt (l : List UInt8) : crc l < 4294967296 := Nat.xor_lt_two_pow (n := 32) (by omega) (crc_fold_lt l _ (by omega))
theorem frHead_len (f : Fr) : (frHead f).length ≤ 8 := by
  have h1 : (putL f.epoch 4).length ≤ 4 := putL_le f.epoch 4
  have h2 : (putL f.index 2).length ≤ 2 := putL_le f.index 2
  have h3 : (putL f.data.size 1).length ≤ 1 := putL_le f.data.size 1
  simp [frHead]; omega
theorem frBody_len (f : Fr) (hd : f.data.size ≤ 112) : (frBody f).length ≤ 124 := by
  have h1 := frHead_len f
  have h2 : (putL (crc (frHead f ++ ls f.data) : Nat) 4).length ≤ 4 := putL_le _ 4
  simp only [frBody, List.length_append, ls_length]
  omega

set_option maxHeartbeats 4000000 in
theorem frText_calls (f : Fr) (hk : 0 ≤ f.kind ∧ f.kind < 256) (he : f.epoch ≤ 9223372036854775807) (hi : f.index ≤ 9223372036854775807) (hd : f.data.size ≤ 112) (w : World) (hG : GSums w) :
    Calls Tryz.prog 108 #[.agg (frC f)] w fun e w' => e = .returned (.string (mkS (frText f))) ∧ Below w.heap.size w w' := by
  have hst := St.start w
  have C1 := Lib.hid (put_any f.epoch 4 he)
  have C2 := Lib.hid (put_any f.index 2 hi)
  have C3 := Lib.hid (put_any f.data.size 1 (by omega))
  have HK : Hid (∀ j (hj : j < [UInt8.ofNat f.kind.toNat].length), #[Value.int .u8 f.kind][j]? = some (.int .u8 ([UInt8.ofNat f.kind.toNat][j].toNat : Int))) := Lib.hid (by
    intro j hj
    obtain rfl : j = 0 := by simpa using hj
    have : f.kind.toNat % 2 ^ 8 = f.kind.toNat := Nat.mod_eq_of_lt (by omega)
    simp only [List.getElem_cons_zero, UInt8.toNat_ofNat', this, List.getElem?_toArray, List.getElem?_cons_zero]
    rw [Int.toNat_of_nonneg hk.1])
  have HS := Lib.hid (frHead_s f)
  have s0 : (mkS [UInt8.ofNat f.kind.toNat]).size = 1 := rfl
  have s1 := putF_size f.epoch 4
  have s2 := putF_size f.index 2
  have s3 := putF_size f.data.size 1
  go_enter Tryz.func108, Tryz.ntmps108
  go_wp2_with (with_reducible (refine ba rfl rfl ‹_› rfl ?_;intro bb w' hst))
  generalize hS1 : putF f.epoch 4 = S1 at *
  generalize hS2 : putF f.index 2 = S2 at *
  generalize hS3 : putF f.data.size 1 = S3 at *
  generalize hS0 : mkS [UInt8.ofNat f.kind.toNat] = S0 at *
  have K1 : Hid (S0.size + S1.size ≤ 9223372036854775807) := Lib.hid (by omega)
  have K2 : Hid ((S0 ++ S1).size + S2.size ≤ 9223372036854775807) := Lib.hid (by rw [ByteArray.size_append]; omega)
  have K3 : Hid ((S0 ++ S1 ++ S2).size + S3.size ≤ 9223372036854775807) := Lib.hid (by rw [ByteArray.size_append, ByteArray.size_append]; omega)
  refine wp_region_flow ⟨[], w, fun x => x.heap[bb]? = some (.cells (frC f) 165 (0, 0)), fun i => i == 2 || i == 3, fun i => !(i == 1 || i == 5 || i == 9 || i == 13), fun _ => false⟩ [0, 1, 4, 5, 6, 8, 9, 10, 12, 13, 14, 15, 2, 3, 7, 11, 16, 17] rfl (by assumption) (by kernel_rfl) (by kernel_rfl) (by kernel_rfl) (by kernel_rfl) (by kernel_rfl) ?_
  refine fl_pure rfl rfl rfl (Value.pointer (some ⟨bb, 0, none⟩)) (by kernel_rfl) (fun w => by kernel_rfl) ?_
  refine fl_ld rfl rfl rfl _ _ rfl bb 0 (by kernel_rfl) (by kernel_rfl) (fun x hx => St.has hx) (fun x hx => hx) ?_
  refine fl_pure rfl rfl rfl (Value.pointer (some ⟨bb, 1, none⟩)) (by kernel_rfl) (fun w => by kernel_rfl) ?_
  refine fl_ld rfl rfl rfl _ _ rfl bb 1 (by kernel_rfl) (by kernel_rfl) (fun x hx => St.has hx) (fun x hx => hx) ?_
  refine fl_call rfl rfl rfl 59 #[.int .i64 f.epoch, .int .i64 4] (.string S1) (by kernel_rfl) (fun w => by kernel_rfl) C1.out ?_
  refine fl_pure rfl rfl rfl (Value.pointer (some ⟨bb, 2, none⟩)) (by kernel_rfl) (fun w => by kernel_rfl) ?_
  refine fl_ld rfl rfl rfl _ _ rfl bb 2 (by kernel_rfl) (by kernel_rfl) (fun x hx => St.has hx) (fun x hx => hx) ?_
  refine fl_call rfl rfl rfl 59 #[.int .i64 f.index, .int .i64 2] (.string S2) (by kernel_rfl) (fun w => by kernel_rfl) C2.out ?_
  refine fl_pure rfl rfl rfl (Value.pointer (some ⟨bb, 3, none⟩)) (by kernel_rfl) (fun w => by kernel_rfl) ?_
  refine fl_ld rfl rfl rfl _ _ rfl bb 3 (by kernel_rfl) (by kernel_rfl) (fun x hx => St.has hx) (fun x hx => hx) ?_
  refine fl_pure rfl rfl rfl (Value.int .i64 f.data.size) (by kernel_rfl) (fun w => by kernel_rfl) ?_
  refine fl_call rfl rfl rfl 59 #[.int .i64 f.data.size, .int .i64 1] (.string S3) (by kernel_rfl) (fun w => by kernel_rfl) C3.out ?_
  refine fl_bsb rfl rfl _ rfl f.kind (by kernel_rfl) (fun b x hx => St.has hx) ?_
  intro b
  refine fl_b2s rfl rfl _ rfl b 1 [UInt8.ofNat f.kind.toNat] (by kernel_rfl) (C := #[.int .u8 f.kind]) HK.out S0 hS0 (fun x hx => St.has hx) ?_
  refine fl_cat rfl rfl rfl _ _ _ rfl S0 S1 (by kernel_rfl) (by kernel_rfl) (by kernel_rfl) K1.out ?_
  refine fl_cat rfl rfl rfl _ _ _ rfl (S0 ++ S1) S2 (by kernel_rfl) (by kernel_rfl) (by kernel_rfl) K2.out ?_
  refine fl_cat rfl rfl rfl _ _ _ rfl (S0 ++ S1 ++ S2) S3 (by kernel_rfl) (by kernel_rfl) (by kernel_rfl) K3.out ?_
  refine fl_pure rfl rfl rfl (Value.string (S0 ++ S1 ++ S2 ++ S3)) (by kernel_rfl) (fun w => by kernel_rfl) ?_
  intro w2 hst2
  have hG2 : GSums w2 := hG.below hst2.drop.end
  rw [HS.out]
  have hst2' := hst2.drop
  have hbody : Hid (mkS (frBody f) = mkS (frHead f) ++ (putF (crc (ls (mkS (frHead f) ++ f.data)) : Nat) 4 ++ f.data)) := Lib.hid (by
    symm
    apply eq_mkS
    simp [ls_append, ls_mkS, frBody, putL])
  have hlenb : (mkS (frBody f)).size ≤ 124 := by rw [size_mkS]; exact frBody_len f hd
  have hlenh : (mkS (frHead f)).size ≤ 8 := by rw [size_mkS]; exact frHead_len f
  have HT : Hid (mkS (frText f) = mkS (frBody f) ++ mkS (List.replicate (124 - (mkS (frBody f)).size) 0)) := Lib.hid (by
    symm
    apply eq_mkS
    simp [ls_append, ls_mkS, frText, size_mkS])
  clear HS hS0 hS1 hS2 hS3 C1 C2 C3 K1 K2 K3 s0 s1 s2 s3 HK hst2 hst
  generalize hT : mkS (frText f) = T at *
  generalize mkS (frBody f) = B at *
  generalize mkS (frHead f) = H at *
  have hcrc := crc_lt (ls (H ++ f.data))
  have s4 := putF_size (crc (ls (H ++ f.data)) : Nat) 4
  have C4 := Lib.hid (put_any (crc (ls (H ++ f.data)) : Nat) 4 (by omega))
  have hq := hst2'.quiet
  have CS : Hid (∀ (x : Ix w2), Calls Tryz.prog 137 #[.string (H ++ f.data)] x.1 fun e w' => e = .returned (.int .u32 (crc (ls (H ++ f.data)) : Nat)) ∧ Below x.1.heap.size x.1 w') := Lib.hid (fun x => sum_calls _ _ (by rw [ByteArray.size_append]; omega) (hG2.below x.2))
  generalize (crc (ls (H ++ f.data))) = c at *
  generalize putF (c : Nat) 4 = S4 at *
  have k1 : ¬ 9223372036854775807 < H.size + f.data.size := by omega
  have k2 : ¬ 9223372036854775807 < S4.size + f.data.size := by omega
  have k3 : ¬ 9223372036854775807 < H.size + (S4 ++ f.data).size := by rw [ByteArray.size_append]; omega
  go_wp2_with fail
  refine wp_region_below_lit (by kernel_rfl) (by kernel_rfl) ?_
  repeat (first
    | (with_reducible refine q1 rfl rfl rfl hq ?_; simp only [Act.put, List.setIfInBounds_toArray, List.set_cons_succ, List.set_cons_zero])
    | go_big_quiet_step ((first | (go_at_call 59; with_reducible exact Calls.below_of (C4.out _)) | (go_at_call 137; with_reducible exact Calls.below_of (CS.out _)))))
  refine wpQuiet_nil ?_
  intro wq hwq
  have h1 := hq wq hwq
  rw [← hbody.out]
  clear hq hwq CS C4 k1 k2 k3 hst2'
  have hsub : (124 : Int) - (B.size : Int) = ((124 - B.size : Nat) : Int) := by omega
  have hrep := repeat_calls (124 - B.size) (by omega)
  have hz : (mkS (List.replicate (124 - B.size) (0 : UInt8))).size = 124 - B.size := by rw [size_mkS, List.length_replicate]
  have HR := Lib.hid hrep
  clear hrep
  generalize mkS (List.replicate (124 - B.size) 0) = Z at *
  have k4 : ¬ 9223372036854775807 < B.size + Z.size := by omega
  go_wp2_with fail

  refine (HR.out _).mono ?_
  rintro e w3 ⟨rfl, hb3⟩
  have h3 := h1.below hb3
  go_wp2_with fail
  go_ret
  exact ⟨by rw [hT, HT.out]; rfl, h3.end⟩
end Go.Proofs.YtigihgbgdillpaaGreatDoor
namespace Go.Proofs.YtigihgbgdillpaaGreatDoor
open Go.RowKit Go.Shelf
attribute [local go_sem] Oper.semAt_some

/-! ### A function that ranges over a function -/
theorem calls_marks {f : FuncId} {fn : Func} {c : Code} {args : Array Value} {w : World} {R : Ending → World → Prop} (hf : Tryz.prog.funcs[f]? = some fn) (hb : fn.body = some c)
    (h : c.wp Tryz.prog (bodyPostM Fence.wide 9 Tryz.prog fn R) { tmps := args ++ Array.replicate (fn.ntmps - args.size) undef, defers := [] } w) : Calls Tryz.prog f args w R :=
  (callsIn_wide (n := 9)).1 (callsIn_of_wp_marks hf hb trivial (wpIn_wide.2 h) rfl)
theorem marks_ret {fn : Func} {R : Ending → World → Prop} {a : Act} {w : World} {v : Value} (hd : a.defers = []) (hr : (results fn a.tmps).run Tryz.prog w = .ok v w) (h : R (.returned v) w) : bodyPostM Fence.wide 9 Tryz.prog fn R .ret a w := by
  show LeavesInM _ _ _ _ _ _ _ _ _
  rw [hd]
  exact ⟨v, hr, h⟩
theorem marks_end {fn : Func} {R : Ending → World → Prop} {a : Act} {w : World} {v : Value} (hd : a.defers = []) (hr : (results fn a.tmps).run Tryz.prog w = .ok v w) (h : R (.returned v) w) : bodyPostM Fence.wide 9 Tryz.prog fn R .normal a w := marks_ret hd hr h
theorem marks_ret1 {fn : Func} {R : Ending → World → Prop} {a : Act} {w : World} {v : Value} {D : Nat} (hd : a.defers = [{ target := .collected D, args := #[] }]) (hD : w.heap[D]? = some (.deferred (some [])))
    (hr : (results fn a.tmps).run Tryz.prog (w.putObj D (.deferred none)) = .ok v (w.putObj D (.deferred none))) (h : R (.returned v) (w.putObj D (.deferred none))) : bodyPostM Fence.wide 9 Tryz.prog fn R .ret a w := by
  show LeavesInM _ _ _ _ _ _ _ _ _
  rw [hd]
  exact ⟨by simp, .inl ⟨_, _, rfl, run_takeDeferred hD, v, hr, h⟩⟩

instance zeroBld : ZeroT 137 #[.pointer none, .slice none 0 0] := .agg zero_builder
theorem IsB.new {w0 w : World} {b : Nat} {L : List Blk} (h : St [] w0 w ((b, #[.pointer none, .slice none 0 0], 137) :: L)) : IsB w0.heap.size b (Lib.byteCells []) w :=
  Or.inl ⟨by rcases h.own _ (List.mem_cons_self) with h1 | h1 <;> simp at h1; exact h1, .slice none 0 0, h.blk _ (List.mem_cons_self), World.ownsRowF_nil _ _ _ _, by simp [Value.ownBlock]⟩
theorem frCheck_data {f : Fr} (h : frCheck f = 0) : f.data.size ≤ 112 := by
  unfold frCheck at h
  split at h
  · split at h
    · omega
    · split at h <;> omega
  · omega

theorem IsB.aside {B b n : Nat} {bs : List Value} {w w' : World} (h : IsB B b bs w) (ha : Aside n w w') : IsB B b bs w' := by
  have key : ∀ p, Lib.BuilderAtF 137 5 B b p bs w → Lib.BuilderAtF 137 5 B b p bs w' := by
    rintro p ⟨hB, v, hbk, ⟨hl, hown⟩, hne⟩
    refine ⟨hB, v, ha.cells _ _ _ _ hbk, ⟨hl, ?_⟩, hne⟩
    rcases hown with h1 | ⟨g, cap, cur, fz, h1, h2, h3, h4⟩
    · exact Or.inl h1
    · exact Or.inr ⟨g, cap, cur, fz, h1, h2, ha.cells _ _ _ _ h3, h4⟩
  rcases h with h | h
  · exact Or.inl (key _ h)
  · exact Or.inr (key _ h)
/-- A write of a block that is neither a builder nor bytes. -/
theorem IsB.setRow {B b g : Nat} {bs : List Value} {w : World} (h : IsB B b bs w) {C C' : Array Value} {T : TypeId} {z : Nat × Nat} (hg : w.heap[g]? = some (.cells C T z)) (h1 : T ≠ 137) (h2 : T ≠ 5) : IsB B b bs (w.setRow g C') := by
  have ne : ∀ (k : Nat) (D : Array Value) (U : TypeId) (y : Nat × Nat), U = 137 ∨ U = 5 → w.heap[k]? = some (.cells D U y) → (w.setRow g C').heap[k]? = some (.cells D U y) := by
    intro k D U y hU hk
    rw [heap_setRow_other]
    · exact hk
    · rintro rfl
      rw [hg] at hk
      cases hk
      rcases hU with hU | hU
      · exact h1 hU
      · exact h2 hU
  have key : ∀ p, Lib.BuilderAtF 137 5 B b p bs w → Lib.BuilderAtF 137 5 B b p bs (w.setRow g C') := by
    rintro p ⟨hB, v, hbk, ⟨hl, hown⟩, hne⟩
    refine ⟨hB, v, ne _ _ _ _ (Or.inl rfl) hbk, ⟨hl, ?_⟩, hne⟩
    rcases hown with h1 | ⟨g, cap, cur, fz, h1, h2, h3, h4⟩
    · exact Or.inl h1
    · exact Or.inr ⟨g, cap, cur, fz, h1, h2, ne _ _ _ _ (Or.inr rfl) h3, h4⟩
  rcases h with h | h
  · exact Or.inl (key _ h)
  · exact Or.inr (key _ h)
/-- A block that lies from n on is written. -/
theorem Below.setRow' {n g : Nat} (w : World) (C : Array Value) (hg : n ≤ g) : Below n w (w.setRow g C) :=
  ⟨rfl, rfl, rfl, by rw [size_setRow]; exact Nat.le_refl _, fun k hk => heap_setRow_other w g k C (by omega)⟩
/-- Behind a write of the builder the other blocks are as they were. -/
theorem St.kept' {S : List Nat} {B b : Nat} {w0 w w' : World} {L : List Blk} (h : St S w0 w L) (hk : KeptB B b w w') (hB : w0.heap.size ≤ w.heap.size) (hb : ∃ cs, w.heap[b]? = some (.cells cs 137 (0, 0))) (hT : ∀ p ∈ L, p.2.2 ≠ 5 ∧ p.2.2 ≠ 137) :
    ∀ p ∈ L, w'.heap[p.1]? = some (.cells p.2.1 p.2.2 (0, 0)) := fun p hp => by
  refine hk.2 _ _ (h.blk p hp) ?_ ?_
  · intro e
    obtain ⟨cs, hc⟩ := hb
    have e' : p.1 = b := Option.some.inj e
    rw [← e', h.blk p hp] at hc
    injection hc with hc
    injection hc with _ h2
    exact (hT p hp).2 h2
  · intro c fz e
    injection e with _ h2
    exact (hT p hp).1 h2

def frEnc (f : Fr) : List UInt8 × Int := if frCheck f = 0 then (((List.range 4).flatMap fun k => ((frText f).drop (k * 31)).take 31 ++ [165]), 0) else ([], frCheck f)

theorem restS_drop (t : List UInt8) (n : Nat) : ∀ k, restS (mkS t) n k = mkS (t.drop (k * n))
  | 0 => by simp [restS]
  | k + 1 => by
    have h := text_extract (mkS (t.drop (k * n))) n ((t.drop (k * n)).length - n)
    rw [restS, restS_drop t n k, size_mkS]
    by_cases hle : n ≤ (t.drop (k * n)).length
    · rw [show n + ((t.drop (k * n)).length - n) = (t.drop (k * n)).length by omega] at h
      rw [h]
      congr 1
      simp only [sub, ls_mkS, Int.toNat_natCast, List.drop_drop]
      rw [Nat.add_mul, Nat.one_mul, List.take_of_length_le (by simp [List.length_drop]; omega)]
    · have h1 : (t.drop ((k + 1) * n)) = [] := List.drop_eq_nil_of_le (by rw [List.length_drop] at hle; rw [Nat.add_mul, Nat.one_mul]; omega)
      rw [h1]
      apply ByteArray.ext
      simp only [ByteArray.data_extract, mkS]
      rw [Array.extract_empty_of_stop_le_start (by omega)]
theorem restS_part (t : List UInt8) (n k : Nat) : ls ((restS (mkS t) n k).extract 0 n) = (t.drop (k * n)).take n := by
  have h := text_extract (mkS (t.drop (k * n))) 0 n
  rw [Nat.zero_add] at h
  rw [restS_drop, h, ls_mkS]
  simp [sub, ls_mkS]
theorem frText_len (f : Fr) (hd : f.data.size ≤ 112) : (frText f).length = 124 := by
  have := frBody_len f hd
  simp only [frText, List.length_append, List.length_replicate]
  omega
theorem frEnc_out (f : Fr) (hc : frCheck f = 0) : (List.flatMap (fun j => ls ((restS (mkS (frText f)) 31 j).extract 0 31) ++ [165]) (List.range ((mkS (frText f)).size / 31))) = (frEnc f).1 ∧ (frEnc f).2 = 0 := by
  unfold frEnc
  rw [if_pos hc, size_mkS, frText_len f (frCheck_data hc)]
  simp only [restS_part]
  refine ⟨?_, ?_⟩ <;> first | rfl | trivial
theorem flat_succ {α : Type} (g : Nat → List α) (k : Nat) : (List.range (k + 1)).flatMap g = (List.range k).flatMap g ++ g k := by
  rw [List.range_succ, List.flatMap_append]; simp
theorem part_len (s : ByteArray) (k : Nat) : (ls ((restS s 31 k).extract 0 31)).length ≤ 31 := by
  rw [ls_length, ByteArray.size_extract]; omega
theorem out_len (s : ByteArray) : ∀ k, ((List.range k).flatMap fun j => ls ((restS s 31 j).extract 0 31) ++ [165]).length ≤ k * 32
  | 0 => by simp
  | k + 1 => by
    have h := out_len s k
    have h2 := part_len s k
    rw [flat_succ, List.length_append, List.length_append]
    simp only [List.length_cons, List.length_nil]
    omega

/-- Between two rounds: the iterator's cells, the builder. -/
structure EncI (w : World) (sb gb bn : Nat) (s : ByteArray) (long : Nat) (j : Nat) (bs : List UInt8) (W : World) : Prop where
  below : Below w.heap.size w W
  csb : W.heap[sb]? = some (.cells #[.string (restS s long j)] 9 (0, 0))
  cgb : W.heap[gb]? = some (.cells #[.int .i64 long] 3 (0, 0))
  isb : IsB w.heap.size bn (Lib.byteCells bs) W
theorem EncI.aside {w W W' : World} {sb gb bn : Nat} {s : ByteArray} {long j n : Nat} {bs : List UInt8} (h : EncI w sb gb bn s long j bs W) (ha : Aside n W W') (hn : w.heap.size ≤ n) : EncI w sb gb bn s long j bs W' :=
  ⟨h.below.trans (ha.below.mono hn), ha.cells _ _ _ _ h.csb, ha.cells _ _ _ _ h.cgb, h.isb.aside ha⟩
theorem EncI.step {w W : World} {sb gb bn : Nat} {s : ByteArray} {long j : Nat} {bs : List UInt8} (h : EncI w sb gb bn s long j bs W) (hs : w.heap.size ≤ sb) (hne : sb ≠ gb) :
    EncI w sb gb bn s long (j + 1) bs (W.setRow sb #[.string (restS s long (j + 1))]) :=
  ⟨h.below.trans (Below.setRow' W _ hs), setRow_heap W sb _ _ _ _ h.csb, by rw [heap_setRow_other _ _ _ _ (Ne.symm hne)]; exact h.cgb, h.isb.setRow h.csb (by decide) (by decide)⟩
theorem EncI.write {w W W' : World} {sb gb bn : Nat} {s : ByteArray} {long j : Nat} {bs bs' : List UInt8} (h : EncI w sb gb bn s long j bs W) (hi : IsB w.heap.size bn (Lib.byteCells bs') W') (hk : KeptB w.heap.size bn W W') :
    EncI w sb gb bn s long j bs' W' ∧ KeepsOthers W W' := by
  obtain ⟨cs, hcs⟩ := h.isb.block
  have ne : ∀ (k : Nat) (o : Obj), W.heap[k]? = some o → (∀ c t z, o = .cells c t z → t ≠ 137 ∧ t ≠ 5) → W'.heap[k]? = some o := fun k o hk' ho => by
    refine hk.2 k o hk' ?_ ?_
    · intro e
      obtain rfl : k = bn := Option.some.inj e
      rw [hcs] at hk'
      exact (ho _ _ _ (Option.some.inj hk').symm).1 rfl
    · intro c fz e
      exact (ho _ _ _ e).2 rfl
  refine ⟨⟨h.below.trans hk.1, ne _ _ h.csb (fun c t z e => by injection e with _ e; subst e; exact ⟨by decide, by decide⟩), ne _ _ h.cgb (fun c t z e => by injection e with _ e; subst e; exact ⟨by decide, by decide⟩), hi⟩, hk.1.size, ?_⟩
  intro k o hk' ho
  exact ne k o hk' (fun c t z e => by subst e; simp [Obj.isCells] at ho)

set_option maxHeartbeats 4000000 in
theorem frEnc_calls (f : Fr) (hk : 0 ≤ f.kind ∧ f.kind < 256) (he : f.epoch ≤ 9223372036854775807) (hi : f.index ≤ 9223372036854775807) (w : World) (hG : GSums w) :
    Calls Tryz.prog 76 #[.agg (frC f)] w fun e w' => e = .returned (.tuple #[.string (mkS (frEnc f).1), .int .i64 (frEnc f).2]) ∧ Below w.heap.size w w' := by
  have hst := St.start w
  have HC := Lib.hid (frCheck_calls f)
  by_cases hc : frCheck f = 0
  case neg =>
    have HR : Hid (frEnc f = ([], frCheck f)) := Lib.hid (by unfold frEnc; rw [if_neg hc])
    have hne : (frCheck f != 0) = true := by simpa using hc
    generalize frCheck f = r at *
    clear hc
    refine calls_marks Tryz.func76 rfl ?_
    simp only [Tryz.ntmps76, List.size_toArray, List.length_cons, List.length_nil, Nat.reduceAdd, Nat.reduceSub, Array.replicate_succ, Array.replicate_zero, List.push_toArray, List.append_toArray, List.nil_append, List.cons_append]
    go_wp2_with (with_reducible first|refine la rfl rfl rfl ‹_› ?_|(refine ba rfl rfl ‹_› rfl ?_;intro bb w' hst))
    refine (HC.out _).mono ?_
    rintro e w1 ⟨rfl, hb⟩
    have h1 := hst.below hb
    go_wp2_with fail
    refine marks_ret rfl (results_tmp2 rfl _ _ _) ⟨?_, h1.end⟩
    rw [HR.out]; rfl
  case pos =>
    rw [hc] at HC
    refine calls_marks Tryz.func76 rfl ?_
    simp only [Tryz.ntmps76, List.size_toArray, List.length_cons, List.length_nil, Nat.reduceAdd, Nat.reduceSub, Array.replicate_succ, Array.replicate_zero, List.push_toArray, List.append_toArray, List.nil_append, List.cons_append]
    go_wp2_with (with_reducible first|refine la rfl rfl rfl ‹_› ?_|(refine ba rfl rfl ‹_› rfl ?_;intro bb w' hst))
    refine (HC.out _).mono ?_
    rintro e w1 ⟨rfl, hb⟩
    have h1 := hst.below hb
    have hd := frCheck_data hc
    clear hst hb
    go_wp2_with (with_reducible first|refine la rfl rfl rfl ‹_› ?_|(refine nw rfl rfl ‹_› ?_;intro bn w' hst))
    have hib := IsB.new hst
    have h2 := hst.drop
    have HT := Lib.hid (frText_calls f hk he hi hd)
    have hG2 : GSums _ := hG.below h2.end
    refine (HT.out _ hG2).mono ?_
    rintro e w2 ⟨rfl, hb2⟩
    have hib2 := hib.old hb2
    have h3 := h2.below hb2
    clear h1 h2 hib HT hG2 hb2 HC hst
    go_wp2_with fail
    refine (sectors_calls _ _ _).mono ?_
    rintro e w3 ⟨sb, gb, rfl, hs3⟩
    go_wp2_with fail
    have hsz : (mkS (frText f)).size ≤ 1000000 := by rw [size_mkS, frText_len f hd]; omega
    have HO := Lib.hid (frEnc_out f hc)
    have hgs : gb ≠ sb := by have := hs3.nodup; simpa using this
    have hsb : w.heap.size ≤ sb := Nat.le_trans h3.size (by rcases hs3.own (sb, #[.string (mkS (frText f))], 9) (by simp) with h | h <;> simp at h; exact h)
    have hE : EncI w sb gb bn (mkS (frText f)) 31 0 [] w3 := ⟨h3.end.trans (hs3.end.mono h3.size), hs3.blk (sb, #[.string (mkS (frText f))], 9) (by simp), hs3.blk (gb, #[.int .i64 31], 3) (by simp), hib2.old hs3.end⟩
    have hw3 : w.heap.size ≤ w3.heap.size := hE.below.size
    clear hst h3 hs3 hib2
    generalize mkS (frText f) = s at *
    refine wpIn_wide.1 (wp_range (n := 9) (by omega) rfl (enters_of Tryz.func136 (by kernel_rfl) rfl) (sectors1_in 8 (by omega) s 31 (by omega) hsz (by omega) sb gb) (fun _ => rfl)
      (fun k W => EncI w sb gb bn s 31 k ((List.range k).flatMap fun j => ls ((restS s 31 j).extract 0 31) ++ [165]) W) (fun k W => EncI w sb gb bn s 31 (k - 1) ((List.range k).flatMap fun j => ls ((restS s 31 j).extract 0 31) ++ [165]) W) (fun _ _ => False)
      (fun k W W' h ha => h.aside ha hw3) (fun _ _ _ h _ => h) (fun k W W' h ha => h.aside ha hw3)
      (fun k W h => ⟨h.csb, h.cgb⟩) (fun k W _ h => ⟨⟨h.csb, h.cgb⟩, h.step hsb (Ne.symm hgs)⟩) hE _ (by intro l k W K hK; gi_wp2; exact hK) ?body ?done ?stop)
    case stop => exact fun D k W _ h => h.elim
    case done =>
      intro D W hI hD hwD
      have hW := hI.below.size
      have hstr := builder_string_calls w.heap.size bn _ W hI.isb hW
      have HS := Lib.hid hstr
      have HD : Hid (∀ W', KeptB w.heap.size bn W W' → Below w.heap.size w W' ∧ W'.heap[D]? = some (.deferred (some []))) := Lib.hid (fun W' hk' => ⟨hI.below.trans hk'.1, by
        obtain ⟨cs, hcs⟩ := hI.isb.block
        refine hk'.2 D _ hD ?_ (fun c fz e => by cases e)
        intro e
        obtain rfl : D = bn := Option.some.inj e
        rw [hcs] at hD
        cases hD⟩)
      clear hstr hI hE hD
      generalize hout : (List.flatMap (fun j => ls ((restS s 31 j).extract 0 31) ++ [165]) (List.range (s.size / 31))) = out at *
      go_wp2_with fail
      refine HS.out.mono ?_
      rintro e W2 ⟨rfl, _, hk2⟩
      obtain ⟨hb2, hd2⟩ := HD.out W2 hk2
      go_wp2_with fail
      refine marks_ret1 rfl hd2 (results_tmp2 rfl _ _ _) ⟨?_, hb2.trans (Aside.putObj W2 D _ _ (by omega) hd2 rfl).below⟩
      rw [← HO.out.1, HO.out.2]
      rfl
    case body =>
      intro l k W hlt hI
      have hk31 : k ≤ 1000000 := Nat.le_trans (Nat.le_of_lt hlt) (Nat.le_trans (Nat.div_le_self _ _) hsz)
      have ho := out_len s k
      have hp := part_len s k
      have HF := Lib.hid (flat_succ (fun j => ls ((restS s 31 j).extract 0 31) ++ [165]) k)
      generalize hout : ((List.range k).flatMap fun j => ls ((restS s 31 j).extract 0 31) ++ [165]) = out at *
      have hW := hI.below.size
      have hpn : 1 ≤ 9 - 1 - 1 := by omega
      have HW := Lib.hid (write_calls w.heap.size bn out ((restS s 31 k).extract 0 31) W hI.isb (by rw [ls_length] at hp; omega) hW)
      gi_wp2
      refine ⟨trivial, ?_⟩
      refine (CallsIn.inRound l (callsIn_wide.2 HW.out)).mono ?_
      rintro e W2 ⟨rfl, hi2, hk2⟩
      obtain ⟨hI2, ko2⟩ := hI.write hi2 hk2
      have hW2 := hI2.below.size
      have HW2 := Lib.hid (write_calls w.heap.size bn _ ⟨#[165]⟩ W2 hI2.isb (by rw [List.length_append]; have : (ByteArray.mk #[165]).size = 1 := rfl; omega) hW2)
      gi_wp2
      refine ⟨trivial, ?_⟩
      refine (CallsIn.inRound l (callsIn_wide.2 HW2.out)).mono ?_
      rintro e W3 ⟨rfl, hi3, hk3⟩
      obtain ⟨hI3, ko3⟩ := hI2.write hi3 hk3
      gi_wp2
      refine ⟨ko2.trans ko3, ?_⟩
      show EncI w sb gb bn s 31 (k + 1 - 1) ((List.range (k + 1)).flatMap fun j => ls ((restS s 31 j).extract 0 31) ++ [165]) W3
      rw [HF.out]
      rw [List.append_assoc] at hI3
      exact hI3
end Go.Proofs.YtigihgbgdillpaaGreatDoor
