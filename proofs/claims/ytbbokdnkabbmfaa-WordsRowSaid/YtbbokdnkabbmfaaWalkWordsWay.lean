/- The walk of WordsWay: the law returns true. -/
import Derived.Test.YtbbokdnkabbmfaaBackPlain
import Derived.Test.YtbbokdnkabbmfaaRegion
set_option linter.unusedVariables false
set_option linter.unusedSimpArgs false
namespace Go.Proofs.Ytbbokdnkabbmfaa
open Go.RowKit

theorem be_bv (l : List UInt8) : be l.length (bv l) = l := by
  induction l with
  | nil => rfl
  | cons c l ih =>
    have h := bv_lt l
    have hp : 0 < 256 ^ l.length := Nat.pow_pos (by omega)
    have h1 : bv (c :: l) / 256 ^ l.length = c.toNat := by
      rw [bv_cons, Nat.mul_comm, Nat.mul_add_div hp, Nat.div_eq_of_lt h]; omega
    have h2 : bv (c :: l) % 256 ^ l.length = bv l := by
      rw [bv_cons, Nat.mul_comm, Nat.mul_add_mod, Nat.mod_eq_of_lt h]
    simp only [List.length_cons, be, h1]
    rw [← be_mod (bv (c :: l)) l.length l.length (Nat.le_refl _), h2, ih]
    simp

theorem way_put (s : ByteArray) (a b : Nat) (hb : sizeB b = true) (h : a + b ≤ s.size) : putF (bv (sub s a b)) b = s.extract a (a + b) := by
  have hl := sub_length s a b h
  have hlt := bv_lt (sub s a b)
  rw [hl] at hlt
  have e := be_bv (sub s a b)
  rw [hl] at e
  rw [putF_of (by simp [fitsB, hb, hlt]), e, text_extract]

/-- What Get told, as WordsWay asks it. -/
structure WayGet (s : ByteArray) (at_ b : Int) (n : Nat) (a c : Nat) : Prop where
  get : getF s at_ b = some (n, (a : Int) + c)
  ea : at_ = a
  ec : b = c
  le : a + c ≤ s.size
  put : ((putF n b).toList == (s.extract a (a + c)).toList) = true
  lt : n < 9223372036854775808
theorem way_get {s : ByteArray} {at_ b : Int} {n : Nat} {next : Int} (h : getF s at_ b = some (n, next)) : ∃ a c, WayGet s at_ b n a c := by
  obtain ⟨h0, h1, h2, h3, h4, h5, h6⟩ := getF_le h
  obtain ⟨h7, h8⟩ := sizeB_range h3
  obtain ⟨c, rfl⟩ := Int.eq_ofNat_of_zero_le (show 0 ≤ b by omega)
  obtain ⟨a, rfl⟩ := Int.eq_ofNat_of_zero_le h0
  have hle : a + c ≤ s.size := by omega
  subst h4
  exact ⟨a, c, by rw [h, h1], rfl, rfl, hle, by rw [way_put s a c h3 hle]; simp, h6⟩

/-- What GetText told, as WordsWay asks it. -/
structure WayText (s : ByteArray) (at_ : Int) (l : List UInt8) (a : Nat) : Prop where
  get : getTextV (getTextF s at_) = .tuple #[.string (mkS l), .int .i64 ((a : Int) + (l.length + 2)), .bool true]
  ea : at_ = a
  le : a + (l.length + 2) ≤ s.size
  put : putTextV (putTextF (mkS l)) = .tuple #[.string (mkS (be 2 l.length ++ l)), .int .i64 0]
  same : ((s.extract a (a + (l.length + 2))).toList == (mkS (be 2 l.length ++ l)).toList) = true
theorem way_text {s : ByteArray} {at_ : Int} {l : List UInt8} {next : Int} (h : getTextF s at_ = some (l, next)) : ∃ a, WayText s at_ l a := by
  unfold getTextF at h
  cases hg : getF s at_ 2 with
  | none => rw [hg] at h; simp at h
  | some p =>
    obtain ⟨n, nx⟩ := p
    rw [hg] at h
    simp only at h
    split at h
    · rename_i hle
      simp only [Option.some.injEq, Prod.mk.injEq] at h
      obtain ⟨rfl, rfl⟩ := h
      obtain ⟨a, c, hw⟩ := way_get hg
      obtain ⟨h0, h1, h2, h3, h4, h5, h6⟩ := getF_le hg
      have hc : c = 2 := by have := hw.ec; omega
      subst hc
      have hea := hw.ea
      subst hea
      have hn : n ≤ 65535 := by have : n < 256 ^ (2 : Int).toNat := h5; simp at this; omega
      have e1 : nx = ((a + 2 : Nat) : Int) := by rw [h1]; rfl
      subst e1
      have hlen : (sub s ((a + 2 : Nat) : Int) n).length = n := sub_length s (a + 2) n (by omega)
      have hf : getTextF s a = some (sub s ((a + 2 : Nat) : Int) n, ((a + 2 : Nat) : Int) + n) := by
        unfold getTextF; rw [hg]; simp only; rw [if_pos hle]
      refine ⟨a, ?_, rfl, by rw [hlen]; omega, ?_, ?_⟩
      · rw [hf, hlen]
        simp only [getTextV]
        rw [show ((a + 2 : Nat) : Int) + n = (a : Int) + ((n : Int) + 2) from by omega]
      · unfold putTextF
        rw [size_mkS, hlen, if_pos hn]
        rfl
      · rw [hlen, toList_ls, toList_ls, ls_mkS]
        have e2 : ls (s.extract a (a + (n + 2))) = sub s a ((n + 2 : Nat) : Int) := by
          rw [text_extract]; rfl
        have e3 : be 2 n = sub s a (2 : Nat) := by
          have hb2 := be_bv (sub s a (2 : Nat))
          rw [sub_length s a 2 (by omega)] at hb2
          rw [h4]; exact hb2
        rw [e2, e3]
        have e4 : sub s a ((n + 2 : Nat) : Int) = sub s a (2 : Nat) ++ sub s ((a + 2 : Nat) : Int) n := by
          unfold sub
          simp only [Int.toNat_natCast]
          rw [Nat.add_comm n 2, List.take_add, List.drop_drop]
        rw [e4]; simp
    · simp at h

/-- What GetHash told, as WordsWay asks it. -/
structure WayHash (s : ByteArray) (at_ : Int) (h : List UInt8) (a : Nat) : Prop where
  get : getHashV s at_ = .tuple #[arr h, .int .i64 ((a : Int) + 32), .bool true]
  ea : at_ = a
  le : a + 32 ≤ s.size
  len : h.length = 32
  same : ((mkS h).toList == (s.extract a (a + 32)).toList) = true
theorem way_hash {s : ByteArray} {at_ : Int} (ht : thereB s at_ 32 = true) : ∃ h a, WayHash s at_ h a := by
  have h1 := ht
  simp [thereB] at h1
  obtain ⟨a, rfl⟩ := Int.eq_ofNat_of_zero_le h1.1
  have hle : a + 32 ≤ s.size := by omega
  refine ⟨sub s a (32 : Nat), a, ?_, rfl, hle, sub_length s a 32 hle, ?_⟩
  · unfold getHashV; rw [ht]; rfl
  · rw [text_extract]; simp
theorem way_no_hash {s : ByteArray} {at_ : Int} (ht : thereB s at_ 32 = false) : getHashV s at_ = .tuple #[arr (zeros 32), .int .i64 0, .bool false] := by
  unfold getHashV; rw [ht]; rfl

theorem slice_mid (s : ByteArray) (a c : Nat) (d : Int) (hd : d = c) (h : a + c ≤ s.size) (W : World) : (Instr.slice 9 (.string s) (some (.int .i64 a)) (some (.int .i64 ((a : Int) + d))) none).run Try.prog W = .ok (.string (s.extract a (a + c))) W := by
  subst hd
  have := run_slice_string (P := Try.prog) W 9 s .i64 .i64 a ((a : Int) + c) T9 (by omega) (by omega) (by omega)
  rw [show ((a : Int) + c).toNat = a + c from by omega, Int.toNat_natCast] at this
  exact this

theorem wpQuiet_load_hash {ops : Array Oper} {rest : List Oper} {o : Oper} {a : Act} {C : World → Prop} {Q : Act → Prop} (hw : Region.wanted o (yielded ops a.tmps) = true) (x : Operand) (ho : o.op = .load 37 x)
    (g : Nat) (hx : a.eval x = .pointer (some ⟨g, 0, none⟩)) (h : List UInt8) (hl : h.length = 32) (t : TypeId) (hg : ∀ w, C w → w.heap[g]? = some (.cells (arrC h) t (0, 0)))
    (hk : wpQuiet Try.prog ops C Q rest (a.put o.dst (arr h))) : wpQuiet Try.prog ops C Q (o :: rest) a :=
  BigFrame.wpQuiet_want hw fun K hK => ⟨arr h, fun w hC => by
    have hr := run_loadVar_row (P := Try.prog) w g t 37 (arrC h) (0, 0) _ (hg w hC) U37 rfl (by rw [arrC_size, hl]; exact I37)
    unfold Oper.quietAt execOp
    simp only [ho, hx, Instr.loadAt, Instr.sureAddr, Sem.run_bind, Sem.run_pure, Result.andThen_ok, hr]
    exact ⟨rfl, arr_eq h⟩, hK _ hk⟩

set_option maxRecDepth 100000 in
set_option maxHeartbeats 4000000 in
theorem way_walk000 (s : ByteArray) (at_ b : Int) (hs : s.size ≤ 2000) (hg : getF s at_ b = none) (ht : getTextF s at_ = none) (hh : getHashV s at_ = .tuple #[arr (zeros 32), .int .i64 0, .bool false]) (w : World) :
    Calls Try.prog 9 #[.string s, .int .i64 at_, .int .i64 b] w fun e w' => e = .returned (.bool true) ∧ Below w.heap.size w w' := by
  have hm : s.size ≤ maxLen := by unfold maxLen; omega
  have f1 : decide ((2000 : Int) < (s.size : Int)) = false := by simp; omega
  have HG := Lib.hid hg
  clear hg
  have HT : Hid (getTextV (getTextF s at_) = .tuple #[.string ⟨#[]⟩, .int .i64 0, .bool false]) := Lib.hid (by rw [ht]; rfl)
  have HU : Hid (putTextV (putTextF ⟨#[]⟩) = .tuple #[.string ⟨#[0, 0]⟩, .int .i64 0]) := Lib.hid (by kernel_rfl)
  clear ht
  have HH := Lib.hid hh
  have hl := zeros_length 32
  clear hh
  go_enter Try.func9, Try.ntmps9
  go_wp2_with fail
  refine (get_any _ _ _ hm _).mono ?_
  rintro e w' ⟨rfl, rfl⟩
  rw [HG.out]
  simp only [getV]
  go_wp2_with fail
  refine wp_region_below_lit (by kernel_rfl) (by kernel_rfl) ?_
  repeat (go_big_quiet_step (fail))
  refine wpQuiet_nil ?_
  rintro _ ⟨⟨w1, hb1⟩, rfl⟩
  go_wp2_with fail
  refine (get_text_calls _ _ hm _).mono ?_
  rintro e w' ⟨rfl, rfl⟩
  rw [HT.out]
  go_wp2_with fail
  refine (put_text_calls _ (by decide) _).mono ?_
  rintro e w2 ⟨rfl, hb2⟩
  rw [HU.out]
  go_wp2_with fail
  refine (get_hash_calls _ _ hm _).mono ?_
  rintro e w3 ⟨rfl, hb3⟩
  rw [HH.out]
  go_wp2_with (first
    | (with_reducible refine wpList_alloc_row rfl 37 rfl (arrC (zeros 32)) alloc_hash ?_)
    | (with_reducible refine wpList_store_hash rfl (.tmp 15) (.tmp 100) rfl (zeros 32) (zeros 32) rfl rfl hl (zeros_length 32) _ ?_))
  have HB : Hid (∀ n : Ix (w3.alloc (.cells (arrC (zeros 32)) 37)), n.1.heap[w3.heap.size]? = some (.cells (arrC (zeros 32)) 37 (0, 0))) := Lib.hid (fun n => by rw [n.2.block _ (by simp), heap_alloc_new])
  refine wp_region_below_lit (by kernel_rfl) (by kernel_rfl) ?_
  repeat (go_big_quiet_step (fail))
  refine wpQuiet_nil ?_
  rintro _ ⟨⟨w4, hb4⟩, rfl⟩
  go_wp2_with fail
  refine (does_calls _).mono ?_
  rintro e w5 ⟨rfl, hb5⟩
  go_wp2_with fail
  go_ret
  exact ⟨rfl, bel (bel (bel_alloc (bel (bel hb1 hb2) hb3)) hb4) hb5⟩

set_option maxRecDepth 100000 in
set_option maxHeartbeats 4000000 in
theorem way_walk001 (s : ByteArray) (at_ b : Int) (hs : s.size ≤ 2000) (hg : getF s at_ b = none) (ht : getTextF s at_ = none) (h : List UInt8) (a'' : Nat) (hh : WayHash s at_ h a'') (w : World) :
    Calls Try.prog 9 #[.string s, .int .i64 at_, .int .i64 b] w fun e w' => e = .returned (.bool true) ∧ Below w.heap.size w w' := by
  have hm : s.size ≤ maxLen := by unfold maxLen; omega
  have f1 : decide ((2000 : Int) < (s.size : Int)) = false := by simp; omega
  have ea'' := hh.ea
  subst ea''
  have HG := Lib.hid hg
  clear hg
  have HT : Hid (getTextV (getTextF s (a'' : Int)) = .tuple #[.string ⟨#[]⟩, .int .i64 0, .bool false]) := Lib.hid (by rw [ht]; rfl)
  have HU : Hid (putTextV (putTextF ⟨#[]⟩) = .tuple #[.string ⟨#[0, 0]⟩, .int .i64 0]) := Lib.hid (by kernel_rfl)
  clear ht
  have hle'' := hh.le
  have HH := Lib.hid hh.get
  have HE := Lib.hid hh.same
  have hl := hh.len
  clear hh
  go_enter Try.func9, Try.ntmps9
  go_wp2_with fail
  refine (get_any _ _ _ hm _).mono ?_
  rintro e w' ⟨rfl, rfl⟩
  rw [HG.out]
  simp only [getV]
  go_wp2_with fail
  refine wp_region_below_lit (by kernel_rfl) (by kernel_rfl) ?_
  repeat (go_big_quiet_step (fail))
  refine wpQuiet_nil ?_
  rintro _ ⟨⟨w1, hb1⟩, rfl⟩
  go_wp2_with fail
  refine (get_text_calls _ _ hm _).mono ?_
  rintro e w' ⟨rfl, rfl⟩
  rw [HT.out]
  go_wp2_with fail
  refine (put_text_calls _ (by decide) _).mono ?_
  rintro e w2 ⟨rfl, hb2⟩
  rw [HU.out]
  go_wp2_with fail
  refine (get_hash_calls _ _ hm _).mono ?_
  rintro e w3 ⟨rfl, hb3⟩
  rw [HH.out]
  go_wp2_with (first
    | (with_reducible refine wpList_alloc_row rfl 37 rfl (arrC (zeros 32)) alloc_hash ?_)
    | (with_reducible refine wpList_store_hash rfl (.tmp 15) (.tmp 100) rfl (zeros 32) h rfl rfl hl (zeros_length 32) _ ?_))
  have HB : Hid (∀ n : Ix (w3.alloc (.cells (arrC h) 37)), n.1.heap[w3.heap.size]? = some (.cells (arrC h) 37 (0, 0))) := Lib.hid (fun n => by rw [n.2.block _ (by simp), heap_alloc_new])
  have g2 : decide ((s.size : Int) < (a'' : Int) + 32) = false := by simp; omega
  have g4 : IntKind.i64.wrap ((a'' : Int) + 32) = (a'' : Int) + 32 := IntWalk.i64_in _ (by omega)
  have g5 := slice_mid s a'' 32 32 rfl (by omega)
  have g6 := HE.out
  refine wp_region_below_lit (by kernel_rfl) (by kernel_rfl) ?_
  repeat (first
    | go_big_quiet_step ((go_at_call 23; refine Calls.below_of (put_hash_calls _ hl _)))
    | (with_reducible refine wpQuiet_load_hash rfl (.tmp 15) rfl w3.heap.size rfl h hl _ (by rintro _ ⟨n, rfl⟩; exact HB.out n) ?_; simp only [Act.put, List.setIfInBounds_toArray, List.set_cons_succ, List.set_cons_zero]))
  refine wpQuiet_nil ?_
  rintro _ ⟨⟨w4, hb4⟩, rfl⟩
  clear g2 g4 g5 g6
  go_wp2_with fail
  refine (does_calls _).mono ?_
  rintro e w5 ⟨rfl, hb5⟩
  go_wp2_with fail
  go_ret
  exact ⟨rfl, bel (bel (bel_alloc (bel (bel hb1 hb2) hb3)) hb4) hb5⟩

set_option maxRecDepth 100000 in
set_option maxHeartbeats 4000000 in
theorem way_walk010 (s : ByteArray) (at_ b : Int) (hs : s.size ≤ 2000) (hg : getF s at_ b = none) (l : List UInt8) (a' : Nat) (ht : WayText s at_ l a') (hh : getHashV s at_ = .tuple #[arr (zeros 32), .int .i64 0, .bool false]) (w : World) :
    Calls Try.prog 9 #[.string s, .int .i64 at_, .int .i64 b] w fun e w' => e = .returned (.bool true) ∧ Below w.heap.size w w' := by
  have hm : s.size ≤ maxLen := by unfold maxLen; omega
  have f1 : decide ((2000 : Int) < (s.size : Int)) = false := by simp; omega
  have ea' := ht.ea
  subst ea'
  have HG := Lib.hid hg
  clear hg
  have hle' := ht.le
  have HT := Lib.hid ht.get
  have HU := Lib.hid ht.put
  have HX := Lib.hid ht.same
  clear ht
  have HZ := Lib.hid (show (mkS (be 2 l.length ++ l)).size = l.length + 2 by simp [size_mkS, be_length]; omega)
  have hml : (mkS l).size ≤ maxLen := by rw [size_mkS]; unfold maxLen; omega
  have HH := Lib.hid hh
  have hl := zeros_length 32
  clear hh
  go_enter Try.func9, Try.ntmps9
  go_wp2_with fail
  refine (get_any _ _ _ hm _).mono ?_
  rintro e w' ⟨rfl, rfl⟩
  rw [HG.out]
  simp only [getV]
  go_wp2_with fail
  refine wp_region_below_lit (by kernel_rfl) (by kernel_rfl) ?_
  repeat (go_big_quiet_step (fail))
  refine wpQuiet_nil ?_
  rintro _ ⟨⟨w1, hb1⟩, rfl⟩
  go_wp2_with fail
  refine (get_text_calls _ _ hm _).mono ?_
  rintro e w' ⟨rfl, rfl⟩
  rw [HT.out]
  go_wp2_with fail
  refine (put_text_calls _ hml _).mono ?_
  rintro e w2 ⟨rfl, hb2⟩
  rw [HU.out]
  have g2 : decide ((s.size : Int) < (a' : Int) + (l.length + 2)) = false := by simp; omega
  have g3 : ((a' : Int) + ((l.length : Int) + 2) != (a' : Int) + ((mkS (be 2 l.length ++ l)).size : Int)) = false := by rw [HZ.out]; simp
  have g4 : (mkS (be 2 l.length ++ l)).size ≤ 3000 := by rw [HZ.out]; omega
  have g5 := slice_mid s a' (l.length + 2) ((l.length : Int) + 2) rfl (by omega)
  have g6 := HX.out
  go_wp2_with fail
  clear g2 g3 g4 g5 g6
  refine (get_hash_calls _ _ hm _).mono ?_
  rintro e w3 ⟨rfl, hb3⟩
  rw [HH.out]
  go_wp2_with (first
    | (with_reducible refine wpList_alloc_row rfl 37 rfl (arrC (zeros 32)) alloc_hash ?_)
    | (with_reducible refine wpList_store_hash rfl (.tmp 15) (.tmp 100) rfl (zeros 32) (zeros 32) rfl rfl hl (zeros_length 32) _ ?_))
  have HB : Hid (∀ n : Ix (w3.alloc (.cells (arrC (zeros 32)) 37)), n.1.heap[w3.heap.size]? = some (.cells (arrC (zeros 32)) 37 (0, 0))) := Lib.hid (fun n => by rw [n.2.block _ (by simp), heap_alloc_new])
  refine wp_region_below_lit (by kernel_rfl) (by kernel_rfl) ?_
  repeat (go_big_quiet_step (fail))
  refine wpQuiet_nil ?_
  rintro _ ⟨⟨w4, hb4⟩, rfl⟩
  go_wp2_with fail
  refine (does_calls _).mono ?_
  rintro e w5 ⟨rfl, hb5⟩
  go_wp2_with fail
  go_ret
  exact ⟨rfl, bel (bel (bel_alloc (bel (bel hb1 hb2) hb3)) hb4) hb5⟩

set_option maxRecDepth 100000 in
set_option maxHeartbeats 4000000 in
theorem way_walk011 (s : ByteArray) (at_ b : Int) (hs : s.size ≤ 2000) (hg : getF s at_ b = none) (l : List UInt8) (a' : Nat) (ht : WayText s at_ l a') (h : List UInt8) (a'' : Nat) (hh : WayHash s at_ h a'') (w : World) :
    Calls Try.prog 9 #[.string s, .int .i64 at_, .int .i64 b] w fun e w' => e = .returned (.bool true) ∧ Below w.heap.size w w' := by
  have hm : s.size ≤ maxLen := by unfold maxLen; omega
  have f1 : decide ((2000 : Int) < (s.size : Int)) = false := by simp; omega
  have ea' := ht.ea
  subst ea'
  have ea'' := hh.ea
  have e'' : a'' = a' := by omega
  subst e''
  clear ea''
  have HG := Lib.hid hg
  clear hg
  have hle' := ht.le
  have HT := Lib.hid ht.get
  have HU := Lib.hid ht.put
  have HX := Lib.hid ht.same
  clear ht
  have HZ := Lib.hid (show (mkS (be 2 l.length ++ l)).size = l.length + 2 by simp [size_mkS, be_length]; omega)
  have hml : (mkS l).size ≤ maxLen := by rw [size_mkS]; unfold maxLen; omega
  have hle'' := hh.le
  have HH := Lib.hid hh.get
  have HE := Lib.hid hh.same
  have hl := hh.len
  clear hh
  go_enter Try.func9, Try.ntmps9
  go_wp2_with fail
  refine (get_any _ _ _ hm _).mono ?_
  rintro e w' ⟨rfl, rfl⟩
  rw [HG.out]
  simp only [getV]
  go_wp2_with fail
  refine wp_region_below_lit (by kernel_rfl) (by kernel_rfl) ?_
  repeat (go_big_quiet_step (fail))
  refine wpQuiet_nil ?_
  rintro _ ⟨⟨w1, hb1⟩, rfl⟩
  go_wp2_with fail
  refine (get_text_calls _ _ hm _).mono ?_
  rintro e w' ⟨rfl, rfl⟩
  rw [HT.out]
  go_wp2_with fail
  refine (put_text_calls _ hml _).mono ?_
  rintro e w2 ⟨rfl, hb2⟩
  rw [HU.out]
  have g2 : decide ((s.size : Int) < (a'' : Int) + (l.length + 2)) = false := by simp; omega
  have g3 : ((a'' : Int) + ((l.length : Int) + 2) != (a'' : Int) + ((mkS (be 2 l.length ++ l)).size : Int)) = false := by rw [HZ.out]; simp
  have g4 : (mkS (be 2 l.length ++ l)).size ≤ 3000 := by rw [HZ.out]; omega
  have g5 := slice_mid s a'' (l.length + 2) ((l.length : Int) + 2) rfl (by omega)
  have g6 := HX.out
  go_wp2_with fail
  clear g2 g3 g4 g5 g6
  refine (get_hash_calls _ _ hm _).mono ?_
  rintro e w3 ⟨rfl, hb3⟩
  rw [HH.out]
  go_wp2_with (first
    | (with_reducible refine wpList_alloc_row rfl 37 rfl (arrC (zeros 32)) alloc_hash ?_)
    | (with_reducible refine wpList_store_hash rfl (.tmp 15) (.tmp 100) rfl (zeros 32) h rfl rfl hl (zeros_length 32) _ ?_))
  have HB : Hid (∀ n : Ix (w3.alloc (.cells (arrC h) 37)), n.1.heap[w3.heap.size]? = some (.cells (arrC h) 37 (0, 0))) := Lib.hid (fun n => by rw [n.2.block _ (by simp), heap_alloc_new])
  have g2 : decide ((s.size : Int) < (a'' : Int) + 32) = false := by simp; omega
  have g4 : IntKind.i64.wrap ((a'' : Int) + 32) = (a'' : Int) + 32 := IntWalk.i64_in _ (by omega)
  have g5 := slice_mid s a'' 32 32 rfl (by omega)
  have g6 := HE.out
  refine wp_region_below_lit (by kernel_rfl) (by kernel_rfl) ?_
  repeat (first
    | go_big_quiet_step ((go_at_call 23; refine Calls.below_of (put_hash_calls _ hl _)))
    | (with_reducible refine wpQuiet_load_hash rfl (.tmp 15) rfl w3.heap.size rfl h hl _ (by rintro _ ⟨n, rfl⟩; exact HB.out n) ?_; simp only [Act.put, List.setIfInBounds_toArray, List.set_cons_succ, List.set_cons_zero]))
  refine wpQuiet_nil ?_
  rintro _ ⟨⟨w4, hb4⟩, rfl⟩
  clear g2 g4 g5 g6
  go_wp2_with fail
  refine (does_calls _).mono ?_
  rintro e w5 ⟨rfl, hb5⟩
  go_wp2_with fail
  go_ret
  exact ⟨rfl, bel (bel (bel_alloc (bel (bel hb1 hb2) hb3)) hb4) hb5⟩

set_option maxRecDepth 100000 in
set_option maxHeartbeats 4000000 in
theorem way_walk100 (s : ByteArray) (at_ b : Int) (hs : s.size ≤ 2000) (n : Nat) (a c : Nat) (hg : WayGet s at_ b n a c) (ht : getTextF s at_ = none) (hh : getHashV s at_ = .tuple #[arr (zeros 32), .int .i64 0, .bool false]) (w : World) :
    Calls Try.prog 9 #[.string s, .int .i64 at_, .int .i64 b] w fun e w' => e = .returned (.bool true) ∧ Below w.heap.size w w' := by
  have hm : s.size ≤ maxLen := by unfold maxLen; omega
  have f1 : decide ((2000 : Int) < (s.size : Int)) = false := by simp; omega
  have ea := hg.ea
  have ec := hg.ec
  subst ea ec
  have hle := hg.le
  have HG := Lib.hid hg.get
  have HP := Lib.hid hg.put
  have hn : (n : Int) ≤ 9223372036854775807 := by have := hg.lt; omega
  clear hg
  have HT : Hid (getTextV (getTextF s (a : Int)) = .tuple #[.string ⟨#[]⟩, .int .i64 0, .bool false]) := Lib.hid (by rw [ht]; rfl)
  have HU : Hid (putTextV (putTextF ⟨#[]⟩) = .tuple #[.string ⟨#[0, 0]⟩, .int .i64 0]) := Lib.hid (by kernel_rfl)
  clear ht
  have HH := Lib.hid hh
  have hl := zeros_length 32
  clear hh
  go_enter Try.func9, Try.ntmps9
  go_wp2_with fail
  refine (get_any _ _ _ hm _).mono ?_
  rintro e w' ⟨rfl, rfl⟩
  rw [HG.out]
  simp only [getV]
  go_wp2_with fail
  have g1 : decide ((n : Int) < 0) = false := by simp
  have g2 : decide ((s.size : Int) < (a : Int) + c) = false := by simp; omega
  have g4 : IntKind.i64.wrap ((a : Int) + c) = (a : Int) + c := IntWalk.i64_in _ (by omega)
  have g5 := slice_mid s a c c rfl (by omega)
  have g6 := HP.out
  refine wp_region_below_lit (by kernel_rfl) (by kernel_rfl) ?_
  repeat (go_big_quiet_step ((go_at_call 14; refine Calls.below_of (put_any _ _ hn _))))
  refine wpQuiet_nil ?_
  rintro _ ⟨⟨w1, hb1⟩, rfl⟩
  clear g1 g2 g4 g5 g6
  go_wp2_with fail
  refine (get_text_calls _ _ hm _).mono ?_
  rintro e w' ⟨rfl, rfl⟩
  rw [HT.out]
  go_wp2_with fail
  refine (put_text_calls _ (by decide) _).mono ?_
  rintro e w2 ⟨rfl, hb2⟩
  rw [HU.out]
  go_wp2_with fail
  refine (get_hash_calls _ _ hm _).mono ?_
  rintro e w3 ⟨rfl, hb3⟩
  rw [HH.out]
  go_wp2_with (first
    | (with_reducible refine wpList_alloc_row rfl 37 rfl (arrC (zeros 32)) alloc_hash ?_)
    | (with_reducible refine wpList_store_hash rfl (.tmp 15) (.tmp 100) rfl (zeros 32) (zeros 32) rfl rfl hl (zeros_length 32) _ ?_))
  have HB : Hid (∀ n : Ix (w3.alloc (.cells (arrC (zeros 32)) 37)), n.1.heap[w3.heap.size]? = some (.cells (arrC (zeros 32)) 37 (0, 0))) := Lib.hid (fun n => by rw [n.2.block _ (by simp), heap_alloc_new])
  refine wp_region_below_lit (by kernel_rfl) (by kernel_rfl) ?_
  repeat (go_big_quiet_step (fail))
  refine wpQuiet_nil ?_
  rintro _ ⟨⟨w4, hb4⟩, rfl⟩
  go_wp2_with fail
  refine (does_calls _).mono ?_
  rintro e w5 ⟨rfl, hb5⟩
  go_wp2_with fail
  go_ret
  exact ⟨rfl, bel (bel (bel_alloc (bel (bel hb1 hb2) hb3)) hb4) hb5⟩

set_option maxRecDepth 100000 in
set_option maxHeartbeats 4000000 in
theorem way_walk101 (s : ByteArray) (at_ b : Int) (hs : s.size ≤ 2000) (n : Nat) (a c : Nat) (hg : WayGet s at_ b n a c) (ht : getTextF s at_ = none) (h : List UInt8) (a'' : Nat) (hh : WayHash s at_ h a'') (w : World) :
    Calls Try.prog 9 #[.string s, .int .i64 at_, .int .i64 b] w fun e w' => e = .returned (.bool true) ∧ Below w.heap.size w w' := by
  have hm : s.size ≤ maxLen := by unfold maxLen; omega
  have f1 : decide ((2000 : Int) < (s.size : Int)) = false := by simp; omega
  have ea := hg.ea
  have ec := hg.ec
  subst ea ec
  have ea'' := hh.ea
  have e'' : a'' = a := by omega
  subst e''
  clear ea''
  have hle := hg.le
  have HG := Lib.hid hg.get
  have HP := Lib.hid hg.put
  have hn : (n : Int) ≤ 9223372036854775807 := by have := hg.lt; omega
  clear hg
  have HT : Hid (getTextV (getTextF s (a'' : Int)) = .tuple #[.string ⟨#[]⟩, .int .i64 0, .bool false]) := Lib.hid (by rw [ht]; rfl)
  have HU : Hid (putTextV (putTextF ⟨#[]⟩) = .tuple #[.string ⟨#[0, 0]⟩, .int .i64 0]) := Lib.hid (by kernel_rfl)
  clear ht
  have hle'' := hh.le
  have HH := Lib.hid hh.get
  have HE := Lib.hid hh.same
  have hl := hh.len
  clear hh
  go_enter Try.func9, Try.ntmps9
  go_wp2_with fail
  refine (get_any _ _ _ hm _).mono ?_
  rintro e w' ⟨rfl, rfl⟩
  rw [HG.out]
  simp only [getV]
  go_wp2_with fail
  have g1 : decide ((n : Int) < 0) = false := by simp
  have g2 : decide ((s.size : Int) < (a'' : Int) + c) = false := by simp; omega
  have g4 : IntKind.i64.wrap ((a'' : Int) + c) = (a'' : Int) + c := IntWalk.i64_in _ (by omega)
  have g5 := slice_mid s a'' c c rfl (by omega)
  have g6 := HP.out
  refine wp_region_below_lit (by kernel_rfl) (by kernel_rfl) ?_
  repeat (go_big_quiet_step ((go_at_call 14; refine Calls.below_of (put_any _ _ hn _))))
  refine wpQuiet_nil ?_
  rintro _ ⟨⟨w1, hb1⟩, rfl⟩
  clear g1 g2 g4 g5 g6
  go_wp2_with fail
  refine (get_text_calls _ _ hm _).mono ?_
  rintro e w' ⟨rfl, rfl⟩
  rw [HT.out]
  go_wp2_with fail
  refine (put_text_calls _ (by decide) _).mono ?_
  rintro e w2 ⟨rfl, hb2⟩
  rw [HU.out]
  go_wp2_with fail
  refine (get_hash_calls _ _ hm _).mono ?_
  rintro e w3 ⟨rfl, hb3⟩
  rw [HH.out]
  go_wp2_with (first
    | (with_reducible refine wpList_alloc_row rfl 37 rfl (arrC (zeros 32)) alloc_hash ?_)
    | (with_reducible refine wpList_store_hash rfl (.tmp 15) (.tmp 100) rfl (zeros 32) h rfl rfl hl (zeros_length 32) _ ?_))
  have HB : Hid (∀ n : Ix (w3.alloc (.cells (arrC h) 37)), n.1.heap[w3.heap.size]? = some (.cells (arrC h) 37 (0, 0))) := Lib.hid (fun n => by rw [n.2.block _ (by simp), heap_alloc_new])
  have g2 : decide ((s.size : Int) < (a'' : Int) + 32) = false := by simp; omega
  have g4 : IntKind.i64.wrap ((a'' : Int) + 32) = (a'' : Int) + 32 := IntWalk.i64_in _ (by omega)
  have g5 := slice_mid s a'' 32 32 rfl (by omega)
  have g6 := HE.out
  refine wp_region_below_lit (by kernel_rfl) (by kernel_rfl) ?_
  repeat (first
    | go_big_quiet_step ((go_at_call 23; refine Calls.below_of (put_hash_calls _ hl _)))
    | (with_reducible refine wpQuiet_load_hash rfl (.tmp 15) rfl w3.heap.size rfl h hl _ (by rintro _ ⟨n, rfl⟩; exact HB.out n) ?_; simp only [Act.put, List.setIfInBounds_toArray, List.set_cons_succ, List.set_cons_zero]))
  refine wpQuiet_nil ?_
  rintro _ ⟨⟨w4, hb4⟩, rfl⟩
  clear g2 g4 g5 g6
  go_wp2_with fail
  refine (does_calls _).mono ?_
  rintro e w5 ⟨rfl, hb5⟩
  go_wp2_with fail
  go_ret
  exact ⟨rfl, bel (bel (bel_alloc (bel (bel hb1 hb2) hb3)) hb4) hb5⟩

set_option maxRecDepth 100000 in
set_option maxHeartbeats 4000000 in
theorem way_walk110 (s : ByteArray) (at_ b : Int) (hs : s.size ≤ 2000) (n : Nat) (a c : Nat) (hg : WayGet s at_ b n a c) (l : List UInt8) (a' : Nat) (ht : WayText s at_ l a') (hh : getHashV s at_ = .tuple #[arr (zeros 32), .int .i64 0, .bool false]) (w : World) :
    Calls Try.prog 9 #[.string s, .int .i64 at_, .int .i64 b] w fun e w' => e = .returned (.bool true) ∧ Below w.heap.size w w' := by
  have hm : s.size ≤ maxLen := by unfold maxLen; omega
  have f1 : decide ((2000 : Int) < (s.size : Int)) = false := by simp; omega
  have ea := hg.ea
  have ec := hg.ec
  subst ea ec
  have ea' := ht.ea
  have e' : a' = a := by omega
  subst e'
  clear ea'
  have hle := hg.le
  have HG := Lib.hid hg.get
  have HP := Lib.hid hg.put
  have hn : (n : Int) ≤ 9223372036854775807 := by have := hg.lt; omega
  clear hg
  have hle' := ht.le
  have HT := Lib.hid ht.get
  have HU := Lib.hid ht.put
  have HX := Lib.hid ht.same
  clear ht
  have HZ := Lib.hid (show (mkS (be 2 l.length ++ l)).size = l.length + 2 by simp [size_mkS, be_length]; omega)
  have hml : (mkS l).size ≤ maxLen := by rw [size_mkS]; unfold maxLen; omega
  have HH := Lib.hid hh
  have hl := zeros_length 32
  clear hh
  go_enter Try.func9, Try.ntmps9
  go_wp2_with fail
  refine (get_any _ _ _ hm _).mono ?_
  rintro e w' ⟨rfl, rfl⟩
  rw [HG.out]
  simp only [getV]
  go_wp2_with fail
  have g1 : decide ((n : Int) < 0) = false := by simp
  have g2 : decide ((s.size : Int) < (a' : Int) + c) = false := by simp; omega
  have g4 : IntKind.i64.wrap ((a' : Int) + c) = (a' : Int) + c := IntWalk.i64_in _ (by omega)
  have g5 := slice_mid s a' c c rfl (by omega)
  have g6 := HP.out
  refine wp_region_below_lit (by kernel_rfl) (by kernel_rfl) ?_
  repeat (go_big_quiet_step ((go_at_call 14; refine Calls.below_of (put_any _ _ hn _))))
  refine wpQuiet_nil ?_
  rintro _ ⟨⟨w1, hb1⟩, rfl⟩
  clear g1 g2 g4 g5 g6
  go_wp2_with fail
  refine (get_text_calls _ _ hm _).mono ?_
  rintro e w' ⟨rfl, rfl⟩
  rw [HT.out]
  go_wp2_with fail
  refine (put_text_calls _ hml _).mono ?_
  rintro e w2 ⟨rfl, hb2⟩
  rw [HU.out]
  have g2 : decide ((s.size : Int) < (a' : Int) + (l.length + 2)) = false := by simp; omega
  have g3 : ((a' : Int) + ((l.length : Int) + 2) != (a' : Int) + ((mkS (be 2 l.length ++ l)).size : Int)) = false := by rw [HZ.out]; simp
  have g4 : (mkS (be 2 l.length ++ l)).size ≤ 3000 := by rw [HZ.out]; omega
  have g5 := slice_mid s a' (l.length + 2) ((l.length : Int) + 2) rfl (by omega)
  have g6 := HX.out
  go_wp2_with fail
  clear g2 g3 g4 g5 g6
  refine (get_hash_calls _ _ hm _).mono ?_
  rintro e w3 ⟨rfl, hb3⟩
  rw [HH.out]
  go_wp2_with (first
    | (with_reducible refine wpList_alloc_row rfl 37 rfl (arrC (zeros 32)) alloc_hash ?_)
    | (with_reducible refine wpList_store_hash rfl (.tmp 15) (.tmp 100) rfl (zeros 32) (zeros 32) rfl rfl hl (zeros_length 32) _ ?_))
  have HB : Hid (∀ n : Ix (w3.alloc (.cells (arrC (zeros 32)) 37)), n.1.heap[w3.heap.size]? = some (.cells (arrC (zeros 32)) 37 (0, 0))) := Lib.hid (fun n => by rw [n.2.block _ (by simp), heap_alloc_new])
  refine wp_region_below_lit (by kernel_rfl) (by kernel_rfl) ?_
  repeat (go_big_quiet_step (fail))
  refine wpQuiet_nil ?_
  rintro _ ⟨⟨w4, hb4⟩, rfl⟩
  go_wp2_with fail
  refine (does_calls _).mono ?_
  rintro e w5 ⟨rfl, hb5⟩
  go_wp2_with fail
  go_ret
  exact ⟨rfl, bel (bel (bel_alloc (bel (bel hb1 hb2) hb3)) hb4) hb5⟩

set_option maxRecDepth 100000 in
set_option maxHeartbeats 4000000 in
theorem way_walk111 (s : ByteArray) (at_ b : Int) (hs : s.size ≤ 2000) (n : Nat) (a c : Nat) (hg : WayGet s at_ b n a c) (l : List UInt8) (a' : Nat) (ht : WayText s at_ l a') (h : List UInt8) (a'' : Nat) (hh : WayHash s at_ h a'') (w : World) :
    Calls Try.prog 9 #[.string s, .int .i64 at_, .int .i64 b] w fun e w' => e = .returned (.bool true) ∧ Below w.heap.size w w' := by
  have hm : s.size ≤ maxLen := by unfold maxLen; omega
  have f1 : decide ((2000 : Int) < (s.size : Int)) = false := by simp; omega
  have ea := hg.ea
  have ec := hg.ec
  subst ea ec
  have ea' := ht.ea
  have e' : a' = a := by omega
  subst e'
  clear ea'
  have ea'' := hh.ea
  have e'' : a'' = a' := by omega
  subst e''
  clear ea''
  have hle := hg.le
  have HG := Lib.hid hg.get
  have HP := Lib.hid hg.put
  have hn : (n : Int) ≤ 9223372036854775807 := by have := hg.lt; omega
  clear hg
  have hle' := ht.le
  have HT := Lib.hid ht.get
  have HU := Lib.hid ht.put
  have HX := Lib.hid ht.same
  clear ht
  have HZ := Lib.hid (show (mkS (be 2 l.length ++ l)).size = l.length + 2 by simp [size_mkS, be_length]; omega)
  have hml : (mkS l).size ≤ maxLen := by rw [size_mkS]; unfold maxLen; omega
  have hle'' := hh.le
  have HH := Lib.hid hh.get
  have HE := Lib.hid hh.same
  have hl := hh.len
  clear hh
  go_enter Try.func9, Try.ntmps9
  go_wp2_with fail
  refine (get_any _ _ _ hm _).mono ?_
  rintro e w' ⟨rfl, rfl⟩
  rw [HG.out]
  simp only [getV]
  go_wp2_with fail
  have g1 : decide ((n : Int) < 0) = false := by simp
  have g2 : decide ((s.size : Int) < (a'' : Int) + c) = false := by simp; omega
  have g4 : IntKind.i64.wrap ((a'' : Int) + c) = (a'' : Int) + c := IntWalk.i64_in _ (by omega)
  have g5 := slice_mid s a'' c c rfl (by omega)
  have g6 := HP.out
  refine wp_region_below_lit (by kernel_rfl) (by kernel_rfl) ?_
  repeat (go_big_quiet_step ((go_at_call 14; refine Calls.below_of (put_any _ _ hn _))))
  refine wpQuiet_nil ?_
  rintro _ ⟨⟨w1, hb1⟩, rfl⟩
  clear g1 g2 g4 g5 g6
  go_wp2_with fail
  refine (get_text_calls _ _ hm _).mono ?_
  rintro e w' ⟨rfl, rfl⟩
  rw [HT.out]
  go_wp2_with fail
  refine (put_text_calls _ hml _).mono ?_
  rintro e w2 ⟨rfl, hb2⟩
  rw [HU.out]
  have g2 : decide ((s.size : Int) < (a'' : Int) + (l.length + 2)) = false := by simp; omega
  have g3 : ((a'' : Int) + ((l.length : Int) + 2) != (a'' : Int) + ((mkS (be 2 l.length ++ l)).size : Int)) = false := by rw [HZ.out]; simp
  have g4 : (mkS (be 2 l.length ++ l)).size ≤ 3000 := by rw [HZ.out]; omega
  have g5 := slice_mid s a'' (l.length + 2) ((l.length : Int) + 2) rfl (by omega)
  have g6 := HX.out
  go_wp2_with fail
  clear g2 g3 g4 g5 g6
  refine (get_hash_calls _ _ hm _).mono ?_
  rintro e w3 ⟨rfl, hb3⟩
  rw [HH.out]
  go_wp2_with (first
    | (with_reducible refine wpList_alloc_row rfl 37 rfl (arrC (zeros 32)) alloc_hash ?_)
    | (with_reducible refine wpList_store_hash rfl (.tmp 15) (.tmp 100) rfl (zeros 32) h rfl rfl hl (zeros_length 32) _ ?_))
  have HB : Hid (∀ n : Ix (w3.alloc (.cells (arrC h) 37)), n.1.heap[w3.heap.size]? = some (.cells (arrC h) 37 (0, 0))) := Lib.hid (fun n => by rw [n.2.block _ (by simp), heap_alloc_new])
  have g2 : decide ((s.size : Int) < (a'' : Int) + 32) = false := by simp; omega
  have g4 : IntKind.i64.wrap ((a'' : Int) + 32) = (a'' : Int) + 32 := IntWalk.i64_in _ (by omega)
  have g5 := slice_mid s a'' 32 32 rfl (by omega)
  have g6 := HE.out
  refine wp_region_below_lit (by kernel_rfl) (by kernel_rfl) ?_
  repeat (first
    | go_big_quiet_step ((go_at_call 23; refine Calls.below_of (put_hash_calls _ hl _)))
    | (with_reducible refine wpQuiet_load_hash rfl (.tmp 15) rfl w3.heap.size rfl h hl _ (by rintro _ ⟨n, rfl⟩; exact HB.out n) ?_; simp only [Act.put, List.setIfInBounds_toArray, List.set_cons_succ, List.set_cons_zero]))
  refine wpQuiet_nil ?_
  rintro _ ⟨⟨w4, hb4⟩, rfl⟩
  clear g2 g4 g5 g6
  go_wp2_with fail
  refine (does_calls _).mono ?_
  rintro e w5 ⟨rfl, hb5⟩
  go_wp2_with fail
  go_ret
  exact ⟨rfl, bel (bel (bel_alloc (bel (bel hb1 hb2) hb3)) hb4) hb5⟩

theorem wordsWay_walk (a0 : ByteArray) (a1 a2 : Int) (w0 : a0.size ≤ 140737488351232) (w1 : (Lit.int .i64 a1).wf = true) (w2 : (Lit.int .i64 a2).wf = true) (w : World) :
    Calls Try.prog 9 #[.string a0, .int .i64 a1, .int .i64 a2] w fun e w' => e = .returned (.bool true) ∧ Below w.heap.size w w' := by
  by_cases hs : a0.size ≤ 2000
  · cases hg : getF a0 a1 a2 with
    | none =>
      cases ht : getTextF a0 a1 with
      | none =>
        cases hh : thereB a0 a1 32 with
        | false => exact way_walk000 a0 a1 a2 hs hg ht (way_no_hash hh) w
        | true => obtain ⟨h, a, hh⟩ := way_hash hh; exact way_walk001 a0 a1 a2 hs hg ht h a hh w
      | some p =>
        obtain ⟨l, nx⟩ := p
        obtain ⟨a, ht⟩ := way_text ht
        cases hh : thereB a0 a1 32 with
        | false => exact way_walk010 a0 a1 a2 hs hg l a ht (way_no_hash hh) w
        | true => obtain ⟨h, a', hh⟩ := way_hash hh; exact way_walk011 a0 a1 a2 hs hg l a ht h a' hh w
    | some p =>
      obtain ⟨n, nx⟩ := p
      obtain ⟨x, c, hg⟩ := way_get hg
      cases ht : getTextF a0 a1 with
      | none =>
        cases hh : thereB a0 a1 32 with
        | false => exact way_walk100 a0 a1 a2 hs n x c hg ht (way_no_hash hh) w
        | true => obtain ⟨h, a, hh⟩ := way_hash hh; exact way_walk101 a0 a1 a2 hs n x c hg ht h a hh w
      | some p =>
        obtain ⟨l, nx⟩ := p
        obtain ⟨a, ht⟩ := way_text ht
        cases hh : thereB a0 a1 32 with
        | false => exact way_walk110 a0 a1 a2 hs n x c hg l a ht (way_no_hash hh) w
        | true => obtain ⟨h, a', hh⟩ := way_hash hh; exact way_walk111 a0 a1 a2 hs n x c hg l a ht h a' hh w
  · have f1 : decide ((2000 : Int) < (a0.size : Int)) = true := by simp; omega
    have hm : a0.size ≤ maxLen := by unfold maxLen; omega
    unfold maxLen at hm
    go_enter Try.func9, Try.ntmps9
    go_wp2
    go_ret
    exact ⟨rfl, Below.refl _ _⟩
end Go.Proofs.Ytbbokdnkabbmfaa

