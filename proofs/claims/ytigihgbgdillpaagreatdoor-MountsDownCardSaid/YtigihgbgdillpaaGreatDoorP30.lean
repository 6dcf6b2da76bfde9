/- The contracts of leaves.all, Leaf, Node's like; packs.Count · The contracts of packs: (*pack).add, each, Split. -/
import Derived.Test.YtigihgbgdillpaaGreatDoorP29
set_option linter.unusedVariables false
set_option linter.unusedSimpArgs false
set_option maxRecDepth 100000
namespace Go.Proofs.YtigihgbgdillpaaGreatDoor
open Go.RowKit

abbrev strL (s : ByteArray) : List Value := [.string s]
instance encStr : Enc strL 1 := ⟨fun _ => rfl, fun x v hv => by simp at hv; subst hv; rfl⟩
instance eltStr : Elt 9 1 := ⟨.string ⟨#[]⟩, 16, by kernel_rfl, rfl, by decide, by decide⟩
instance sltStr : SlT 48 9 := ⟨Tryz.underlying48⟩
theorem absorb_pre {h : List W32} {s t : List UInt8} : ∀ {k : Nat}, 64 * k ≤ s.length → absorb h (s ++ t) k = absorb h s k
  | 0, _ => by simp [absorb]
  | k + 1, hk => by
    rw [absorb_succ, absorb_succ, absorb_pre (by omega)]
    congr 1
    rw [List.drop_append_of_le_length (by omega), List.take_append_of_le_length (by rw [List.length_drop]; omega)]
theorem absorb_add (h : List W32) (l : List UInt8) (a : Nat) : ∀ b : Nat, absorb h l (a + b) = absorb (absorb h l a) (l.drop (64 * a)) b
  | 0 => by simp [absorb]
  | b + 1 => by
    rw [← Nat.add_assoc, absorb_succ, absorb_succ, absorb_add h l a b, List.drop_drop]
    congr 3
    omega
/-- A writer's state behind so many bytes. -/
theorem absorb_next (h : List W32) (s t : List UInt8) : absorb (absorb h s (s.length / 64)) (s.drop (64 * (s.length / 64)) ++ t) ((s.drop (64 * (s.length / 64)) ++ t).length / 64) = absorb h (s ++ t) ((s ++ t).length / 64) ∧
    (s.drop (64 * (s.length / 64)) ++ t).drop (64 * ((s.drop (64 * (s.length / 64)) ++ t).length / 64)) = (s ++ t).drop (64 * ((s ++ t).length / 64)) := by
  have e1 : s.drop (64 * (s.length / 64)) ++ t = (s ++ t).drop (64 * (s.length / 64)) := by rw [List.drop_append_of_le_length (by omega)]
  have e2 : (s ++ t).length / 64 = s.length / 64 + ((s ++ t).drop (64 * (s.length / 64))).length / 64 := by rw [List.length_drop, List.length_append]; omega
  rw [e1]
  constructor
  · conv => rhs; rw [e2]
    rw [absorb_add, absorb_pre (by omega)]
  · rw [List.drop_drop]
    congr 1
    omega
def allB (l : List ByteArray) : List UInt8 := l.flatMap ls
set_option maxHeartbeats 1000000 in
theorem all_calls {p : Option Addr} {c : Nat} {l : List ByteArray} (w : World) (hr : RowAt (snap w) 9 1 strL p c l) (hl : (allB l).length ≤ 1000000) (hB : GBegin w) (hG : GSha w) : Calls Tryz.prog 95 #[.slice p l.length c] w (Ret (.agg (hashL (shaF (allB l))).toArray) w) := by
  have hst := Sx.start0 w (snap_holds w)
  have hbig := hr.big
  go_enter Tryz.func95, Tryz.ntmps95
  go_wp2_with (with_reducible (refine xnw rfl rfl hst ?_;clear hst;intro bn w' hst))
  refine (snew_calls _ (hB.below hst.end)).mono ?_
  rintro e w2 ⟨g, rfl, hs2⟩
  have hst := hst.take hs2
  go_wp2_with fail
  have ho := Sx.toObj (L1 := [(g, writerC shaB (.slice none 0 0) 0 true, 198)]) hst
  have hg := hst.st.blk (g, _, _) (List.mem_cons_self ..)
  have htl : 1 < w.heap.size := cell_lt (hG.at_ 0 (by decide))
  have htab : 1 ∉ [g] := fun hm => by
    rcases ho.fS _ hm with h2 | h2
    · simp at h2
    · omega
  have hI : Isw w2 g [] shaB [] 0 := ⟨rfl, ⟨none, 0, 0, hg, Or.inl ⟨rfl, rfl⟩⟩, by simp, by simp, htab⟩
  clear hst hg htab
  go_loopw [9] (fun iv wr => ∃ (k : Nat) (F' : List Nat), k ≤ l.length ∧ iv = .int .i64 k ∧ Sx [] w wr [(bn, (hashL []).toArray, 34)] (snap w) (g :: F') ∧ Hid (Isw wr g F' (absorb shaB (allB (l.take k)) ((allB (l.take k)).length / 64)) ((allB (l.take k)).drop (64 * ((allB (l.take k)).length / 64))) (allB (l.take k)).length)) (fun iv _ => l.length - (intOf iv).toNat)
  case atStart => exact ⟨0, [], by omega, rfl, ho, Lib.hid (by simpa [allB, absorb] using hI)⟩
  case round =>
    obtain ⟨k, F', hk, rfl, hst, HI⟩ := hrel
    by_cases hlt : k < l.length
    · obtain ⟨ga, off, rfl⟩ := hr.at_some hlt
      have hld := hr.ld1 hlt rfl
      have HT : Hid (allB (l.take (k + 1)) = allB (l.take k) ++ ls l[k] ∧ (allB (l.take (k + 1))).length ≤ 1000000) := Lib.hid (by
        have e : allB (l.take (k + 1)) = allB (l.take k) ++ ls l[k] := by unfold allB; rw [List.take_succ_eq_append_getElem hlt, List.flatMap_append]; simp
        refine ⟨e, ?_⟩
        have : allB l = allB (l.take (k + 1)) ++ allB (l.drop (k + 1)) := by unfold allB; rw [← List.flatMap_append, List.take_append_drop]
        rw [this, List.length_append] at hl
        omega)
      have HW := Lib.hid (fun (wx : World) (hx : Isw wx g F' (absorb shaB (allB (l.take k)) ((allB (l.take k)).length / 64)) ((allB (l.take k)).drop (64 * ((allB (l.take k)).length / 64))) (allB (l.take k)).length) (hGx : GSha wx) => swrite_calls g F' _ _ (allB (l.take k)).length l[k] _ rfl (by
        have := HT.out.2
        rw [HT.out.1, List.length_append] at this
        rw [List.length_append, List.length_drop]
        omega) (by
        have := HT.out.2
        rw [HT.out.1, List.length_append, ls_length] at this
        omega) wx hx hGx)
      generalize l[k] = t at *
      go_wp2_with (first | (with_reducible refine xd rfl rfl rfl hst ?_))
      refine (HW.out _ (HI.out) (hG.of_sx hst (by simp))).mono ?_
      rintro e w3 ⟨rfl, F'', hs3, hI3, hF'⟩
      have ho := hst.obj0 (F' := g :: F'') hs3 (fun x hx => by
        rcases List.mem_cons.1 hx with rfl | hx
        · exact Or.inl (by simp)
        · exact (hF' x hx).imp (fun h => List.mem_cons_of_mem _ h) id) (fun x hx => by
        obtain ⟨_, ⟨p', n', c', hg', _⟩, _, hold', _⟩ := hI3
        rcases List.mem_cons.1 hx with rfl | hx
        · exact lt_of_heap' hg'
        · exact hold' x hx)
      rw [(absorb_next _ _ _).1, (absorb_next shaB _ _).2, ← HT.out.1] at hI3
      have HI3 := Lib.hid hI3
      clear hst HI hI3 HW
      have hst := ho
      go_wp2_with (first | fail)
      go_roundw
      case rel => exact ⟨k + 1, F'', by omega, by go_num, hst, Lib.hid (by
        have e : (allB (l.take (k + 1))).length = (allB (l.take k)).length + t.size := by rw [HT.out.1, List.length_append, ls_length]
        rw [e]; rw [e] at HI3; exact HI3.out)⟩
      case measure => simp [intOf]; omega
    · obtain rfl : k = l.length := by omega
      rw [List.take_length] at HI
      have HS := Lib.hid (fun (wx : World) hx hGx => ssum_calls (g := g) (F := F') (h := absorb shaB (allB l) ((allB l).length / 64)) (l := (allB l).drop (64 * ((allB l).length / 64))) (many := (allB l).length) (by rw [List.length_drop]; omega) (by omega) wx hx hGx)
      go_wp2_with (first | (with_reducible (refine xsa rfl rfl rfl rfl hst ?_;clear hst;intro w' hst)) | (with_reducible (refine callB (HS.out _ HI.out (hG.of_sx hst (by simp))) hst ?_; clear hst; intro w' hst)))
      refine bodyPost_ret (results1 rfl (res_agg rfl hst.st.has)) rfl ⟨rfl, hst.end⟩
def leafF (s : List UInt8) : List UInt8 := shaF (0 :: s)
set_option maxHeartbeats 1000000 in
theorem leaf_calls (s : ByteArray) (hs : s.size ≤ 999999) (w : World) (hB : GBegin w) (hG : GSha w) : Calls Tryz.prog 56 #[.string s] w (Ret (.agg (hashL (leafF (ls s))).toArray) w) := by
  have hst := Sx.startN w
  go_enter Tryz.func56, Tryz.ntmps56
  go_wp2_with (first | (with_reducible (refine xnw rfl rfl hst ?_;clear hst;intro bn w' hst)) | (with_reducible refine xmk rfl 4 rfl hst #[.string ⟨#[0]⟩, .string s] 9 (fun b => .slice (some ⟨b, 0, none⟩) 2 2) (fun w => by kernel_rfl) ?_; clear hst; intro b w' hst))
  have HC := Lib.hid (all_calls (l := [⟨#[0]⟩, s]) w' (RowAt.ofBlock (g := b) (C := #[.string ⟨#[0]⟩, .string s]) (c := 2) ⟨_, hst.st.blk (b, _, _) (List.mem_cons_self ..)⟩ (by simp) (by simp) rfl) (by simp [allB, ls_length]; show 1 + _ ≤ _; omega) (hB.below hst.end) (hG.below hst.end))
  go_wp2_with (first | (with_reducible (refine xsa rfl rfl rfl rfl hst ?_;clear hst;intro w' hst)) | (with_reducible (refine callB HC.out hst ?_; clear hst; intro w' hst)))
  refine bodyPost_ret (results1 rfl (res_agg rfl hst.st.has)) rfl ⟨by simp [allB, leafF]; rfl, hst.end⟩
theorem count_calls (n : Int) (hn : -9223372036854775808 ≤ n ∧ n ≤ 9223372036854775807) (w : World) : Calls Tryz.prog 32 #[.int .i64 n] w (Ret (.int .i64 (pkCount n)) w) := by
  have hst := Sx.startN w
  go_enter Tryz.func32, Tryz.ntmps32
  go_wp2_with fail
  · go_ret
    exact ⟨by unfold pkCount; rw [if_pos ‹n < 0›]; rfl, hst.end⟩
  · go_ret
    exact ⟨by unfold pkCount; rw [if_neg (by omega)]; rfl, hst.end⟩
end Go.Proofs.YtigihgbgdillpaaGreatDoor
namespace Go.Proofs.YtigihgbgdillpaaGreatDoor
open Go.RowKit

theorem GSums.of_sx {S : List Nat} {w0 w : World} {L : List Blk} {D : Dat} {F : List Nat} (h : GSums w0) (hs : Sx S w0 w L D F) (hS : 2 ∉ S) : GSums w :=
  ⟨fun i hi => by
    have h1 := h.at_ i hi
    have h2 := cell_lt h1
    exact (World.cell?_of_block (a := ⟨2, i, none⟩) (hs.st.kept _ h2 hS)).trans h1⟩
def packC (kind ep : Int) (v : Value) : Array Value := #[.int .u8 kind, .int .i64 ep, v]
instance fldP0 : Fx.FldT 161 0 0 := ⟨fun ad w => by kernel_rfl⟩
instance fldP1 : Fx.FldT 161 1 1 := ⟨fun ad w => by kernel_rfl⟩
instance fldP2 : Fx.FldT 161 2 2 := ⟨fun ad w => by kernel_rfl⟩
instance pk0 (kind ep : Int) (v : Value) : CellAt (packC kind ep v) 0 (.int .u8 kind) := ⟨rfl⟩
instance pk1 (kind ep : Int) (v : Value) : CellAt (packC kind ep v) 1 (.int .i64 ep) := ⟨rfl⟩
instance pk2 (kind ep : Int) (v : Value) : CellAt (packC kind ep v) 2 v := ⟨rfl⟩
instance pkw (kind ep : Int) (v : Value) (p : Option Addr) (n c : Nat) : WrAt (packC kind ep v) 2 1 (.slice p n c) (packC kind ep (.slice p n c)) := ⟨rfl, Nat.le_of_ble_eq_true rfl, fun x hx => by simp [Value.cells] at hx; subst hx; rfl, by kernel_rfl⟩
instance oneStrs : OneT 48 := ⟨fun w => by kernel_rfl, by kernel_rfl⟩
section
variable {S : List Nat} {w0 w : World} {g : Nat} {kind ep : Int} {v : Value} {Lo L : List Blk} {D : Dat} {F : List Nat} {l : List ByteArray}
def AddPost (S : List Nat) (w0 : World) (g : Nat) (kind ep : Int) (L : List Blk) (D : Dat) (F : List Nat) (l : List ByteArray) (r : List UInt8 × Int) (e : Ending) (w' : World) : Prop :=
  ∃ v' Lo', e = .returned (.int .i64 r.2) ∧ OwnR 9 1 strL Lo' v' (if r.2 = 0 then l ++ [mkS r.1] else l) ∧ Sx S w0 w' ((g, packC kind ep v', 161) :: (Lo' ++ L)) D F
set_option maxHeartbeats 1000000 in
theorem add_calls (hst : Sx S w0 w ((g, packC kind ep v, 161) :: (Lo ++ L)) D F) (hown : OwnR 9 1 strL Lo v l) (hl : l.length ≤ 1000000) (hk : 0 ≤ kind ∧ kind < 256) (he : ep ≤ 9223372036854775807) (hG : GSums w0) (hS : 2 ∉ S) (part : ByteArray) :
    Calls Tryz.prog 75 #[.pointer (some ⟨g, 0, none⟩), .string part] w (AddPost S w0 g kind ep L D F l (frEnc ⟨kind, ep, l.length, part⟩)) := by
  obtain ⟨p, c, rfl⟩ := hown.slice
  have hst := hst.perm List.perm_middle.symm
  have HE := Lib.hid (fun wx (hx : Sx S w0 wx (Lo ++ (g, packC kind ep (.slice p l.length c), 161) :: L) D F) => frEnc_calls ⟨kind, ep, l.length, part⟩ hk he (by show (l.length : Int) ≤ _; omega) wx (hG.of_sx hx hS))
  generalize frEnc ⟨kind, ep, l.length, part⟩ = r at *
  go_enter Tryz.func75, Tryz.ntmps75
  go_wp2_with fail
  refine Fx.go (fun _ => false) (fun i => !(i == 3 || i == 7 || i == 11 || i == 15)) (fun _ => false) (List.range 21) rfl hst (by kernel_rfl) (by kernel_rfl) (by kernel_rfl) (by kernel_rfl) (by kernel_rfl) ?_
  show Fx.wpLX _ _ _ [0, 1, 2, 3, 4, 5, 6, 7, 8, 9, 10, 11, 12, 13, 14, 15, 16, 17, 18, 19, 20] _ _
  repeat (first|refine Fx.val rfl rfl rfl rfl (Fx.e_mv rfl rfl) ?_|refine Fx.val rfl rfl rfl rfl (Fx.e_nil rfl rfl) ?_|refine Fx.fa rfl rfl rfl rfl rfl rfl ?_|refine Fx.l1 rfl rfl rfl rfl rfl rfl ?_|refine Fx.ln rfl rfl rfl rfl rfl rfl ?_)
  refine Fx.val rfl rfl rfl rfl (v := .agg (frC ⟨kind, ep, l.length, part⟩)) (fun w => by kernel_rfl) ?_
  refine Fx.callB rfl rfl (fun w h => h) (fun w h => HE.out w h) rfl rfl (fun w => by kernel_rfl) ?_
  repeat (refine Fx.val rfl rfl rfl rfl (Fx.e_mv rfl rfl) ?_)
  refine Fx.val rfl rfl rfl rfl (v := .string (mkS r.1)) (fun w => by kernel_rfl) ?_
  refine Fx.val rfl rfl rfl rfl (v := .int .i64 r.2) (fun w => by kernel_rfl) ?_
  repeat (refine Fx.val rfl rfl rfl rfl (Fx.e_as rfl rfl) ?_)
  clear hst
  intro w' hst
  simp only [Fx.nxt_some, Fx.nxt_none, Fx.mkO_cons, Fx.mkO_nil, Fx.evO_eq]
  clear HE
  go_wp2_with (first | (with_reducible first|refine x1 rfl rfl rfl hst ?_|(refine xsl rfl rfl rfl rfl hst ?_;clear hst;intro w' hst)) | (with_reducible refine xmk rfl 34 rfl hst #[.string (mkS r.1)] 9 (fun b => .slice (some ⟨b, 0, none⟩) 1 1) (fun w => by kernel_rfl) ?_; clear hst; intro b w' hst) | (with_reducible refine xap1 (T := 9) rfl _ _ rfl (mkS r.1) rfl rfl rfl hst hown rfl (by omega) ?_; clear hst; intro p4 c4 w4 Lo4 hown4 hst))
  · go_ret
    exact ⟨_, Lo4, rfl, by rw [if_pos (by simp_all)]; simpa using hown4, hst.perm List.perm_middle⟩
  · go_ret
    exact ⟨_, Lo, rfl, by rw [if_neg (by simp_all)]; exact hown, hst.perm List.perm_middle⟩
def partB (s : List UInt8) (i : Nat) : List UInt8 := (s.drop (112 * i)).take 112
def splB (kind ep : Int) (s : List UInt8) (i : Nat) : ByteArray := mkS (frEnc ⟨kind, ep, i, mkS (partB s i)⟩).1
def frErr (kind ep : Int) : Int := if kind = 68 ∨ kind = 80 ∨ kind = 83 then if ep < 1 ∨ 1073741824 < ep then 2 else 0 else 2
theorem frEnc_err {kind ep : Int} {i : Nat} {d : ByteArray} (hi : i ≤ 65535) (hd : d.size ≤ 112) : (frEnc ⟨kind, ep, i, d⟩).2 = frErr kind ep := by
  have : frCheck ⟨kind, ep, i, d⟩ = frErr kind ep := by
    unfold frCheck frErr
    simp only
    split
    · have h1 : (ep < 1 ∨ 1073741824 < ep ∨ (i : Int) < 0 ∨ 65535 < (i : Int)) ↔ (ep < 1 ∨ 1073741824 < ep) := by omega
      have h2 : ¬ ((112 : Int) < d.size) := by omega
      simp [h1, h2]
    · rfl
  unfold frEnc
  rw [this]
  split
  · simp [*]
  · rfl
def EachPost (S : List Nat) (w0 : World) (g : Nat) (kind ep : Int) (L : List Blk) (D : Dat) (F : List Nat) (s : List UInt8) (e : Ending) (w' : World) : Prop :=
  ∃ v' Lo', e = .returned (.int .i64 (frErr kind ep)) ∧ (frErr kind ep = 0 → OwnR 9 1 strL Lo' v' ((List.range (pkCount s.length).toNat).map (splB kind ep s))) ∧ Sx S w0 w' ((g, packC kind ep v', 161) :: (Lo' ++ L)) D F
set_option maxHeartbeats 1000000 in
theorem each_calls (s : ByteArray) (hs : (pkCount s.size) ≤ 65536) (hst : Sx S w0 w ((g, packC kind ep (.slice none 0 0), 161) :: L) D F) (hk : 0 ≤ kind ∧ kind < 256) (he : ep ≤ 9223372036854775807) (hG : GSums w0) (hS : 2 ∉ S) :
    Calls Tryz.prog 74 #[.string s, .func (.func 75) #[.pointer (some ⟨g, 0, none⟩)] #[]] w (EachPost S w0 g kind ep L D F (ls s)) := by
  go_enter Tryz.func74, Tryz.ntmps74
  go_wp2_with fail
  go_loopw [0] (fun tv wr => ∃ (k : Nat) (t : ByteArray) (v' : Value) (Lo' : List Blk), tv = .string t ∧ Hid (k < (pkCount s.size).toNat ∧ ls t = (ls s).drop (112 * k) ∧ OwnR 9 1 strL Lo' v' ((List.range k).map (splB kind ep (ls s)))) ∧ Sx S w0 wr ((g, packC kind ep v', 161) :: (Lo' ++ L)) D F) (fun tv _ => match tv with | .string t => t.size | _ => 0)
  case atStart => exact ⟨0, s, _, [], rfl, Lib.hid ⟨by unfold pkCount; rw [if_neg (by omega)]; omega, by simp, OwnR.none _⟩, hst⟩
  case round =>
    obtain ⟨k, t, v', Lo', rfl, HO, hst⟩ := hrel
    obtain ⟨hkc, ht, hown⟩ := HO.out
    clear HO
    have hts : t.size = s.size - 112 * k := by rw [← ls_length, ht, List.length_drop, ls_length]
    have hc0 : pkCount (s.size : Int) = max 1 ((s.size : Int) / 112 + min 1 ((s.size : Int) % 112)) := by unfold pkCount; rw [if_neg (by omega)]
    have hk2 : 112 * k ≤ s.size := by omega
    by_cases hlt : t.size ≤ 112
    · have hmin : min (t.size : Int) 112 = (t.size : Int) := by omega
      have hcount : (pkCount (s.size : Int)).toNat = k + 1 := by omega
      have hpart : splB kind ep (ls s) k = mkS (frEnc ⟨kind, ep, k, t⟩).1 := by
        unfold splB partB
        rw [← ht, List.take_of_length_le (by rw [ls_length]; exact hlt)]
        rfl
      have HA := Lib.hid (add_calls hst hown (by simp; omega) hk he hG hS t)
      have HE := Lib.hid (frEnc_err (kind := kind) (ep := ep) (i := k) (d := t) (by omega) hlt)
      have HP := Lib.hid hpart
      have HC := Lib.hid hcount
      clear hpart hcount hc0 hts ht hown hk2 hst hkc
      go_wp2_with fail
      simp only [List.length_map, List.length_range] at HA
      refine HA.out.mono ?_
      rintro e w2 ⟨v2, Lo2, rfl, hown2, hst⟩
      rw [HE.out] at hown2 ⊢
      rw [← HP.out] at hown2
      have HR := Lib.hid hown2
      clear hown2 HA HP HE
      generalize hfe : frErr kind ep = fe at *
      by_cases hfz : fe = 0
      · subst hfz
        go_wp2_with fail
        go_ret
        refine ⟨v2, Lo2, by rw [hfe]; rfl, fun _ => ?_, hst⟩
        have := HR.out
        simp only [if_true] at this
        rw [ls_length, HC.out, List.range_succ, List.map_append]
        exact this
      · go_wp2_with fail
        go_ret
        exact ⟨v2, Lo2, by rw [hfe]; rfl, fun h => absurd (hfe.symm.trans h) hfz, hst⟩
    · have hmin : min (t.size : Int) 112 = 112 := by omega
      have hpart : splB kind ep (ls s) k = mkS (frEnc ⟨kind, ep, k, t.extract 0 112⟩).1 := by
        unfold splB partB
        rw [← ht, show t.extract 0 112 = t.extract 0 (0 + 112) from rfl, text_extract]
        rfl
      have HA := Lib.hid (add_calls hst hown (by simp; omega) hk he hG hS (t.extract 0 112))
      have HE := Lib.hid (frEnc_err (kind := kind) (ep := ep) (i := k) (d := t.extract 0 112) (by omega) (by rw [ByteArray.size_extract]; omega))
      have HP := Lib.hid hpart
      have HN : Hid (k + 1 < (pkCount (s.size : Int)).toNat ∧ ls (t.extract 112 t.size) = (ls s).drop (112 * (k + 1))) := Lib.hid ⟨by omega, by
        rw [show t.size = 112 + (t.size - 112) by omega, text_extract, ls_mkS]
        unfold sub
        rw [List.take_of_length_le (by rw [List.length_drop, ls_length]; omega), ht, List.drop_drop]
        congr 1⟩
      have HZ : Hid ((t.extract 112 t.size).size < t.size) := Lib.hid (by rw [ByteArray.size_extract]; omega)
      clear hpart hc0 hts ht hown hk2 hst hkc
      go_wp2_with fail
      simp only [List.length_map, List.length_range] at HA
      refine HA.out.mono ?_
      rintro e w2 ⟨v2, Lo2, rfl, hown2, hst⟩
      rw [HE.out] at hown2 ⊢
      rw [← HP.out] at hown2
      have HR := Lib.hid hown2
      clear hown2 HA HP HE
      generalize hfe : frErr kind ep = fe at *
      by_cases hfz : fe = 0
      · subst hfz
        have hne : ¬ ((112 : Int) = t.size) := by omega
        go_wp2_with fail
        go_roundw
        case rel => exact ⟨k + 1, _, v2, Lo2, rfl, Lib.hid ⟨HN.out.1, HN.out.2, by
          have := HR.out
          simp only [if_true] at this
          rw [List.range_succ, List.map_append]
          exact this⟩, hst⟩
        case measure => exact HZ.out
      · go_wp2_with fail
        go_ret
        exact ⟨v2, Lo2, by rw [hfe]; rfl, fun h => absurd (hfe.symm.trans h) hfz, hst⟩
/-- Split: the blocks and the error. -/
def splE (kind ep : Int) (n : Int) : Int := if 65536 < pkCount n then 3 else frErr kind ep
def SplitPost (w : World) (kind ep : Int) (s : List UInt8) (e : Ending) (w' : World) : Prop :=
  ∃ v Lo, e = .returned (.tuple #[v, .int .i64 (splE kind ep s.length)]) ∧ (∃ p n c, v = .slice p n c) ∧ (splE kind ep s.length = 0 → OwnR 9 1 strL Lo v ((List.range (pkCount s.length).toNat).map (splB kind ep s))) ∧ St [] w w' Lo
instance zeroPack : ZeroT 161 (packC 0 0 (.slice none 0 0)) := .agg fun w => by kernel_rfl
set_option maxHeartbeats 1000000 in
theorem split_calls (s : ByteArray) (hs : s.size ≤ 1000000000) (hk : 0 ≤ kind ∧ kind < 256) (he : ep ≤ 9223372036854775807) (hG : GSums w) :
    Calls Tryz.prog 40 #[.int .u8 kind, .int .i64 ep, .string s] w (SplitPost w kind ep (ls s)) := by
  have hst := Sx.startN w
  have HC := Lib.hid (count_calls (s.size : Int) (by omega))
  generalize hn : pkCount (s.size : Int) = n at *
  go_enter Tryz.func40, Tryz.ntmps40
  go_wp2_with (first | (with_reducible (refine xba rfl rfl hst rfl ?_;clear hst;intro bb w' hst)) | (with_reducible (refine callB (HC.out _) hst ?_; clear hst; intro w' hst)))
  · go_ret2
    have h1 : splE kind ep (ls s).length = 3 := by unfold splE; rw [ls_length, hn, if_pos (by assumption)]
    refine ⟨_, [], by rw [h1]; rfl, ⟨_, _, _, rfl⟩, fun h => ?_, hst.endF⟩
    rw [h1] at h
    cases h
  · have h1 : splE kind ep (ls s).length = frErr kind ep := by unfold splE; rw [ls_length, hn, if_neg (by omega)]
    refine (each_calls (L := []) s (by rw [hn]; assumption) hst hk he hG (by simp)).mono ?_
    rintro e w2 ⟨v2, Lo2, rfl, hown2, hst⟩
    have HR := Lib.hid hown2
    have H1 := Lib.hid h1
    clear hown2 h1 HC
    generalize hfe : frErr kind ep = fe at *
    by_cases hfz : fe = 0
    · subst hfz
      have hown := HR.out rfl
      obtain ⟨p, c, rfl⟩ := hown.slice
      simp only [List.length_map, List.length_range] at hown hst ⊢
      have HO := Lib.hid hown
      clear hown HR
      go_wp2_with (with_reducible refine x1 rfl rfl rfl hst ?_)
      go_ret2
      exact ⟨_, Lo2, by rw [H1.out]; rfl, ⟨_, _, _, rfl⟩, fun _ => HO.out, by simpa using hst.drop.st⟩
    · go_wp2_with fail
      go_ret2
      exact ⟨_, [], by rw [H1.out]; rfl, ⟨_, _, _, rfl⟩, fun h => absurd (H1.out.symm.trans h) hfz, hst.endF⟩
end
end Go.Proofs.YtigihgbgdillpaaGreatDoor
