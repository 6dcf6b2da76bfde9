/- The contracts of scans: Bytes, Entries · The contracts that are wanted at an empty file system: states.All, Check, Live; payloads.Erase and slices.SortFunc of nothing. -/
import Derived.Test.YtigihgbgdillpaaGreatDoorP42
set_option linter.unusedVariables false
set_option linter.unusedSimpArgs false
set_option maxRecDepth 100000
namespace Go.Proofs.YtigihgbgdillpaaGreatDoor
open Go.RowKit

instance slpRun (s : Sl) : PartAt (slC s) 66 2 [.int .i64 s.start, .int .i64 s.count] := by
  have h := part_mid (.int .i64 s.n :: (hashL s.prev ++ (hashL s.content ++ [.int .i64 s.len]))) [.int .i64 s.start, .int .i64 s.count] [.int .i64 s.clock] 66 2 rfl rfl
  exact h
theorem joinGo_len {kind ep : Int} {n : Nat} : ∀ (l : List ByteArray) (i : Nat) (acc s : List UInt8), joinGo kind ep n i l acc = some s → s.length ≤ acc.length + 255 * l.length
  | [], i, acc, s, h => by injection h with h; subst h; simp
  | x :: l, i, acc, s, h => by
    rw [joinGo] at h
    split at h
    · cases h
    · have h1 := joinGo_len l (i + 1) _ s h
      have h2 := frDecF_data (ls x)
      rw [List.length_append, ls_length] at h1
      rw [List.length_cons]
      omega
theorem joinF_len (kind ep : Int) (l : List ByteArray) : (joinF kind ep l).1.length ≤ 255 * l.length := by
  unfold joinF
  split
  · exact Nat.zero_le _
  · cases h : joinGo kind ep l.length 0 l [] with
    | none => exact Nat.zero_le _
    | some s => have := joinGo_len l 0 [] s h; simpa using this
theorem blocksF_ok {d : Dv} (hd : d.Ok) (start count : Int) (hc : count ≤ 512) : (blocksF d start count).1.length ≤ 512 ∧ ∀ s ∈ (blocksF d start count).1, s.size ≤ 1000 := by
  unfold blocksF
  split
  · simp
  · refine ⟨?_, blkGo_size hd _⟩
    have := blkGo_len (d := d) (start := start) count.toNat
    omega
def bytesF (d : Dv) (s : Sl) : List UInt8 × Int :=
  if slOk s = false then ([], 2) else if (blocksF d s.start s.count).2 ≠ 0 then ([], 210) else
    if decide ((joinF 68 s.n (blocksF d s.start s.count).1).2 ≠ 0) || (decide (((joinF 68 s.n (blocksF d s.start s.count).1).1.length : Int) ≠ s.len) || (h32 (shaF (joinF 68 s.n (blocksF d s.start s.count).1).1) != h32 s.content)) then ([], 210)
    else ((joinF 68 s.n (blocksF d s.start s.count).1).1, 0)
set_option maxHeartbeats 8000000 in
theorem bytes_calls {D : Dat} {F : List Nat} {w : World} {g : Nat} {d : Dv} (h : DevW D F w g d) (s : Sl) (hs : s.start ≤ 4611686018427387904) (hGB : GBegin w) (hGS : GSha w) (hU : GSums w) :
    Calls Tryz.prog 46 #[.pointer (some ⟨g, 0, none⟩), .agg (slC s)] w (Ret (.tuple #[.string (mkS (bytesF d s).1), .int .i64 (bytesF d s).2]) w) := by
  have hst := Sx.start0 w h.data
  obtain ⟨R, hR⟩ : ∃ R, bytesF d s = R := ⟨_, rfl⟩
  rw [hR]
  have HR0 : ∀ {u : List UInt8 × Int}, R = u → Ending.returned (.tuple #[.string (mkS u.1), .int .i64 u.2]) = .returned (.tuple #[.string (mkS R.1), .int .i64 R.2]) := fun e => by rw [e]
  unfold bytesF at hR
  have HK := Lib.hid (fun wx => scheck_calls s hs wx)
  cases hok : slOk s
  · rw [hok] at HK hR
    rw [if_pos rfl] at hR
    have HR := Lib.hid hR.symm
    clear hR
    go_enter Tryz.func46, Tryz.ntmps46
    go_wp2_with (first | (with_reducible first|refine xa rfl rfl rfl hst ?_|(refine xba rfl rfl hst rfl ?_;clear hst;intro bb w' hst)) | (with_reducible (refine callB (HK.out _) hst ?_; clear hst; intro w' hst)))
    go_ret2
    exact ⟨HR0 HR.out, hst.end⟩
  have hso := (slOk_iff s).1 hok
  unfold SlOk at hso
  have hcnt : 0 ≤ s.count ∧ s.count ≤ 512 := by
    have : 0 ≤ pkCount s.len := by unfold pkCount; split <;> omega
    omega
  rw [hok] at HK hR
  rw [if_neg (by simp)] at hR
  have HBl := Lib.hid (fun wx (hb : Below w.heap.size w wx) => blocks_calls (h.below hb) s.start s.count (by omega) (by omega))
  obtain ⟨hbl, hbs⟩ := blocksF_ok h.ok s.start s.count hcnt.2
  generalize blocksF d s.start s.count = r at *
  obtain ⟨bl, e2⟩ := r
  simp only at hbl hbs hR
  clear hok hso hcnt h
  by_cases he2 : e2 ≠ 0
  · rw [if_pos he2] at hR
    have HR := Lib.hid hR.symm
    clear hR
    go_enter Tryz.func46, Tryz.ntmps46
    go_wp2_with (first | (with_reducible first|refine xa rfl rfl rfl hst ?_|(refine xba rfl rfl hst rfl ?_;clear hst;intro bb w' hst)) | (with_reducible (refine callB (HK.out _) hst ?_; clear hst; intro w' hst)))
    refine (HBl.out _ hst.end).mono ?_
    rintro e w2 ⟨v, Lo, rfl, hown, hs2⟩
    have hst := (hst.take hs2).dropL
    go_wp2_with fail
    go_ret2
    exact ⟨HR0 HR.out, hst.end⟩
  have he20 : e2 = 0 := by simpa using he2
  subst he20
  rw [if_neg (by simp)] at hR
  have hjl := joinF_len 68 s.n bl
  have HJ := Lib.hid (fun wx (D2 : Dat) p c (h1 : RowAt D2 9 1 strL p c bl) (h2 : Holds D2 wx) (h3 : GSums wx) => join_calls wx h1 h2 68 s.n (fun x hx => by have := hbs x hx; omega) (by omega) h3)
  generalize joinF 68 s.n bl = q at *
  obtain ⟨tl, e3⟩ := q
  simp only at hR hjl HJ
  have htx : (mkS tl).size ≤ 1000000 := by rw [size_mkS]; omega
  have HSh := Lib.hid (fun wx L {D2 : Dat} (h : Sx [] w wx L D2 []) => sha_calls (mkS tl) htx wx (hGB.below h.end) (hGS.below h.end))
  rw [show ls (mkS tl) = tl from rfl] at HSh
  obtain ⟨d0, h0⟩ : ∃ x, decide (e3 ≠ 0) = x := ⟨_, rfl⟩
  obtain ⟨d1, h1⟩ : ∃ x, decide (((mkS tl).size : Int) ≠ s.len) = x := ⟨_, rfl⟩
  obtain ⟨d2, h2⟩ : ∃ x, (h32 (shaF tl) != h32 s.content) = x := ⟨_, rfl⟩
  have h1' : decide ((tl.length : Int) ≠ s.len) = d1 := h1
  rw [h0, h1', h2] at hR
  have HRb : Hid ((d0 || (d1 || d2)) = true → Ending.returned (.tuple #[.string noS, .int .i64 210]) = .returned (.tuple #[.string (mkS R.1), .int .i64 R.2])) := Lib.hid (fun h => by rw [if_pos h] at hR; exact HR0 (u := ([], 210)) hR.symm)
  have HRn : Hid ((d0 || (d1 || d2)) = false → Ending.returned (.tuple #[.string (mkS tl), .int .i64 0]) = .returned (.tuple #[.string (mkS R.1), .int .i64 R.2])) := Lib.hid (fun h => by rw [if_neg (by rw [h]; simp)] at hR; exact HR0 hR.symm)
  have HD0 := Lib.hid h0
  have HD1 := Lib.hid h1
  have HD2 := Lib.hid h2
  clear h0 h1 h1' h2 hR htx hjl
  generalize mkS tl = tx at *
  generalize shaF tl = hh at *
  go_enter Tryz.func46, Tryz.ntmps46
  go_wp2_with (first | (with_reducible first|refine xa rfl rfl rfl hst ?_|(refine xba rfl rfl hst rfl ?_;clear hst;intro bb w' hst)) | (with_reducible (refine callB (HK.out _) hst ?_; clear hst; intro w' hst)))
  refine (HBl.out _ hst.end).mono ?_
  rintro e w2 ⟨v, Lo, rfl, hown, hs2⟩
  have hst := (hst.take hs2).lay
  simp only at hown
  obtain ⟨p2, c2, rfl, hrow⟩ := hown.row (by omega) (D := fun p => D p ∨ p ∈ Lo) (fun p hp => Or.inr hp)
  clear hs2 hown HBl HK
  go_wp2_with (first | (with_reducible refine x1 rfl rfl rfl hst ?_) | (with_reducible (refine callB (HJ.out _ _ _ _ hrow hst.data (hU.below hst.end)) hst ?_; clear hst; intro w' hst)))
  refine Fx.go (fun _ => false) (fun i => !(i == 6 || i == 11 || i == 13)) (fun _ => false) (List.range 16) rfl hst (by kernel_rfl) (by kernel_rfl) (by kernel_rfl) (by kernel_rfl) (by kernel_rfl) ?_
  show Fx.wpLX _ _ _ [0, 1, 2, 3, 4, 5, 6, 7, 8, 9, 10, 11, 12, 13, 14, 15] _ _
  all_goals
    skip
-- BYTCASES
    cases d0
    · cases d1
      · cases d2
        · refine Fx.val (v := .int .i64 e3) rfl rfl rfl rfl (Fx.e_mv rfl rfl) ?_
          refine Fx.val (v := .bool false) rfl rfl rfl rfl (Fx.e_neq rfl rfl rfl HD0.out) ?_
          refine Fx.val (v := .bool false) rfl rfl rfl rfl (Fx.e_mv rfl rfl) ?_
          refine Fx.val (v := .string tx) rfl rfl rfl (by kernel_rfl) (Fx.e_mv rfl rfl) ?_
          refine Fx.val (v := .int .i64 tx.size) rfl rfl rfl (by kernel_rfl) (fun w => by kernel_rfl) ?_
          refine Fx.fa rfl rfl rfl (by kernel_rfl) rfl rfl ?_
          refine Fx.l1 rfl rfl rfl (by kernel_rfl) rfl rfl ?_
          refine Fx.val (v := .bool false) rfl rfl rfl (by kernel_rfl) (Fx.e_neq rfl rfl rfl HD1.out) ?_
          refine Fx.val (v := .bool false) rfl rfl rfl rfl (Fx.e_pkF rfl rfl rfl) ?_
          refine Fx.val (v := .bool false) rfl rfl rfl rfl (Fx.e_mv rfl rfl) ?_
          refine Fx.val (v := .string tx) rfl rfl rfl (by kernel_rfl) (Fx.e_mv rfl rfl) ?_
          refine Fx.callB rfl rfl (fun w h => h) (fun w h => HSh.out w _ h) rfl (by kernel_rfl) (fun w => by kernel_rfl) ?_
          refine Fx.fa rfl rfl rfl (by kernel_rfl) rfl rfl ?_
          refine Fx.lA rfl rfl rfl (by kernel_rfl) rfl rfl ?_
          refine Fx.val (v := .bool false) rfl rfl rfl (by kernel_rfl) (Fx.e_neqh rfl rfl rfl HD2.out) ?_
          refine Fx.val (v := .bool false) rfl rfl rfl rfl (Fx.e_pkF rfl rfl rfl) ?_
          clear hst
          intro w' hst
          generalize hact : Fx.mkO _ _ = act
          have hv4 : act.tmps.getD 4 undef = .string noS := by rw [← hact]; kernel_rfl
          have hv5 : act.tmps.getD 5 undef = .int .i64 0 := by rw [← hact]; kernel_rfl
          have hv8 : act.tmps.getD 8 undef = .string tx := by rw [← hact]; kernel_rfl
          have hv43 : act.tmps.getD 43 undef = .bool false := by rw [← hact]; kernel_rfl
          obtain ⟨fZ, hfZ, hact2⟩ := act_lit act 45 (by rw [← hact]; kernel_rfl) (by rw [← hact]; kernel_rfl)
          clear hact
          have he4 : fZ 4 = .string noS := (hfZ 4).symm.trans hv4
          have he5 : fZ 5 = .int .i64 0 := (hfZ 5).symm.trans hv5
          have he8 : fZ 8 = .string tx := (hfZ 8).symm.trans hv8
          have he43 : fZ 43 = .bool false := (hfZ 43).symm.trans hv43
          have hlit : (List.range 45).map fZ = [fZ 0, fZ 1, fZ 2, fZ 3, .string noS, .int .i64 0, fZ 6, fZ 7, .string tx, fZ 9, fZ 10, fZ 11, fZ 12, fZ 13, fZ 14, fZ 15, fZ 16, fZ 17, fZ 18, fZ 19, fZ 20, fZ 21, fZ 22, fZ 23, fZ 24, fZ 25, fZ 26, fZ 27, fZ 28, fZ 29, fZ 30, fZ 31, fZ 32, fZ 33, fZ 34, fZ 35, fZ 36, fZ 37, fZ 38, fZ 39, fZ 40, fZ 41, fZ 42, .bool false, fZ 44] := by simp only [show List.range 45 = [0, 1, 2, 3, 4, 5, 6, 7, 8, 9, 10, 11, 12, 13, 14, 15, 16, 17, 18, 19, 20, 21, 22, 23, 24, 25, 26, 27, 28, 29, 30, 31, 32, 33, 34, 35, 36, 37, 38, 39, 40, 41, 42, 43, 44] from rfl, List.map_cons, List.map_nil, he4, he5, he8, he43]
          rw [hlit] at hact2
          clear hfZ hlit hv4 he4 hv5 he5 hv8 he8 hv43 he43
          subst hact2
          go_wp2_with fail
          go_ret2
          exact ⟨HRn.out (by simp), hst.end⟩
        · refine Fx.val (v := .int .i64 e3) rfl rfl rfl rfl (Fx.e_mv rfl rfl) ?_
          refine Fx.val (v := .bool false) rfl rfl rfl rfl (Fx.e_neq rfl rfl rfl HD0.out) ?_
          refine Fx.val (v := .bool false) rfl rfl rfl rfl (Fx.e_mv rfl rfl) ?_
          refine Fx.val (v := .string tx) rfl rfl rfl (by kernel_rfl) (Fx.e_mv rfl rfl) ?_
          refine Fx.val (v := .int .i64 tx.size) rfl rfl rfl (by kernel_rfl) (fun w => by kernel_rfl) ?_
          refine Fx.fa rfl rfl rfl (by kernel_rfl) rfl rfl ?_
          refine Fx.l1 rfl rfl rfl (by kernel_rfl) rfl rfl ?_
          refine Fx.val (v := .bool false) rfl rfl rfl (by kernel_rfl) (Fx.e_neq rfl rfl rfl HD1.out) ?_
          refine Fx.val (v := .bool false) rfl rfl rfl rfl (Fx.e_pkF rfl rfl rfl) ?_
          refine Fx.val (v := .bool false) rfl rfl rfl rfl (Fx.e_mv rfl rfl) ?_
          refine Fx.val (v := .string tx) rfl rfl rfl (by kernel_rfl) (Fx.e_mv rfl rfl) ?_
          refine Fx.callB rfl rfl (fun w h => h) (fun w h => HSh.out w _ h) rfl (by kernel_rfl) (fun w => by kernel_rfl) ?_
          refine Fx.fa rfl rfl rfl (by kernel_rfl) rfl rfl ?_
          refine Fx.lA rfl rfl rfl (by kernel_rfl) rfl rfl ?_
          refine Fx.val (v := .bool true) rfl rfl rfl (by kernel_rfl) (Fx.e_neqh rfl rfl rfl HD2.out) ?_
          refine Fx.val (v := .bool true) rfl rfl rfl rfl (Fx.e_pkF rfl rfl rfl) ?_
          clear hst
          intro w' hst
          generalize hact : Fx.mkO _ _ = act
          have hv4 : act.tmps.getD 4 undef = .string noS := by rw [← hact]; kernel_rfl
          have hv5 : act.tmps.getD 5 undef = .int .i64 0 := by rw [← hact]; kernel_rfl
          have hv8 : act.tmps.getD 8 undef = .string tx := by rw [← hact]; kernel_rfl
          have hv43 : act.tmps.getD 43 undef = .bool true := by rw [← hact]; kernel_rfl
          obtain ⟨fZ, hfZ, hact2⟩ := act_lit act 45 (by rw [← hact]; kernel_rfl) (by rw [← hact]; kernel_rfl)
          clear hact
          have he4 : fZ 4 = .string noS := (hfZ 4).symm.trans hv4
          have he5 : fZ 5 = .int .i64 0 := (hfZ 5).symm.trans hv5
          have he8 : fZ 8 = .string tx := (hfZ 8).symm.trans hv8
          have he43 : fZ 43 = .bool true := (hfZ 43).symm.trans hv43
          have hlit : (List.range 45).map fZ = [fZ 0, fZ 1, fZ 2, fZ 3, .string noS, .int .i64 0, fZ 6, fZ 7, .string tx, fZ 9, fZ 10, fZ 11, fZ 12, fZ 13, fZ 14, fZ 15, fZ 16, fZ 17, fZ 18, fZ 19, fZ 20, fZ 21, fZ 22, fZ 23, fZ 24, fZ 25, fZ 26, fZ 27, fZ 28, fZ 29, fZ 30, fZ 31, fZ 32, fZ 33, fZ 34, fZ 35, fZ 36, fZ 37, fZ 38, fZ 39, fZ 40, fZ 41, fZ 42, .bool true, fZ 44] := by simp only [show List.range 45 = [0, 1, 2, 3, 4, 5, 6, 7, 8, 9, 10, 11, 12, 13, 14, 15, 16, 17, 18, 19, 20, 21, 22, 23, 24, 25, 26, 27, 28, 29, 30, 31, 32, 33, 34, 35, 36, 37, 38, 39, 40, 41, 42, 43, 44] from rfl, List.map_cons, List.map_nil, he4, he5, he8, he43]
          rw [hlit] at hact2
          clear hfZ hlit hv4 he4 hv5 he5 hv8 he8 hv43 he43
          subst hact2
          go_wp2_with fail
          go_ret2
          exact ⟨HRb.out (by simp), hst.end⟩
      · refine Fx.val (v := .int .i64 e3) rfl rfl rfl rfl (Fx.e_mv rfl rfl) ?_
        refine Fx.val (v := .bool false) rfl rfl rfl rfl (Fx.e_neq rfl rfl rfl HD0.out) ?_
        refine Fx.val (v := .bool false) rfl rfl rfl rfl (Fx.e_mv rfl rfl) ?_
        refine Fx.val (v := .string tx) rfl rfl rfl (by kernel_rfl) (Fx.e_mv rfl rfl) ?_
        refine Fx.val (v := .int .i64 tx.size) rfl rfl rfl (by kernel_rfl) (fun w => by kernel_rfl) ?_
        refine Fx.fa rfl rfl rfl (by kernel_rfl) rfl rfl ?_
        refine Fx.l1 rfl rfl rfl (by kernel_rfl) rfl rfl ?_
        refine Fx.val (v := .bool true) rfl rfl rfl (by kernel_rfl) (Fx.e_neq rfl rfl rfl HD1.out) ?_
        refine Fx.val (v := .bool true) rfl rfl rfl rfl (Fx.e_pkF rfl rfl rfl) ?_
        refine Fx.val (v := .bool true) rfl rfl rfl rfl (Fx.e_mv rfl rfl) ?_
        refine Fx.skip rfl rfl (by kernel_rfl) rfl ?_
        refine Fx.skipB rfl rfl (by kernel_rfl) (fun w h => h) ?_
        refine Fx.skip rfl rfl (by kernel_rfl) rfl ?_
        refine Fx.skipB rfl rfl (by kernel_rfl) (fun w h => h) ?_
        refine Fx.skip rfl rfl (by kernel_rfl) rfl ?_
        refine Fx.val (v := .bool true) rfl rfl rfl rfl (Fx.e_pkT rfl rfl rfl) ?_
        clear hst
        intro w' hst
        generalize hact : Fx.mkO _ _ = act
        have hv4 : act.tmps.getD 4 undef = .string noS := by rw [← hact]; kernel_rfl
        have hv5 : act.tmps.getD 5 undef = .int .i64 0 := by rw [← hact]; kernel_rfl
        have hv8 : act.tmps.getD 8 undef = .string tx := by rw [← hact]; kernel_rfl
        have hv43 : act.tmps.getD 43 undef = .bool true := by rw [← hact]; kernel_rfl
        obtain ⟨fZ, hfZ, hact2⟩ := act_lit act 45 (by rw [← hact]; kernel_rfl) (by rw [← hact]; kernel_rfl)
        clear hact
        have he4 : fZ 4 = .string noS := (hfZ 4).symm.trans hv4
        have he5 : fZ 5 = .int .i64 0 := (hfZ 5).symm.trans hv5
        have he8 : fZ 8 = .string tx := (hfZ 8).symm.trans hv8
        have he43 : fZ 43 = .bool true := (hfZ 43).symm.trans hv43
        have hlit : (List.range 45).map fZ = [fZ 0, fZ 1, fZ 2, fZ 3, .string noS, .int .i64 0, fZ 6, fZ 7, .string tx, fZ 9, fZ 10, fZ 11, fZ 12, fZ 13, fZ 14, fZ 15, fZ 16, fZ 17, fZ 18, fZ 19, fZ 20, fZ 21, fZ 22, fZ 23, fZ 24, fZ 25, fZ 26, fZ 27, fZ 28, fZ 29, fZ 30, fZ 31, fZ 32, fZ 33, fZ 34, fZ 35, fZ 36, fZ 37, fZ 38, fZ 39, fZ 40, fZ 41, fZ 42, .bool true, fZ 44] := by simp only [show List.range 45 = [0, 1, 2, 3, 4, 5, 6, 7, 8, 9, 10, 11, 12, 13, 14, 15, 16, 17, 18, 19, 20, 21, 22, 23, 24, 25, 26, 27, 28, 29, 30, 31, 32, 33, 34, 35, 36, 37, 38, 39, 40, 41, 42, 43, 44] from rfl, List.map_cons, List.map_nil, he4, he5, he8, he43]
        rw [hlit] at hact2
        clear hfZ hlit hv4 he4 hv5 he5 hv8 he8 hv43 he43
        subst hact2
        go_wp2_with fail
        go_ret2
        exact ⟨HRb.out (by simp), hst.end⟩
    · refine Fx.val (v := .int .i64 e3) rfl rfl rfl rfl (Fx.e_mv rfl rfl) ?_
      refine Fx.val (v := .bool true) rfl rfl rfl rfl (Fx.e_neq rfl rfl rfl HD0.out) ?_
      refine Fx.val (v := .bool true) rfl rfl rfl rfl (Fx.e_mv rfl rfl) ?_
      refine Fx.skip rfl rfl (by kernel_rfl) rfl ?_
      refine Fx.skip rfl rfl (by kernel_rfl) rfl ?_
      refine Fx.skip rfl rfl (by kernel_rfl) rfl ?_
      refine Fx.skipB rfl rfl (by kernel_rfl) (fun w h => h) ?_
      refine Fx.skip rfl rfl (by kernel_rfl) rfl ?_
      refine Fx.val (v := .bool true) rfl rfl rfl rfl (Fx.e_pkT rfl rfl rfl) ?_
      refine Fx.val (v := .bool true) rfl rfl rfl rfl (Fx.e_mv rfl rfl) ?_
      refine Fx.skip rfl rfl (by kernel_rfl) rfl ?_
      refine Fx.skipB rfl rfl (by kernel_rfl) (fun w h => h) ?_
      refine Fx.skip rfl rfl (by kernel_rfl) rfl ?_
      refine Fx.skipB rfl rfl (by kernel_rfl) (fun w h => h) ?_
      refine Fx.skip rfl rfl (by kernel_rfl) rfl ?_
      refine Fx.val (v := .bool true) rfl rfl rfl rfl (Fx.e_pkT rfl rfl rfl) ?_
      clear hst
      intro w' hst
      generalize hact : Fx.mkO _ _ = act
      have hv4 : act.tmps.getD 4 undef = .string noS := by rw [← hact]; kernel_rfl
      have hv5 : act.tmps.getD 5 undef = .int .i64 0 := by rw [← hact]; kernel_rfl
      have hv8 : act.tmps.getD 8 undef = .string tx := by rw [← hact]; kernel_rfl
      have hv43 : act.tmps.getD 43 undef = .bool true := by rw [← hact]; kernel_rfl
      obtain ⟨fZ, hfZ, hact2⟩ := act_lit act 45 (by rw [← hact]; kernel_rfl) (by rw [← hact]; kernel_rfl)
      clear hact
      have he4 : fZ 4 = .string noS := (hfZ 4).symm.trans hv4
      have he5 : fZ 5 = .int .i64 0 := (hfZ 5).symm.trans hv5
      have he8 : fZ 8 = .string tx := (hfZ 8).symm.trans hv8
      have he43 : fZ 43 = .bool true := (hfZ 43).symm.trans hv43
      have hlit : (List.range 45).map fZ = [fZ 0, fZ 1, fZ 2, fZ 3, .string noS, .int .i64 0, fZ 6, fZ 7, .string tx, fZ 9, fZ 10, fZ 11, fZ 12, fZ 13, fZ 14, fZ 15, fZ 16, fZ 17, fZ 18, fZ 19, fZ 20, fZ 21, fZ 22, fZ 23, fZ 24, fZ 25, fZ 26, fZ 27, fZ 28, fZ 29, fZ 30, fZ 31, fZ 32, fZ 33, fZ 34, fZ 35, fZ 36, fZ 37, fZ 38, fZ 39, fZ 40, fZ 41, fZ 42, .bool true, fZ 44] := by simp only [show List.range 45 = [0, 1, 2, 3, 4, 5, 6, 7, 8, 9, 10, 11, 12, 13, 14, 15, 16, 17, 18, 19, 20, 21, 22, 23, 24, 25, 26, 27, 28, 29, 30, 31, 32, 33, 34, 35, 36, 37, 38, 39, 40, 41, 42, 43, 44] from rfl, List.map_cons, List.map_nil, he4, he5, he8, he43]
      rw [hlit] at hact2
      clear hfZ hlit hv4 he4 hv5 he5 hv8 he8 hv43 he43
      subst hact2
      go_wp2_with fail
      go_ret2
      exact ⟨HRb.out (by simp), hst.end⟩
-- BYTEND
theorem ownR_of {w w' : World} {v : Value} {l : List Ent} (h : w'.ownsRow w.heap.size 87 39 v l.length (l.flatMap entL)) (hb : Below w.heap.size w w') : ∃ Lo, OwnR 87 39 entL Lo v l ∧ St [] w w' Lo := by
  obtain ⟨_, h | ⟨g, cap, cur, rfl, hg, hc, h1, h2, h3, h4⟩⟩ := h
  · obtain ⟨rfl, hl⟩ := h
    have : l = [] := List.length_eq_zero_iff.1 hl
    subst this
    exact ⟨[], OwnR.none _, ⟨hb.os, hb.tape, hb.output, hb.size, fun j hj _ => hb.block j hj, by simp, by simp, by simp⟩⟩
  · exact ⟨[(g, cur, 87)], Or.inr ⟨g, cap, cur, rfl, rfl, h1, h2, h3, h4⟩, ⟨hb.os, hb.tape, hb.output, hb.size, fun j hj _ => hb.block j hj, fun p hp => by simp at hp; subst hp; exact Or.inl hg, by simp, fun p hp => by simp at hp; subst hp; exact hc⟩⟩
def entriesF (d : Dv) (s : Sl) : List Ent × Int :=
  if (bytesF d s).2 ≠ 0 then ([], (bytesF d s).2) else match decF (mkS (bytesF d s).1) with
    | none => ([], 210)
    | some l => (l, 0)
def EntriesPost (w : World) (r : List Ent × Int) (e : Ending) (w' : World) : Prop :=
  ∃ v Lo, e = .returned (.tuple #[v, .int .i64 r.2]) ∧ OwnR 87 39 entL Lo v r.1 ∧ (∀ x ∈ r.1, x.Wf) ∧ St [] w w' Lo
theorem bytesF_len {d : Dv} (hd : d.Ok) (s : Sl) : (bytesF d s).1.length ≤ 200000 := by
  unfold bytesF
  split
  · exact Nat.zero_le _
  · rename_i hok
    have hso := (slOk_iff s).1 (by simpa using hok)
    unfold SlOk at hso
    have hc : s.count ≤ 512 := by omega
    obtain ⟨hbl, _⟩ := blocksF_ok hd s.start s.count hc
    split
    · exact Nat.zero_le _
    · have := joinF_len 68 s.n (blocksF d s.start s.count).1
      split
      · exact Nat.zero_le _
      · simp only; omega
set_option maxHeartbeats 4000000 in
theorem entries_calls {D : Dat} {F : List Nat} {w : World} {g : Nat} {d : Dv} (h : DevW D F w g d) (s : Sl) (hs : s.start ≤ 4611686018427387904) (hGB : GBegin w) (hGS : GSha w) (hU : GSums w) :
    Calls Tryz.prog 23 #[.pointer (some ⟨g, 0, none⟩), .agg (slC s)] w (EntriesPost w (entriesF d s)) := by
  have hst := Sx.start0 w h.data
  obtain ⟨R, hR⟩ : ∃ R, entriesF d s = R := ⟨_, rfl⟩
  rw [hR]
  have HR0 : ∀ {u : List Ent × Int} {v : Value}, R = u → Ending.returned (.tuple #[v, .int .i64 u.2]) = .returned (.tuple #[v, .int .i64 R.2]) := fun e => by rw [e]
  unfold entriesF at hR
  have HB := Lib.hid (fun wx (hb : Below w.heap.size w wx) => bytes_calls (h.below hb) s hs (hGB.below hb) (hGS.below hb) (hU.below hb))
  have hbl := bytesF_len h.ok s
  generalize bytesF d s = r at *
  obtain ⟨bs, e1⟩ := r
  simp only at hR hbl
  by_cases he1 : e1 ≠ 0
  · rw [if_pos he1] at hR
    have HR := Lib.hid hR.symm
    clear hR
    go_enter Tryz.func23, Tryz.ntmps23
    go_wp2_with (first | (with_reducible first|refine xa rfl rfl rfl hst ?_|(refine xba rfl rfl hst rfl ?_;clear hst;intro bb w' hst)) | (with_reducible (refine callB (HB.out _ hst.end) hst ?_; clear hst; intro w' hst)))
    go_ret2
    exact ⟨_, [], HR0 HR.out, by rw [HR.out]; exact OwnR.none _, by rw [HR.out]; simp, hst.endF⟩
  have he10 : e1 = 0 := by simpa using he1
  subst he10
  rw [if_neg (by simp)] at hR
  have HDc := Lib.hid (fun wx => decode_calls (mkS bs) (by rw [size_mkS]; omega) wx)
  generalize mkS bs = tx at *
  go_enter Tryz.func23, Tryz.ntmps23
  go_wp2_with (first | (with_reducible first|refine xa rfl rfl rfl hst ?_|(refine xba rfl rfl hst rfl ?_;clear hst;intro bb w' hst)) | (with_reducible (refine callB (HB.out _ hst.end) hst ?_; clear hst; intro w' hst)))
  refine (HDc.out _).mono ?_
  rintro e w2 ⟨hdp, hb⟩
  unfold DecPost at hdp
  cases hdec : decF tx with
  | none =>
    rw [hdec] at hdp hR
    obtain rfl := hdp
    have HR := Lib.hid hR.symm
    have hst := hst.below hb
    clear hR hdec
    go_wp2_with fail
    go_ret2
    exact ⟨_, [], HR0 HR.out, by rw [HR.out]; exact OwnR.none _, by rw [HR.out]; simp, hst.endF⟩
  | some l =>
    rw [hdec] at hdp hR
    obtain ⟨v, rfl, hrow, hwf⟩ := hdp
    obtain ⟨Lo, hown, hs2⟩ := ownR_of hrow hb
    have HR := Lib.hid hR.symm
    have HW := Lib.hid hwf
    have HO := Lib.hid hown
    have hst := hst.take hs2
    clear hR hdec hrow hwf hown hs2
    go_wp2_with fail
    go_ret2
    exact ⟨v, Lo, HR0 HR.out, by rw [HR.out]; exact HO.out, by rw [HR.out]; exact HW.out, hst.st.sub⟩
end Go.Proofs.YtigihgbgdillpaaGreatDoor
namespace Go.Proofs.YtigihgbgdillpaaGreatDoor
open Go.RowKit

/-! An empty state: the clock alone -/
def stL (c : Int) : List Value := [.int .i64 c, .slice none 0 0]
abbrev stC (c : Int) : Array Value := (stL c).toArray
instance aggState : AggT 33 2 := ⟨fun w => by kernel_rfl, by kernel_rfl⟩
instance zeroState : ZeroT 33 (stC 0) := .agg fun w => by kernel_rfl
instance stc0 (c : Int) : CellAt (stC c) 0 (.int .i64 c) := ⟨rfl⟩
instance stc1 (c : Int) : CellAt (stC c) 1 (.slice none 0 0) := ⟨rfl⟩
instance stp (c : Int) : PartAt (stC c) 0 2 (stL c) := ⟨rfl, fun j v h => by rw [Nat.zero_add]; simpa [stC] using h⟩
instance stw (a b : Int) : WrAt (stC a) 0 2 (.agg (stC b)) (stC b) := wr_row _ _ _ _ (stL b) rfl rfl (Nat.le_of_ble_eq_true rfl) (by kernel_rfl)
instance stwL (a b : Int) : WrAt (stC a) 0 2 (.agg (stL b).toArray) (stC b) := wr_row _ _ _ _ (stL b) rfl rfl (Nat.le_of_ble_eq_true rfl) (by kernel_rfl)
instance stw0 (a b : Int) : WrAt (stC a) 0 1 (.int .i64 b) (stC b) := wr_one _ _ _ _ rfl rfl (Nat.le_of_ble_eq_true rfl) rfl
instance fldSt0 : Fx.FldT 33 0 0 := ⟨fun ad w => by kernel_rfl⟩
instance fldSt1 : Fx.FldT 33 1 1 := ⟨fun ad w => by kernel_rfl⟩
instance oneStreams : OneT 31 := ⟨fun w => by kernel_rfl, by kernel_rfl⟩
theorem stcheck_calls (c : Int) (hc : 0 ≤ c ∧ c ≤ 1073741824) (w : World) : Calls Tryz.prog 48 #[.agg (stC c)] w (Ret (.bool true) w) := by
  have hst := Sx.startN w
  go_enter Tryz.func48, Tryz.ntmps48
  go_wp2_with (first | (with_reducible (refine xval rfl 10 rfl (.bool false) (fun w => Fx.e_lss rfl rfl rfl (decide_eq_false (by omega)) w) ?_)) | (with_reducible (refine xval rfl 14 rfl (.bool false) (fun w => Fx.e_gtr rfl rfl rfl (decide_eq_false (by omega)) w) ?_)) | (with_reducible first|refine x1 rfl rfl rfl hst ?_|(refine xba rfl rfl hst rfl ?_;clear hst;intro bb w' hst)))
  go_loopw [25] (fun iv wr => iv = .int .i64 0 ∧ Sx [] w wr [(bb, stC c, 33)] NoD []) (fun iv _ => 0)
  case atStart => exact ⟨rfl, hst⟩
  case round =>
    clear hst
    obtain ⟨rfl, hst⟩ := hrel
    go_wp2_with fail
    go_ret
    exact ⟨rfl, hst.end⟩
set_option maxHeartbeats 4000000 in
theorem stall_calls (c d : Int) (hc : 0 ≤ c ∧ c ≤ d ∧ d ≤ 1073741824) (p : Option Addr) (cp : Nat) (w : World) : Calls Tryz.prog 24 #[.agg (stC c), .slice p 0 cp, .int .i64 d] w (Ret (.tuple #[.agg (stC d), .int .i64 0]) w) := by
  have hst := Sx.startN w
  have HK := Lib.hid (fun wx => stcheck_calls c (by omega) wx)
  go_enter Tryz.func24, Tryz.ntmps24
  go_wp2_with (first | (with_reducible (refine xval rfl 19 rfl (.bool false) (fun w => Fx.e_lss rfl rfl rfl (decide_eq_false (by omega)) w) ?_)) | (with_reducible (refine xval rfl 23 rfl (.bool false) (fun w => Fx.e_gtr rfl rfl rfl (decide_eq_false (by omega)) w) ?_)) | (with_reducible first|refine x1 rfl rfl rfl hst ?_|refine xa rfl rfl rfl hst ?_|(refine xsi rfl rfl rfl rfl hst ?_;clear hst;intro w' hst)|(refine xba rfl rfl hst rfl ?_;clear hst;intro bb w' hst)|(refine xnw rfl rfl hst ?_;clear hst;intro bn w' hst)) | (with_reducible (refine callB (HK.out _) hst ?_; clear hst; intro w' hst)))

  go_loopw [30] (fun iv wr => iv = .int .i64 0 ∧ Sx [] w wr [(bn, stC 0, 33), (bb, stC d, 33)] NoD []) (fun iv _ => 0)
  case atStart => exact ⟨rfl, hst⟩
  case round =>
    clear hst
    obtain ⟨rfl, hst⟩ := hrel
    go_wp2_with (with_reducible first|refine xa rfl rfl rfl hst ?_|(refine xsa rfl rfl rfl rfl hst ?_;clear hst;intro w' hst))
    refine bodyPost_ret (results2 rfl (res_agg rfl hst.st.has) res_tmp) rfl ⟨rfl, hst.end⟩
theorem stlive_calls (c : Int) (w : World) : Calls Tryz.prog 52 #[.agg (stC c)] w (Ret (.slice none 0 0) w) := by
  have HR : Hid (∀ wx, Calls Tryz.prog 92 #[.agg (stC c), .bool false] wx (Ret (.slice none 0 0) wx)) := Lib.hid (fun wx => by
    have hst := Sx.startN wx
    go_enter Tryz.func92, Tryz.ntmps92
    go_wp2_with (with_reducible first|refine x1 rfl rfl rfl hst ?_|(refine xba rfl rfl hst rfl ?_;clear hst;intro bb w' hst))
    go_loopw [5, 13] (fun ov iv wr => ov = .slice none 0 0 ∧ iv = .int .i64 0 ∧ Sx [] wx wr [(bb, stC c, 33)] NoD []) (fun _ iv _ => 0)
    case atStart => exact ⟨rfl, rfl, hst⟩
    case round =>
      clear hst
      obtain ⟨rfl, rfl, hst⟩ := hrel
      go_wp2_with fail

      go_ret
      exact ⟨rfl, hst.end⟩)
  have hst := Sx.startN w
  go_enter Tryz.func52, Tryz.ntmps52
  go_wp2_with (first | (with_reducible first|refine xa rfl rfl rfl hst ?_|(refine xba rfl rfl hst rfl ?_;clear hst;intro bb w' hst)) | (with_reducible (refine callB (HR.out _) hst ?_; clear hst; intro w' hst)))
  go_ret
  exact ⟨rfl, hst.end⟩
theorem erase0_calls (pv : Value) (p : Option Addr) (c : Nat) (w : World) : Calls Tryz.prog 25 #[pv, .slice p 0 c] w (Ret (.int .i64 0) w) := by
  have hst := Sx.startN w
  go_enter Tryz.func25, Tryz.ntmps25
  go_wp2_with fail
  go_loopw [5, 12] (fun nv iv wr => nv = .int .i64 0 ∧ iv = .int .i64 0 ∧ Sx [] w wr [] NoD []) (fun _ iv _ => 0)
  case atStart => exact ⟨rfl, rfl, hst⟩
  case round =>
    clear hst
    obtain ⟨rfl, rfl, hst⟩ := hrel
    go_wp2_with fail
    go_ret
    exact ⟨rfl, hst.end⟩
/-! Sorting nothing -/
theorem ins0_calls (p : Option Addr) (c : Nat) (fv : Value) (w : World) : Calls Tryz.prog 122 #[.slice p 0 c, .int .i64 0, .int .i64 0, fv] w (Ret (.tuple #[]) w) := by
  have hst := Sx.startN w
  go_enter Tryz.func122, Tryz.ntmps122
  go_wp2_with fail
  go_loopw [8] (fun iv wr => iv = .int .i64 1 ∧ Sx [] w wr [] NoD []) (fun iv _ => 0)
  case atStart => exact ⟨rfl, hst⟩
  case round =>
    clear hst
    obtain ⟨rfl, hst⟩ := hrel
    go_wp2_with fail
    go_end0
    exact ⟨rfl, hst.end⟩
theorem len0_calls (w : World) : Calls Tryz.prog 94 #[.int .u64 0] w (Ret (.int .i64 0) w) := by
  have hst := Sx.startN w
  have HL : Hid (∀ wx, Calls Tryz.prog 131 #[.int .u64 0] wx (Ret (.int .i64 0) wx)) := Lib.hid (fun wx => by
    have hst := Sx.startN wx
    go_enter Tryz.func131, Tryz.ntmps131
    go_wp2_with fail
    go_ret
    exact ⟨by kernel_rfl, hst.end⟩)
  go_enter Tryz.func94, Tryz.ntmps94
  go_wp2_with (first | fail | (with_reducible (refine callB (HL.out _) hst ?_; clear hst; intro w' hst)))
  go_ret
  exact ⟨rfl, hst.end⟩
end Go.Proofs.YtigihgbgdillpaaGreatDoor
