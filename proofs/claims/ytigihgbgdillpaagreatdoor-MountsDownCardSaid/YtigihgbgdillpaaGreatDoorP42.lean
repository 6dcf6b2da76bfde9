/- The contracts of scans: Blocks, Bytes, Entries. -/
import Derived.Test.YtigihgbgdillpaaGreatDoorP41
set_option linter.unusedVariables false
set_option linter.unusedSimpArgs false
set_option maxRecDepth 100000
namespace Go.Proofs.YtigihgbgdillpaaGreatDoor
open Go.RowKit

def blkGo (d : Dv) (start : Int) : Nat → List ByteArray × Int
  | 0 => ([], 0)
  | k + 1 => if (blkGo d start k).2 ≠ 0 then blkGo d start k else if (dRead d (start + k)).2 ≠ 0 then ([], (dRead d (start + k)).2) else ((blkGo d start k).1 ++ [(dRead d (start + k)).1], 0)
def blocksF (d : Dv) (start count : Int) : List ByteArray × Int :=
  if (d.now.length : Int) < count ∨ (d.now.length : Int) - count < start then ([], 2) else blkGo d start count.toNat
theorem blkGo_stay {d : Dv} {start : Int} {k : Nat} (h : (blkGo d start k).2 ≠ 0) : ∀ m, blkGo d start (k + m) = blkGo d start k
  | 0 => rfl
  | m + 1 => by
    have ih := blkGo_stay h m
    rw [← Nat.add_assoc]
    rw [blkGo, ih, if_pos h]
theorem blkGo_size {d : Dv} (hd : d.Ok) {start : Int} : ∀ k, ∀ s ∈ (blkGo d start k).1, s.size ≤ 1000
  | 0 => by simp [blkGo]
  | k + 1 => by
    rw [blkGo]
    split
    · exact blkGo_size hd k
    · split
      · simp
      · intro s hs
        rcases List.mem_append.1 hs with hs | hs
        · exact blkGo_size hd k s hs
        · obtain rfl := List.mem_singleton.1 hs; exact dRead_size hd _
theorem blkGo_len {d : Dv} {start : Int} : ∀ k, (blkGo d start k).1.length ≤ k
  | 0 => by simp [blkGo]
  | k + 1 => by
    have := blkGo_len (d := d) (start := start) k
    rw [blkGo]
    split
    · omega
    · split
      · simp
      · rw [List.length_append, List.length_singleton]; omega
theorem perm_kb (x y : Blk) (A : List Blk) : (x :: y :: (A ++ [])).Perm (x :: (A ++ [y])) := perm_count fun z => by
  simp only [List.count_append, List.count_cons, List.count_nil]
  omega
theorem perm_bk (y : Blk) (A : List Blk) : (A ++ [y]).Perm (y :: (A ++ [])) := perm_count fun z => by
  simp only [List.count_append, List.count_cons, List.count_nil]
  omega
def BlocksPost (w : World) (r : List ByteArray × Int) (e : Ending) (w' : World) : Prop :=
  ∃ v Lo, e = .returned (.tuple #[v, .int .i64 r.2]) ∧ OwnR 9 1 strL Lo v r.1 ∧ St [] w w' Lo
set_option maxHeartbeats 8000000 in
theorem blocks_calls {D : Dat} {F : List Nat} {w : World} {g : Nat} {d : Dv} (h : DevW D F w g d) (start count : Int) (hs : 0 ≤ start ∧ start ≤ 1000000) (hc : 0 ≤ count ∧ count ≤ 1000000) :
    Calls Tryz.prog 83 #[.pointer (some ⟨g, 0, none⟩), .agg #[.int .i64 start, .int .i64 count]] w (BlocksPost w (blocksF d start count)) := by
  have hst := Sx.start0 w h.data
  have hmax := h.ok.max
  have HLn := Lib.hid (fun wx (hb : Below w.heap.size w wx) => dlen_calls (h.below hb))
  have HRd := Lib.hid (fun i wx (hb : Below w.heap.size w wx) => dread_calls (h.below hb) i)
  obtain ⟨R, hR⟩ : ∃ R, blocksF d start count = R := ⟨_, rfl⟩
  rw [hR]
  have HR0 : ∀ {u : List ByteArray × Int} {v : Value}, R = u → Ending.returned (.tuple #[v, .int .i64 u.2]) = .returned (.tuple #[v, .int .i64 R.2]) := fun e => by rw [e]
  unfold blocksF at hR
  generalize d.now.length = N at *
  clear h
  by_cases h2 : (N : Int) < count
  · rw [if_pos (Or.inl h2)] at hR
    have HR := Lib.hid hR.symm
    have HD2 := Lib.hid (decide_eq_true h2)
    clear hR
    go_enter Tryz.func83, Tryz.ntmps83
    go_wp2_with (with_reducible (refine xba rfl rfl hst rfl ?_;clear hst;intro bb w' hst))
    obtain ⟨b3, rfl⟩ : ∃ b, b = bb := ⟨_, rfl⟩
-- BLKCASEA
    refine Fx.go (fun _ => false) (fun i => !(i == 1 || i == 5 || i == 10 || i == 12 || i == 17 || i == 19 || i == 21)) (fun _ => false) (List.range 25) rfl hst (by kernel_rfl) (by kernel_rfl) (by kernel_rfl) (by kernel_rfl) (by kernel_rfl) ?_
    show Fx.wpLX _ _ _ [0, 1, 2, 3, 4, 5, 6, 7, 8, 9, 10, 11, 12, 13, 14, 15, 16, 17, 18, 19, 20, 21, 22, 23, 24] _ _
    refine Fx.fa rfl rfl rfl rfl rfl rfl ?_
    refine Fx.l1 rfl rfl rfl rfl rfl rfl ?_
    refine Fx.val (v := .bool false) rfl rfl rfl rfl (Fx.e_lss rfl rfl rfl (decide_eq_false (by omega))) ?_
    refine Fx.val (v := .bool false) rfl rfl rfl rfl (Fx.e_mv rfl rfl) ?_
    refine Fx.fa rfl rfl rfl (by kernel_rfl) rfl rfl ?_
    refine Fx.l1 rfl rfl rfl (by kernel_rfl) rfl rfl ?_
    refine Fx.val (v := .bool false) rfl rfl rfl (by kernel_rfl) (Fx.e_lss rfl rfl rfl (decide_eq_false (by omega))) ?_
    refine Fx.val (v := .bool false) rfl rfl rfl rfl (Fx.e_pkF rfl rfl rfl) ?_
    refine Fx.val (v := .bool false) rfl rfl rfl rfl (Fx.e_mv rfl rfl) ?_
    refine Fx.fa rfl rfl rfl (by kernel_rfl) rfl rfl ?_
    refine Fx.l1 rfl rfl rfl (by kernel_rfl) rfl rfl ?_
    refine Fx.val (v := .pointer (some ⟨g, 0, none⟩)) rfl rfl rfl (by kernel_rfl) (Fx.e_mv rfl rfl) ?_
    refine Fx.callB rfl rfl (fun w h => h) (fun w h => HLn.out w h.end) rfl (by kernel_rfl) (fun w => by kernel_rfl) ?_
    refine Fx.val (v := .bool true) rfl rfl rfl (by kernel_rfl) (Fx.e_gtr rfl rfl rfl HD2.out) ?_
    refine Fx.val (v := .bool true) rfl rfl rfl rfl (Fx.e_pkF rfl rfl rfl) ?_
    refine Fx.val (v := .bool true) rfl rfl rfl rfl (Fx.e_mv rfl rfl) ?_
    refine Fx.skip rfl rfl (by kernel_rfl) rfl ?_
    refine Fx.skipB rfl rfl (by kernel_rfl) (fun w h => h) ?_
    refine Fx.skip rfl rfl (by kernel_rfl) rfl ?_
    refine Fx.skipB rfl rfl (by kernel_rfl) (fun w h => h) ?_
    refine Fx.skip rfl rfl (by kernel_rfl) rfl ?_
    refine Fx.skipB rfl rfl (by kernel_rfl) (fun w h => h) ?_
    refine Fx.skip rfl rfl (by kernel_rfl) rfl ?_
    refine Fx.skip rfl rfl (by kernel_rfl) rfl ?_
    refine Fx.val (v := .bool true) rfl rfl rfl rfl (Fx.e_pkT rfl rfl rfl) ?_
    clear hst
    intro w' hst
    generalize hact : Fx.mkO _ _ = act
    have hv0 : act.tmps.getD 0 undef = .pointer (some ⟨g, 0, none⟩) := by rw [← hact]; kernel_rfl
    have hv1 : act.tmps.getD 1 undef = .agg #[.int .i64 start, .int .i64 count] := by rw [← hact]; kernel_rfl
    have hv2 : act.tmps.getD 2 undef = undef := by rw [← hact]; kernel_rfl
    have hv3 : act.tmps.getD 3 undef = .pointer (some ⟨b3, 0, none⟩) := by rw [← hact]; kernel_rfl
    have hv4 : act.tmps.getD 4 undef = .slice none 0 0 := by rw [← hact]; kernel_rfl
    have hv5 : act.tmps.getD 5 undef = .int .i64 0 := by rw [← hact]; kernel_rfl
    have hv34 : act.tmps.getD 34 undef = .bool true := by rw [← hact]; kernel_rfl
    obtain ⟨fZ, hfZ, hact2⟩ := act_lit act 58 (by rw [← hact]; kernel_rfl) (by rw [← hact]; kernel_rfl)
    clear hact
    have he0 : fZ 0 = .pointer (some ⟨g, 0, none⟩) := (hfZ 0).symm.trans hv0
    have he1 : fZ 1 = .agg #[.int .i64 start, .int .i64 count] := (hfZ 1).symm.trans hv1
    have he2 : fZ 2 = undef := (hfZ 2).symm.trans hv2
    have he3 : fZ 3 = .pointer (some ⟨b3, 0, none⟩) := (hfZ 3).symm.trans hv3
    have he4 : fZ 4 = .slice none 0 0 := (hfZ 4).symm.trans hv4
    have he5 : fZ 5 = .int .i64 0 := (hfZ 5).symm.trans hv5
    have he34 : fZ 34 = .bool true := (hfZ 34).symm.trans hv34
    have hlit : (List.range 58).map fZ = [.pointer (some ⟨g, 0, none⟩), .agg #[.int .i64 start, .int .i64 count], undef, .pointer (some ⟨b3, 0, none⟩), .slice none 0 0, .int .i64 0, fZ 6, fZ 7, fZ 8, fZ 9, fZ 10, fZ 11, fZ 12, fZ 13, fZ 14, fZ 15, fZ 16, fZ 17, fZ 18, fZ 19, fZ 20, fZ 21, fZ 22, fZ 23, fZ 24, fZ 25, fZ 26, fZ 27, fZ 28, fZ 29, fZ 30, fZ 31, fZ 32, fZ 33, .bool true, fZ 35, fZ 36, fZ 37, fZ 38, fZ 39, fZ 40, fZ 41, fZ 42, fZ 43, fZ 44, fZ 45, fZ 46, fZ 47, fZ 48, fZ 49, fZ 50, fZ 51, fZ 52, fZ 53, fZ 54, fZ 55, fZ 56, fZ 57] := by simp only [show List.range 58 = [0, 1, 2, 3, 4, 5, 6, 7, 8, 9, 10, 11, 12, 13, 14, 15, 16, 17, 18, 19, 20, 21, 22, 23, 24, 25, 26, 27, 28, 29, 30, 31, 32, 33, 34, 35, 36, 37, 38, 39, 40, 41, 42, 43, 44, 45, 46, 47, 48, 49, 50, 51, 52, 53, 54, 55, 56, 57] from rfl, List.map_cons, List.map_nil, he0, he1, he2, he3, he4, he5, he34]
    rw [hlit] at hact2
    clear hfZ hlit hv0 he0 hv1 he1 hv2 he2 hv3 he3 hv4 he4 hv5 he5 hv34 he34
    subst hact2
-- BLKENDA
    go_wp2_with fail
    go_ret2
    exact ⟨_, [], HR0 HR.out, by rw [HR.out]; exact OwnR.none _, hst.endF⟩
  by_cases h3 : (N : Int) - count < start
  · rw [if_pos (Or.inr h3)] at hR
    have HR := Lib.hid hR.symm
    have hle := h2
    have HD2 := Lib.hid (decide_eq_false h2)
    have HD3 := Lib.hid (decide_eq_true h3)
    clear hR
    go_enter Tryz.func83, Tryz.ntmps83
    go_wp2_with (with_reducible (refine xba rfl rfl hst rfl ?_;clear hst;intro bb w' hst))
    obtain ⟨b3, rfl⟩ : ∃ b, b = bb := ⟨_, rfl⟩
-- BLKCASEB
    refine Fx.go (fun _ => false) (fun i => !(i == 1 || i == 5 || i == 10 || i == 12 || i == 17 || i == 19 || i == 21)) (fun _ => false) (List.range 25) rfl hst (by kernel_rfl) (by kernel_rfl) (by kernel_rfl) (by kernel_rfl) (by kernel_rfl) ?_
    show Fx.wpLX _ _ _ [0, 1, 2, 3, 4, 5, 6, 7, 8, 9, 10, 11, 12, 13, 14, 15, 16, 17, 18, 19, 20, 21, 22, 23, 24] _ _
    refine Fx.fa rfl rfl rfl rfl rfl rfl ?_
    refine Fx.l1 rfl rfl rfl rfl rfl rfl ?_
    refine Fx.val (v := .bool false) rfl rfl rfl rfl (Fx.e_lss rfl rfl rfl (decide_eq_false (by omega))) ?_
    refine Fx.val (v := .bool false) rfl rfl rfl rfl (Fx.e_mv rfl rfl) ?_
    refine Fx.fa rfl rfl rfl (by kernel_rfl) rfl rfl ?_
    refine Fx.l1 rfl rfl rfl (by kernel_rfl) rfl rfl ?_
    refine Fx.val (v := .bool false) rfl rfl rfl (by kernel_rfl) (Fx.e_lss rfl rfl rfl (decide_eq_false (by omega))) ?_
    refine Fx.val (v := .bool false) rfl rfl rfl rfl (Fx.e_pkF rfl rfl rfl) ?_
    refine Fx.val (v := .bool false) rfl rfl rfl rfl (Fx.e_mv rfl rfl) ?_
    refine Fx.fa rfl rfl rfl (by kernel_rfl) rfl rfl ?_
    refine Fx.l1 rfl rfl rfl (by kernel_rfl) rfl rfl ?_
    refine Fx.val (v := .pointer (some ⟨g, 0, none⟩)) rfl rfl rfl (by kernel_rfl) (Fx.e_mv rfl rfl) ?_
    refine Fx.callB rfl rfl (fun w h => h) (fun w h => HLn.out w h.end) rfl (by kernel_rfl) (fun w => by kernel_rfl) ?_
    refine Fx.val (v := .bool false) rfl rfl rfl (by kernel_rfl) (Fx.e_gtr rfl rfl rfl HD2.out) ?_
    refine Fx.val (v := .bool false) rfl rfl rfl rfl (Fx.e_pkF rfl rfl rfl) ?_
    refine Fx.val (v := .bool false) rfl rfl rfl rfl (Fx.e_mv rfl rfl) ?_
    refine Fx.fa rfl rfl rfl (by kernel_rfl) rfl rfl ?_
    refine Fx.l1 rfl rfl rfl (by kernel_rfl) rfl rfl ?_
    refine Fx.val (v := .pointer (some ⟨g, 0, none⟩)) rfl rfl rfl (by kernel_rfl) (Fx.e_mv rfl rfl) ?_
    refine Fx.callB rfl rfl (fun w h => h) (fun w h => HLn.out w h.end) rfl (by kernel_rfl) (fun w => by kernel_rfl) ?_
    refine Fx.fa rfl rfl rfl (by kernel_rfl) rfl rfl ?_
    refine Fx.l1 rfl rfl rfl (by kernel_rfl) rfl rfl ?_
    refine Fx.val (v := .int .i64 ((N : Int) - count)) rfl rfl rfl (by kernel_rfl) (Fx.e_sub (m := (N : Int)) (n := count) rfl rfl rfl (by omega)) ?_
    refine Fx.val (v := .bool true) rfl rfl rfl (by kernel_rfl) (Fx.e_gtr rfl rfl rfl HD3.out) ?_
    refine Fx.val (v := .bool true) rfl rfl rfl rfl (Fx.e_pkF rfl rfl rfl) ?_
    clear hst
    intro w' hst
    generalize hact : Fx.mkO _ _ = act
    have hv0 : act.tmps.getD 0 undef = .pointer (some ⟨g, 0, none⟩) := by rw [← hact]; kernel_rfl
    have hv1 : act.tmps.getD 1 undef = .agg #[.int .i64 start, .int .i64 count] := by rw [← hact]; kernel_rfl
    have hv2 : act.tmps.getD 2 undef = undef := by rw [← hact]; kernel_rfl
    have hv3 : act.tmps.getD 3 undef = .pointer (some ⟨b3, 0, none⟩) := by rw [← hact]; kernel_rfl
    have hv4 : act.tmps.getD 4 undef = .slice none 0 0 := by rw [← hact]; kernel_rfl
    have hv5 : act.tmps.getD 5 undef = .int .i64 0 := by rw [← hact]; kernel_rfl
    have hv34 : act.tmps.getD 34 undef = .bool true := by rw [← hact]; kernel_rfl
    obtain ⟨fZ, hfZ, hact2⟩ := act_lit act 58 (by rw [← hact]; kernel_rfl) (by rw [← hact]; kernel_rfl)
    clear hact
    have he0 : fZ 0 = .pointer (some ⟨g, 0, none⟩) := (hfZ 0).symm.trans hv0
    have he1 : fZ 1 = .agg #[.int .i64 start, .int .i64 count] := (hfZ 1).symm.trans hv1
    have he2 : fZ 2 = undef := (hfZ 2).symm.trans hv2
    have he3 : fZ 3 = .pointer (some ⟨b3, 0, none⟩) := (hfZ 3).symm.trans hv3
    have he4 : fZ 4 = .slice none 0 0 := (hfZ 4).symm.trans hv4
    have he5 : fZ 5 = .int .i64 0 := (hfZ 5).symm.trans hv5
    have he34 : fZ 34 = .bool true := (hfZ 34).symm.trans hv34
    have hlit : (List.range 58).map fZ = [.pointer (some ⟨g, 0, none⟩), .agg #[.int .i64 start, .int .i64 count], undef, .pointer (some ⟨b3, 0, none⟩), .slice none 0 0, .int .i64 0, fZ 6, fZ 7, fZ 8, fZ 9, fZ 10, fZ 11, fZ 12, fZ 13, fZ 14, fZ 15, fZ 16, fZ 17, fZ 18, fZ 19, fZ 20, fZ 21, fZ 22, fZ 23, fZ 24, fZ 25, fZ 26, fZ 27, fZ 28, fZ 29, fZ 30, fZ 31, fZ 32, fZ 33, .bool true, fZ 35, fZ 36, fZ 37, fZ 38, fZ 39, fZ 40, fZ 41, fZ 42, fZ 43, fZ 44, fZ 45, fZ 46, fZ 47, fZ 48, fZ 49, fZ 50, fZ 51, fZ 52, fZ 53, fZ 54, fZ 55, fZ 56, fZ 57] := by simp only [show List.range 58 = [0, 1, 2, 3, 4, 5, 6, 7, 8, 9, 10, 11, 12, 13, 14, 15, 16, 17, 18, 19, 20, 21, 22, 23, 24, 25, 26, 27, 28, 29, 30, 31, 32, 33, 34, 35, 36, 37, 38, 39, 40, 41, 42, 43, 44, 45, 46, 47, 48, 49, 50, 51, 52, 53, 54, 55, 56, 57] from rfl, List.map_cons, List.map_nil, he0, he1, he2, he3, he4, he5, he34]
    rw [hlit] at hact2
    clear hfZ hlit hv0 he0 hv1 he1 hv2 he2 hv3 he3 hv4 he4 hv5 he5 hv34 he34
    subst hact2
-- BLKENDB
    go_wp2_with fail
    go_ret2
    exact ⟨_, [], HR0 HR.out, by rw [HR.out]; exact OwnR.none _, hst.endF⟩
  rw [if_neg (by simp only [not_or]; exact ⟨h2, h3⟩)] at hR
  have HR := Lib.hid hR.symm
  have hle := h2
  have HD2 := Lib.hid (decide_eq_false h2)
  have HD3 := Lib.hid (decide_eq_false h3)
  clear hR
  go_enter Tryz.func83, Tryz.ntmps83
  go_wp2_with (with_reducible (refine xba rfl rfl hst rfl ?_;clear hst;intro bb w' hst))
  obtain ⟨b3, rfl⟩ : ∃ b, b = bb := ⟨_, rfl⟩
-- BLKCASEC
  refine Fx.go (fun _ => false) (fun i => !(i == 1 || i == 5 || i == 10 || i == 12 || i == 17 || i == 19 || i == 21)) (fun _ => false) (List.range 25) rfl hst (by kernel_rfl) (by kernel_rfl) (by kernel_rfl) (by kernel_rfl) (by kernel_rfl) ?_
  show Fx.wpLX _ _ _ [0, 1, 2, 3, 4, 5, 6, 7, 8, 9, 10, 11, 12, 13, 14, 15, 16, 17, 18, 19, 20, 21, 22, 23, 24] _ _
  refine Fx.fa rfl rfl rfl rfl rfl rfl ?_
  refine Fx.l1 rfl rfl rfl rfl rfl rfl ?_
  refine Fx.val (v := .bool false) rfl rfl rfl rfl (Fx.e_lss rfl rfl rfl (decide_eq_false (by omega))) ?_
  refine Fx.val (v := .bool false) rfl rfl rfl rfl (Fx.e_mv rfl rfl) ?_
  refine Fx.fa rfl rfl rfl (by kernel_rfl) rfl rfl ?_
  refine Fx.l1 rfl rfl rfl (by kernel_rfl) rfl rfl ?_
  refine Fx.val (v := .bool false) rfl rfl rfl (by kernel_rfl) (Fx.e_lss rfl rfl rfl (decide_eq_false (by omega))) ?_
  refine Fx.val (v := .bool false) rfl rfl rfl rfl (Fx.e_pkF rfl rfl rfl) ?_
  refine Fx.val (v := .bool false) rfl rfl rfl rfl (Fx.e_mv rfl rfl) ?_
  refine Fx.fa rfl rfl rfl (by kernel_rfl) rfl rfl ?_
  refine Fx.l1 rfl rfl rfl (by kernel_rfl) rfl rfl ?_
  refine Fx.val (v := .pointer (some ⟨g, 0, none⟩)) rfl rfl rfl (by kernel_rfl) (Fx.e_mv rfl rfl) ?_
  refine Fx.callB rfl rfl (fun w h => h) (fun w h => HLn.out w h.end) rfl (by kernel_rfl) (fun w => by kernel_rfl) ?_
  refine Fx.val (v := .bool false) rfl rfl rfl (by kernel_rfl) (Fx.e_gtr rfl rfl rfl HD2.out) ?_
  refine Fx.val (v := .bool false) rfl rfl rfl rfl (Fx.e_pkF rfl rfl rfl) ?_
  refine Fx.val (v := .bool false) rfl rfl rfl rfl (Fx.e_mv rfl rfl) ?_
  refine Fx.fa rfl rfl rfl (by kernel_rfl) rfl rfl ?_
  refine Fx.l1 rfl rfl rfl (by kernel_rfl) rfl rfl ?_
  refine Fx.val (v := .pointer (some ⟨g, 0, none⟩)) rfl rfl rfl (by kernel_rfl) (Fx.e_mv rfl rfl) ?_
  refine Fx.callB rfl rfl (fun w h => h) (fun w h => HLn.out w h.end) rfl (by kernel_rfl) (fun w => by kernel_rfl) ?_
  refine Fx.fa rfl rfl rfl (by kernel_rfl) rfl rfl ?_
  refine Fx.l1 rfl rfl rfl (by kernel_rfl) rfl rfl ?_
  refine Fx.val (v := .int .i64 ((N : Int) - count)) rfl rfl rfl (by kernel_rfl) (Fx.e_sub (m := (N : Int)) (n := count) rfl rfl rfl (by omega)) ?_
  refine Fx.val (v := .bool false) rfl rfl rfl (by kernel_rfl) (Fx.e_gtr rfl rfl rfl HD3.out) ?_
  refine Fx.val (v := .bool false) rfl rfl rfl rfl (Fx.e_pkF rfl rfl rfl) ?_
  clear hst
  intro w' hst
  generalize hact : Fx.mkO _ _ = act
  have hv0 : act.tmps.getD 0 undef = .pointer (some ⟨g, 0, none⟩) := by rw [← hact]; kernel_rfl
  have hv1 : act.tmps.getD 1 undef = .agg #[.int .i64 start, .int .i64 count] := by rw [← hact]; kernel_rfl
  have hv2 : act.tmps.getD 2 undef = undef := by rw [← hact]; kernel_rfl
  have hv3 : act.tmps.getD 3 undef = .pointer (some ⟨b3, 0, none⟩) := by rw [← hact]; kernel_rfl
  have hv4 : act.tmps.getD 4 undef = .slice none 0 0 := by rw [← hact]; kernel_rfl
  have hv5 : act.tmps.getD 5 undef = .int .i64 0 := by rw [← hact]; kernel_rfl
  have hv34 : act.tmps.getD 34 undef = .bool false := by rw [← hact]; kernel_rfl
  obtain ⟨fZ, hfZ, hact2⟩ := act_lit act 58 (by rw [← hact]; kernel_rfl) (by rw [← hact]; kernel_rfl)
  clear hact
  have he0 : fZ 0 = .pointer (some ⟨g, 0, none⟩) := (hfZ 0).symm.trans hv0
  have he1 : fZ 1 = .agg #[.int .i64 start, .int .i64 count] := (hfZ 1).symm.trans hv1
  have he2 : fZ 2 = undef := (hfZ 2).symm.trans hv2
  have he3 : fZ 3 = .pointer (some ⟨b3, 0, none⟩) := (hfZ 3).symm.trans hv3
  have he4 : fZ 4 = .slice none 0 0 := (hfZ 4).symm.trans hv4
  have he5 : fZ 5 = .int .i64 0 := (hfZ 5).symm.trans hv5
  have he34 : fZ 34 = .bool false := (hfZ 34).symm.trans hv34
  have hlit : (List.range 58).map fZ = [.pointer (some ⟨g, 0, none⟩), .agg #[.int .i64 start, .int .i64 count], undef, .pointer (some ⟨b3, 0, none⟩), .slice none 0 0, .int .i64 0, fZ 6, fZ 7, fZ 8, fZ 9, fZ 10, fZ 11, fZ 12, fZ 13, fZ 14, fZ 15, fZ 16, fZ 17, fZ 18, fZ 19, fZ 20, fZ 21, fZ 22, fZ 23, fZ 24, fZ 25, fZ 26, fZ 27, fZ 28, fZ 29, fZ 30, fZ 31, fZ 32, fZ 33, .bool false, fZ 35, fZ 36, fZ 37, fZ 38, fZ 39, fZ 40, fZ 41, fZ 42, fZ 43, fZ 44, fZ 45, fZ 46, fZ 47, fZ 48, fZ 49, fZ 50, fZ 51, fZ 52, fZ 53, fZ 54, fZ 55, fZ 56, fZ 57] := by simp only [show List.range 58 = [0, 1, 2, 3, 4, 5, 6, 7, 8, 9, 10, 11, 12, 13, 14, 15, 16, 17, 18, 19, 20, 21, 22, 23, 24, 25, 26, 27, 28, 29, 30, 31, 32, 33, 34, 35, 36, 37, 38, 39, 40, 41, 42, 43, 44, 45, 46, 47, 48, 49, 50, 51, 52, 53, 54, 55, 56, 57] from rfl, List.map_cons, List.map_nil, he0, he1, he2, he3, he4, he5, he34]
  rw [hlit] at hact2
  clear hfZ hlit hv0 he0 hv1 he1 hv2 he2 hv3 he3 hv4 he4 hv5 he5 hv34 he34
  subst hact2
-- BLKENDC
  go_wp2_with (with_reducible refine x1 rfl rfl rfl hst ?_)
  obtain ⟨M, hM⟩ : ∃ M : Nat, count = M := ⟨count.toNat, by omega⟩
  subst hM
  rw [Int.toNat_natCast] at HR
  go_loopw [6, 37] (fun ov iv wr => ∃ (k : Nat) (Lo : List Blk), k ≤ M ∧ iv = .int .i64 k ∧ Hid ((blkGo d start k).2 = 0) ∧ Hid (OwnR 9 1 strL Lo ov (blkGo d start k).1) ∧ Sx [] w wr ((b3, #[.int .i64 start, .int .i64 (M : Int)], 36) :: (Lo ++ [])) D []) (fun _ iv _ => M - (intOf iv).toNat)
  case atStart => exact ⟨0, [], Nat.zero_le _, by go_num, Lib.hid rfl, Lib.hid (OwnR.none _), hst⟩
  case round =>
    clear hst
    obtain ⟨k, Lo, hk, rfl, HZ, HO, hst⟩ := hrel
    by_cases hlt : k < M
    · have HS : blkGo d start (k + 1) = if (dRead d (start + k)).2 ≠ 0 then ([], (dRead d (start + k)).2) else ((blkGo d start k).1 ++ [(dRead d (start + k)).1], 0) := by rw [blkGo, if_neg (by simp [HZ.out])]
      have hbl := blkGo_len (d := d) (start := start) k
      have HRk := Lib.hid (fun wx (hb : Below w.heap.size w wx) => HRd.out (start + k) wx hb)
      generalize dRead d (start + k) = r at *
      obtain ⟨da, er⟩ := r
      simp only at HS HRk
      have hown := HO.out
      generalize (blkGo d start k).1 = m at *
      obtain ⟨p1, c1, rfl⟩ := hown.slice
      by_cases her : er = 0
      · subst her
        rw [if_neg (by simp)] at HS
        have HS := Lib.hid HS
        go_wp2_with (first | (with_reducible refine x1 rfl rfl rfl hst ?_) | (with_reducible (refine callB (HRk.out _ hst.end) hst ?_; clear hst; intro w' hst)) | (with_reducible refine xmk rfl 54 rfl hst #[.string da] 9 (fun b => .slice (some ⟨b, 0, none⟩) 1 1) (fun w => by kernel_rfl) ?_; clear hst; intro b w' hst; have hst := hst.perm (perm_kb ..)) | (with_reducible refine xap1 (T := 9) rfl _ _ rfl da rfl rfl rfl hst hown rfl (by omega) ?_; clear hst; intro p4 c4 w4 Lo4 hown4 hst; have hst := hst.perm (perm_bk ..)))
        go_roundw
        case rel => exact ⟨k + 1, Lo4, by omega, by go_num, Lib.hid (by rw [HS.out]), Lib.hid (by rw [HS.out]; exact hown4), hst⟩
        case measure => simp [intOf]; omega
      · rw [if_pos her] at HS
        have HR2 : Hid (R = ([], er)) := Lib.hid (by
          have h1 := blkGo_stay (d := d) (start := start) (k := k + 1) (by rw [HS]; exact her) (M - (k + 1))
          rw [show k + 1 + (M - (k + 1)) = M by omega, HS] at h1
          rw [HR.out, h1])
        clear HS
        go_wp2_with (first | (with_reducible refine x1 rfl rfl rfl hst ?_) | (with_reducible (refine callB (HRk.out _ hst.end) hst ?_; clear hst; intro w' hst)))
        go_ret2
        exact ⟨_, [], HR0 HR2.out, by rw [HR2.out]; exact OwnR.none _, hst.endF⟩
    · obtain rfl : k = M := by omega
      have hown := HO.out
      obtain ⟨p1, c1, rfl⟩ := hown.slice
      have HR2 : Hid (R = ((blkGo d start k).1, 0)) := Lib.hid (by rw [HR.out, ← HZ.out])
      generalize (blkGo d start k).1 = m at *
      go_wp2_with fail
      go_ret2
      exact ⟨_, Lo, HR0 HR2.out, by rw [HR2.out]; exact hown, by simpa using hst.drop.st⟩
end Go.Proofs.YtigihgbgdillpaaGreatDoor
