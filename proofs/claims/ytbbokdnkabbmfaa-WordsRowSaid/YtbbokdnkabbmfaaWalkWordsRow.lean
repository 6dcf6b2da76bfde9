/- The walk of WordsRow: the law returns true. -/
import Derived.Test.YtbbokdnkabbmfaaBackPlain
import Derived.Test.YtbbokdnkabbmfaaRegion
import Derived.Test.YtbbokdnkabbmfaaShapes
import Derived.Test.YtbbokdnkabbmfaaWalkWordsWay
set_option linter.unusedVariables false
set_option linter.unusedSimpArgs false
namespace Go.Proofs.Ytbbokdnkabbmfaa
open Go.RowKit

def numsL (zs : List Nat) : List UInt8 := zs.flatMap fun z => be 4 z
def hashesL (hs : List (List UInt8)) : List UInt8 := hs.flatMap id
theorem numsL_length (zs : List Nat) : (numsL zs).length = 4 * zs.length := by
  induction zs with
  | nil => rfl
  | cons z zs ih =>
    have : numsL (z :: zs) = be 4 z ++ numsL zs := by simp [numsL]
    rw [this, List.length_append, be_length, ih, List.length_cons]; omega
theorem hashesL_length (hs : List (List UInt8)) (h : ∀ x ∈ hs, x.length = 32) : (hashesL hs).length = 32 * hs.length := by
  induction hs with
  | nil => rfl
  | cons x hs ih =>
    have : hashesL (x :: hs) = x ++ hashesL hs := by simp [hashesL]
    rw [this, List.length_append, h x (by simp), ih (fun y hy => h y (by simp [hy])), List.length_cons]; omega
theorem numsL_append (a b : List Nat) : numsL (a ++ b) = numsL a ++ numsL b := by unfold numsL; rw [List.flatMap_append]
theorem hashesL_append (a b : List (List UInt8)) : hashesL (a ++ b) = hashesL a ++ hashesL b := by unfold hashesL; rw [List.flatMap_append]
theorem numsL_succ (zs : List Nat) (k : Nat) (h : k < zs.length) : numsL (zs.take (k + 1)) = numsL (zs.take k) ++ be 4 zs[k] := by
  rw [List.take_succ_eq_append_getElem h, numsL_append]
  simp [numsL]
theorem hashesL_succ (hs : List (List UInt8)) (k : Nat) (h : k < hs.length) : hashesL (hs.take (k + 1)) = hashesL (hs.take k) ++ hs[k] := by
  rw [List.take_succ_eq_append_getElem h, hashesL_append]
  simp [hashesL]
theorem numsL_split (zs : List Nat) (k : Nat) (h : k < zs.length) : numsL zs = numsL (zs.take k) ++ (be 4 zs[k] ++ numsL (zs.drop (k + 1))) := by
  conv => lhs; rw [← List.take_append_drop (k + 1) zs]
  rw [numsL_append, numsL_succ zs k h, List.append_assoc]
theorem hashesL_split (hs : List (List UInt8)) (k : Nat) (h : k < hs.length) : hashesL hs = hashesL (hs.take k) ++ (hs[k] ++ hashesL (hs.drop (k + 1))) := by
  conv => lhs; rw [← List.take_append_drop (k + 1) hs]
  rw [hashesL_append, hashesL_succ hs k h, List.append_assoc]

theorem num_read (zs : List Nat) (H : List UInt8) (k : Nat) (h : k < zs.length) (hz : zs[k] < 4294967296) :
    getV (getF (mkS (numsL zs ++ H)) ((4 * k : Nat) : Int) 4) = .tuple #[.int .i64 zs[k], .int .i64 (((4 * k : Nat) : Int) + 4), .bool true] := by
  have e : numsL zs ++ H = numsL (zs.take k) ++ (be 4 zs[k] ++ (numsL (zs.drop (k + 1)) ++ H)) := by
    conv => lhs; rw [numsL_split zs k h]
    rw [List.append_assoc, List.append_assoc]
  have hl : (numsL (zs.take k)).length = 4 * k := by rw [numsL_length]; simp; omega
  have := get_back (numsL (zs.take k)) (numsL (zs.drop (k + 1)) ++ H) zs[k] 4 rfl (by omega) (by omega)
  rw [hl] at this
  rw [e]
  have h' : getF (mkS (numsL (zs.take k) ++ (be 4 zs[k] ++ (numsL (zs.drop (k + 1)) ++ H)))) ((4 * k : Nat) : Int) 4 = some (zs[k], ((4 * k : Nat) : Int) + 4) := this
  rw [h']
  rfl
theorem hash_read (N : List UInt8) (hs : List (List UInt8)) (hh : ∀ x ∈ hs, x.length = 32) (k : Nat) (h : k < hs.length) :
    getHashV (mkS (N ++ hashesL hs)) ((N.length + 32 * k : Nat) : Int) = .tuple #[arr hs[k], .int .i64 (((N.length + 32 * k : Nat) : Int) + 32), .bool true] := by
  have e : N ++ hashesL hs = (N ++ hashesL (hs.take k)) ++ (hs[k] ++ hashesL (hs.drop (k + 1))) := by
    conv => lhs; rw [hashesL_split hs k h]
    rw [List.append_assoc]
  have hl : (N ++ hashesL (hs.take k)).length = N.length + 32 * k := by
    rw [List.length_append, hashesL_length _ (fun x hx => hh x (List.mem_of_mem_take hx))]; simp; omega
  have := hash_back' (N ++ hashesL (hs.take k)) hs[k] (hashesL (hs.drop (k + 1))) (hh _ (List.getElem_mem h))
  rw [hl] at this
  rw [e]
  exact this
theorem end_none (s : ByteArray) : getV (getF s s.size 1) = .tuple #[.int .i64 0, .int .i64 0, .bool false] := by
  have ht : thereB s s.size 1 = false := by simp [thereB]
  unfold getF
  rw [ht]
  rfl
theorem put4 (z : Nat) (h : z < 4294967296) : putF (z : Int) 4 = mkS (be 4 z) := by
  have := putF_of (n := z) (b := 4) (by simp [fitsB, sizeB]; omega)
  exact this
theorem cat_mkS (a b : List UInt8) : mkS a ++ mkS b = mkS (a ++ b) := by apply eq_mkS; rw [ls_append]; rfl

/-- The load of an array that stands at any place. -/
theorem add_add' (x : Addr) (a b : Nat) : (x.add a).add b = x.add (a + b) := by
  unfold Addr.add
  by_cases h1 : a = 0
  · subst h1
    by_cases h2 : b = 0
    · subst h2; rfl
    · rw [if_pos rfl, if_neg h2, if_neg (by omega), Nat.zero_add]
  · by_cases h2 : b = 0
    · subst h2
      rw [if_neg h1, if_pos rfl, if_neg (by omega)]
      rfl
    · rw [if_neg h1, if_neg h2, if_neg (by omega), Nat.add_assoc]

theorem run_load_hash_at (w : World) (ad : Addr) (h : List UInt8) (hl : h.length = 32) (hc : ∀ j (hj : j < h.length), w.cell? (ad.add j) = some (.int .u8 h[j].toNat)) :
    (loadVar 37 ad).run Try.prog w = .ok (arr h) w := by
  have hl' : (loadCells ad (u8s h).length).run Try.prog w = .ok (u8s h).toArray w :=
    run_loadCells_list (P := Try.prog) w ad (u8s h) (fun j v hv => by
      have hj : j < h.length := by
        have := (List.getElem?_eq_some_iff.1 hv).1
        simpa [u8s] using this
      rw [hc j hj]
      simpa [u8s, hj] using hv)
  have hagg : (isAgg 37).run Try.prog w = .ok true w := by kernel_rfl
  have hs : (u8s h).length = 32 := by simp [u8s, hl]
  have hsz : (sizeOf 37).run Try.prog w = .ok 32 w := by kernel_rfl
  rw [hs] at hl'
  simp only [loadVar, Sem.run_bind, hagg, Result.andThen_ok, if_true, hsz, hl', Sem.run_pure]
  rfl
theorem wpList_load_hash_at {ops : Array Oper} {rest : List Oper} {o : Oper} {a : Act} {w : World} {Q : Exit → Act → World → Prop} (hw : Region.wanted o (yielded ops a.tmps) = true) (x : Operand) (ho : o.op = .load 37 x)
    (ad : Addr) (hx : a.eval x = .pointer (some ad)) (h : List UInt8) (hl : h.length = 32) (hc : ∀ j (hj : j < h.length), w.cell? (ad.add j) = some (.int .u8 h[j].toNat))
    (hk : wpList Try.prog ops Q rest (a.put o.dst (arr h)) w) : wpList Try.prog ops Q (o :: rest) a w :=
  BigFrame.wpList_want hw fun K hK => by
    unfold Oper.wp execOp
    simp only [ho, hx, Instr.loadAt, Instr.sureAddr, Sem.run_bind, Sem.run_pure, Result.andThen_ok, run_load_hash_at w ad h hl hc]
    exact hK _ _ hk
theorem wpQuiet_load_hash_at {ops : Array Oper} {rest : List Oper} {o : Oper} {a : Act} {C : World → Prop} {Q : Act → Prop} (hw : Region.wanted o (yielded ops a.tmps) = true) (x : Operand) (ho : o.op = .load 37 x)
    (ad : Addr) (hx : a.eval x = .pointer (some ad)) (h : List UInt8) (hl : h.length = 32) (hc : ∀ w, C w → ∀ j (hj : j < h.length), w.cell? (ad.add j) = some (.int .u8 h[j].toNat))
    (hk : wpQuiet Try.prog ops C Q rest (a.put o.dst (arr h))) : wpQuiet Try.prog ops C Q (o :: rest) a :=
  BigFrame.wpQuiet_want hw fun K hK => ⟨arr h, fun w hC => by
    unfold Oper.quietAt execOp
    simp only [ho, hx, Instr.loadAt, Instr.sureAddr, Sem.run_bind, Sem.run_pure, Result.andThen_ok, run_load_hash_at w ad h hl (hc w hC)]
    exact ⟨rfl, rfl⟩, hK _ hk⟩

set_option maxRecDepth 100000 in
set_option maxHeartbeats 4000000 in
theorem row_walk (v0 v1 : Value) (zs : List Nat) (hs : List (List UInt8)) (w : World) (hz : U32Row w v0 zs) (hh : HashRow w v1 hs) (hzl : zs.length ≤ 60) (hhl : hs.length ≤ 20) :
    Calls Try.prog 11 #[v0, v1] w fun e w' => e = .returned (.bool true) ∧ Below w.heap.size w w' := by
  obtain ⟨a, cap, rfl, hzb, _, hzc⟩ := hz
  obtain ⟨a', cap', rfl, hhb, _, hhc⟩ := hh
  have HZC := Lib.hid hzc
  have HHC := Lib.hid hhc
  have HZB := Lib.hid hzb
  have HHB := Lib.hid hhb
  clear hzc hhc hzb hhb
  have f1 : decide ((60 : Int) < (zs.length : Int)) = false := by simp; omega
  have f2 : decide ((20 : Int) < (hs.length : Int)) = false := by simp; omega
  go_enter Try.func11, Try.ntmps11
  go_wp2_with fail
  clear f1 f2
  go_loopw [5, 6] (fun s i wr => ∃ k : Nat, k ≤ zs.length ∧ i = .int .i64 k ∧ s = .string (mkS (numsL (zs.take k))) ∧ Below w.heap.size w wr) (fun _ i _ => zs.length - (intOf i).toNat)
  case atStart => exact ⟨0, by omega, rfl, rfl, bel_refl w⟩
  case round =>
    obtain ⟨k, hk, rfl, rfl, hbel⟩ := hrel
    by_cases hlt : k < zs.length
    · obtain ⟨x, hx, hcell⟩ := HZC.out (by intro h; simp [h] at hlt)
      have hc0 := hcell k hlt
      have hc : wr.cell? (x.add k) = some (.int .u32 zs[k]) := by rw [← hc0]; exact hbel.cell (block_lt_of_cell hc0)
      have hb := HZB.out _ (List.getElem_mem hlt)
      have HP := Lib.hid (put4 zs[k] hb)
      have hsz1 : (mkS (numsL (zs.take k))).size ≤ 240 := by rw [size_mkS, numsL_length]; simp; omega
      have hsz2 : (mkS (be 4 zs[k])).size ≤ 4 := by rw [size_mkS, be_length]; omega
      clear hc0 hcell
      generalize hzk : zs[k] = z at *
      have HK := Lib.hid hzk
      clear hzk
      subst hx
      go_wp2_with fail
      refine (put_any _ _ (by omega) _).mono ?_
      rintro e w1 ⟨rfl, hb1⟩
      rw [HP.out]
      go_wp2_with fail
      go_roundw
      case rel => exact ⟨k + 1, by omega, by go_num, by rw [numsL_succ zs k hlt, HK.out, cat_mkS], bel hbel hb1⟩
      case measure => simp [intOf]; omega
    · obtain rfl : k = zs.length := by omega
      rw [List.take_length]
      clear hlt hk
      go_wp2_with fail
      obtain ⟨wo, hwo⟩ : ∃ wo : World, wo = wr := ⟨_, rfl⟩
      subst hwo
      go_loopw [5, 7] (fun s i wr => ∃ k : Nat, k ≤ hs.length ∧ i = .int .i64 k ∧ s = .string (mkS (numsL zs ++ hashesL (hs.take k))) ∧ Below w.heap.size w wr) (fun _ i _ => hs.length - (intOf i).toNat)
      case atStart => exact ⟨0, by omega, rfl, by simp [hashesL], hbel⟩
      case round =>
        obtain ⟨k, hk, rfl, rfl, hbel⟩ := hrel
        by_cases hlt : k < hs.length
        · obtain ⟨x, hx, hcell⟩ := HHC.out (by intro h; simp [h] at hlt)
          have hl := HHB.out _ (List.getElem_mem hlt)
          have HC : Hid (∀ j (hj : j < hs[k].length), wr.cell? ((x.add (k * 32)).add j) = some (.int .u8 hs[k][j].toNat)) := Lib.hid (fun j hj => by
            have hc0 := hcell k hlt j hj
            rw [add_add', ← hc0]; exact hbel.cell (block_lt_of_cell hc0))
          clear hcell
          subst hx
          have hsz1 : (mkS (numsL zs ++ hashesL (hs.take k))).size ≤ 880 := by
            rw [size_mkS, List.length_append, numsL_length, hashesL_length _ (fun y hy => HHB.out y (List.mem_of_mem_take hy))]; simp; omega
          have hsz2 : (mkS hs[k]).size ≤ 32 := by rw [size_mkS]; omega
          go_wp2_with (with_reducible refine wpList_load_hash_at rfl (.tmp 51) rfl (x.add (k * 32)) rfl hs[k] hl HC.out ?_)
          refine (put_hash_calls _ hl _).mono ?_
          rintro e w1 ⟨rfl, hb1⟩
          generalize hhk : hs[k] = h at *
          have HK := Lib.hid hhk
          clear hhk
          go_wp2_with fail
          go_roundw
          case rel => exact ⟨k + 1, by omega, by go_num, by rw [hashesL_succ hs k hlt, HK.out, cat_mkS, List.append_assoc], bel hbel hb1⟩
          case measure => simp [intOf]; omega
        · obtain rfl : k = hs.length := by omega
          rw [List.take_length]
          clear hlt hk
          have HL := Lib.hid (show (mkS (numsL zs ++ hashesL hs)).size = 4 * zs.length + 32 * hs.length by rw [size_mkS, List.length_append, numsL_length, hashesL_length hs HHB.out])
          have hm : (mkS (numsL zs ++ hashesL hs)).size ≤ maxLen := by rw [HL.out]; unfold maxLen; omega
          go_wp2_with fail
          obtain ⟨wo2, hwo2⟩ : ∃ wo2 : World, wo2 = wr := ⟨_, rfl⟩
          subst hwo2
          go_loop [8, 9] (fun p i => ∃ k : Nat, k ≤ zs.length ∧ i = .int .i64 k ∧ p = .int .i64 ((4 * k : Nat) : Int)) (fun _ i => zs.length - (intOf i).toNat)
          case atStart => exact ⟨0, by omega, rfl, rfl⟩
          case round =>
            obtain ⟨k, hk, rfl, rfl⟩ := hrel
            by_cases hlt : k < zs.length
            · obtain ⟨x, hx, hcell⟩ := HZC.out (by intro h; simp [h] at hlt)
              have hc0 := hcell k hlt
              have hc : wo2.cell? (x.add k) = some (.int .u32 zs[k]) := by rw [← hc0]; exact hbel.cell (block_lt_of_cell hc0)
              have hb := HZB.out _ (List.getElem_mem hlt)
              have HR := Lib.hid (num_read zs (hashesL hs) k hlt hb)
              clear hc0 hcell
              generalize zs[k] = z at *
              subst hx
              generalize hp : 4 * k = p at *
              have hpl : p ≤ 240 := by omega
              have HPK := Lib.hid hp
              clear hp
              go_wp2_with fail
              refine (get_any _ _ _ hm _).mono ?_
              rintro e w' ⟨rfl, rfl⟩
              rw [HR.out]
              go_wp2_with fail
              go_round
              case rel => exact ⟨k + 1, by omega, by go_num, by rw [← HPK.out]; congr 1⟩
              case measure => simp [intOf]; omega
            · obtain rfl : k = zs.length := by omega
              clear hlt hk
              go_wp2_with fail
              go_loopw [8, 13] (fun p i wr => ∃ k : Nat, k ≤ hs.length ∧ i = .int .i64 k ∧ p = .int .i64 ((4 * zs.length + 32 * k : Nat) : Int) ∧ Below w.heap.size w wr) (fun _ i _ => hs.length - (intOf i).toNat)
              case atStart => exact ⟨0, by omega, rfl, by simp, hbel⟩
              case round =>
                obtain ⟨k, hk, rfl, rfl, hbel⟩ := hrel
                by_cases hlt : k < hs.length
                · obtain ⟨x, hx, hcell⟩ := HHC.out (by intro h; simp [h] at hlt)
                  have hl := HHB.out _ (List.getElem_mem hlt)
                  have HC : Hid (∀ j (hj : j < hs[k].length), wr.cell? ((x.add (k * 32)).add j) = some (.int .u8 hs[k][j].toNat)) := Lib.hid (fun j hj => by
                    have hc0 := hcell k hlt j hj
                    rw [add_add', ← hc0]; exact hbel.cell (block_lt_of_cell hc0))
                  have hr := hash_read (numsL zs) hs HHB.out k hlt
                  rw [numsL_length] at hr
                  have HR := Lib.hid hr
                  clear hcell hr
                  generalize hs[k] = h at *
                  subst hx
                  generalize hp : 4 * zs.length + 32 * k = p at *
                  have hpl : p ≤ 880 := by omega
                  have HPK := Lib.hid hp
                  clear hp
                  have heq := eql_hash h h hl hl
                  have hnq := neq_hash h h hl hl
                  have hgd := fun op x y => guard_hash op x y h h
                  go_wp2_with fail
                  refine (get_hash_calls _ _ hm _).mono ?_
                  rintro e w3 ⟨rfl, hb3⟩
                  rw [HR.out]
                  go_wp2_with (first
                    | (with_reducible refine wpList_alloc_row rfl 37 rfl (arrC (zeros 32)) alloc_hash ?_)
                    | (with_reducible refine wpList_store_hash rfl (.tmp 14) (.tmp 96) rfl (zeros 32) h rfl rfl hl (zeros_length 32) _ ?_))
                  have HX : Hid (∀ n : Ix (w3.alloc (.cells (arrC h) 37)), n.1.heap[w3.heap.size]? = some (.cells (arrC h) 37 (0, 0))) := Lib.hid (fun n => by rw [n.2.block _ (by simp), heap_alloc_new])
                  have HY : Hid (∀ n : Ix (w3.alloc (.cells (arrC h) 37)), ∀ j (hj : j < h.length), n.1.cell? ((x.add (k * 32)).add j) = some (.int .u8 h[j].toNat)) := Lib.hid (fun n j hj => by
                    have h1 := HC.out j hj
                    have hb := block_lt_of_cell h1
                    have h3 := hb3.size
                    rw [n.2.cell (by simp; omega), World.cell?_of_block (Below.heap_alloc _ _ _ (by omega)), hb3.cell hb]
                    exact h1)
                  have g4 : IntKind.i64.wrap ((p : Int) + 32) = (p : Int) + 32 := IntWalk.i64_in _ (by omega)
                  refine wp_region_below_lit (by kernel_rfl) (by kernel_rfl) ?_
                  repeat (first
                    | (with_reducible refine wpQuiet_load_hash rfl (.tmp 14) rfl w3.heap.size rfl h hl _ (by rintro _ ⟨n, rfl⟩; exact HX.out n) ?_; simp only [Act.put, List.setIfInBounds_toArray, List.set_cons_succ, List.set_cons_zero])
                    | (with_reducible refine wpQuiet_load_hash_at rfl (.tmp 105) rfl (x.add (k * 32)) rfl h hl (by rintro _ ⟨n, rfl⟩; exact HY.out n) ?_; simp only [Act.put, List.setIfInBounds_toArray, List.set_cons_succ, List.set_cons_zero])
                    | go_big_quiet_step (fail))
                  refine wpQuiet_nil ?_
                  intro w4 hw4
                  obtain ⟨⟨x4, hb4⟩, hx4⟩ := hw4
                  obtain rfl : w4 = x4 := hx4
                  clear g4
                  go_wp2_with fail
                  go_roundw
                  case rel => exact ⟨k + 1, by omega, by go_num, by rw [← HPK.out]; congr 1, bel (bel_alloc (bel hbel hb3)) hb4⟩
                  case measure => simp [intOf]; omega
                · obtain rfl : k = hs.length := by omega
                  clear hlt hk
                  have HE := Lib.hid (end_none (mkS (numsL zs ++ hashesL hs)))
                  have he := HE.out
                  rw [HL.out] at he
                  have HE' := Lib.hid he
                  clear he HE
                  have g1 : (((4 * zs.length + 32 * hs.length : Nat) : Int) == ((mkS (numsL zs ++ hashesL hs)).size : Int)) = true := by rw [HL.out]; simp
                  generalize hp : 4 * zs.length + 32 * hs.length = p at *
                  have hpl : p ≤ 880 := by omega
                  clear hp
                  go_wp2_with fail
                  refine (get_any _ _ _ hm _).mono ?_
                  rintro e w' ⟨rfl, rfl⟩
                  rw [HE'.out]
                  go_wp2_with fail
                  refine (does_calls _).mono ?_
                  rintro e w5 ⟨rfl, hb5⟩
                  go_wp2_with fail
                  go_ret
                  exact ⟨rfl, bel hbel hb5⟩

set_option maxRecDepth 100000 in
theorem row_long (v0 v1 : Value) (zs : List Nat) (hs : List (List UInt8)) (w : World) (hz : U32Row w v0 zs) (hh : HashRow w v1 hs) (hx : ¬ (zs.length ≤ 60 ∧ hs.length ≤ 20)) :
    Calls Try.prog 11 #[v0, v1] w fun e w' => e = .returned (.bool true) ∧ Below w.heap.size w w' := by
  obtain ⟨a, cap, rfl, _, _, _⟩ := hz
  obtain ⟨a', cap', rfl, _, _, _⟩ := hh
  have hcase : decide ((60 : Int) < (zs.length : Int)) = true ∨ (decide ((60 : Int) < (zs.length : Int)) = false ∧ decide ((20 : Int) < (hs.length : Int)) = true) := by
    simp only [decide_eq_true_eq, decide_eq_false_iff_not]; omega
  clear hx
  rcases hcase with f1 | ⟨f1, f2⟩
  all_goals
    go_enter Try.func11, Try.ntmps11
    go_wp2_with fail
    go_ret
    exact ⟨rfl, bel_refl w⟩

theorem wordsRow_walk (v0 : Value) (zs : List Nat) (v1 : Value) (hs : List (List UInt8)) (w : World) (hz : U32Row w v0 zs) (hh : HashRow w v1 hs) :
    Calls Try.prog 11 #[v0, v1] w fun e w' => e = .returned (.bool true) ∧ Below w.heap.size w w' := by
  by_cases hx : zs.length ≤ 60 ∧ hs.length ≤ 20
  · exact row_walk v0 v1 zs hs w hz hh hx.1 hx.2
  · exact row_long v0 v1 zs hs w hz hh hx
end Go.Proofs.Ytbbokdnkabbmfaa
