/- The contract of entries.Check · Plain facts on a number's bytes: they rise as the numbers do, and are none just if the number does not fit · Plain facts: what was written is read, whatever stands ahead of it and behind. -/
import Derived.WalkLawsBesides
import Derived.Test.YtigihgbgdillpaaGreatDoorP05
set_option linter.unusedVariables false
set_option linter.unusedSimpArgs false
set_option maxRecDepth 100000
namespace Go.Proofs.YtigihgbgdillpaaGreatDoor
open Go.RowKit

theorem zero_run (w : World) : (zeroValue 36).run Tryz.prog w = .ok (.agg #[.int .i64 0, .int .i64 0]) w := by kernel_rfl
/-- May a field be? -/
def stepOk (e : Ent) (f : Int) : Bool :=
  if f = 0 then withinB e.stream 7 else if f = 1 then withinB e.n (mostN e.kind) else if f = 2 then nameOk e.name
  else withinB e.len 300 && (withinB e.start 512 && (decide (0 < e.count) && withinB e.count (512 - e.start)))
/-- Without a field. -/
def strip (e : Ent) (f : Int) : Ent :=
  if f = 0 then { e with stream := 0 } else if f = 1 then { e with n := 0 } else if f = 2 then { e with name := noS } else { e with len := 0, hash := [], start := 0, count := 0 }
def checkB (e : Ent) : Bool := ((fieldsL e.kind).all (stepOk e) && !(fieldsL e.kind).isEmpty) && entEq ((fieldsL e.kind).foldl strip { e with kind := 0 }) ent0

instance (a b x y : Int) : WrAt #[.int .i64 a, .int .i64 b] 0 2 (.agg [Value.int .i64 x, .int .i64 y].toArray) #[.int .i64 x, .int .i64 y] := wr_row _ _ _ _ [.int .i64 x, .int .i64 y] rfl rfl (Nat.le_of_ble_eq_true rfl) rfl
instance : OneT 145 := ⟨fun w => by kernel_rfl, by kernel_rfl⟩
instance (e : Ent) : WrAt (entC e) 5 32 (.agg #[.int .u8 0, .int .u8 0, .int .u8 0, .int .u8 0, .int .u8 0, .int .u8 0, .int .u8 0, .int .u8 0, .int .u8 0, .int .u8 0, .int .u8 0, .int .u8 0, .int .u8 0, .int .u8 0, .int .u8 0, .int .u8 0, .int .u8 0, .int .u8 0, .int .u8 0, .int .u8 0, .int .u8 0, .int .u8 0, .int .u8 0, .int .u8 0, .int .u8 0, .int .u8 0, .int .u8 0, .int .u8 0, .int .u8 0, .int .u8 0, .int .u8 0, .int .u8 0]) (entC { e with hash := [] }) := wr_row _ _ _ _ (hashL []) rfl rfl (Nat.le_of_ble_eq_true rfl) (by kernel_rfl)
theorem fieldsL_len (k : Int) : (fieldsL k).length ≤ 3 := by
  unfold fieldsL
  repeat' split
  all_goals decide
theorem fieldsL_range (k : Int) : ∀ f ∈ fieldsL k, f = 0 ∨ f = 1 ∨ f = 2 ∨ f = 3 := by
  intro f hf
  unfold fieldsL at hf
  repeat' split at hf
  all_goals simp at hf
  all_goals omega
theorem errOf_eq0 (b : Bool) : (errOf b 130 == 0) = b := by cases b <;> rfl
theorem all_succ {l : List Int} {p : Int → Bool} {k : Nat} (h : k < l.length) : (l.take (k + 1)).all p = ((l.take k).all p && p l[k]) := by
  rw [List.take_succ_eq_append_getElem h, List.all_append]; simp
theorem foldl_succ {l : List Int} {p : Ent → Int → Ent} {e : Ent} {k : Nat} (h : k < l.length) : (l.take (k + 1)).foldl p e = p ((l.take k).foldl p e) l[k] := by
  rw [List.take_succ_eq_append_getElem h, List.foldl_append]; rfl
theorem cell_field (l : List Int) (k : Nat) (h : k < l.length) : CellAt (l.map (Value.int .i64)).toArray k (.int .i64 l[k]) := ⟨by simp [h]⟩

set_option maxHeartbeats 4000000 in
set_option maxRecDepth 100000 in
theorem check_calls (e : Ent) (hwf : e.Wf) (w : World) :
    Calls Tryz.prog 57 #[.agg (entC e)] w fun r w' => r = .returned (.int .i64 (errOf (checkB e) 2)) ∧ Below w.heap.size w w' := by
  have HW := Lib.hid hwf
  have HC : Hid (checkB e = (((fieldsL e.kind).all (stepOk e) && !(fieldsL e.kind).isEmpty) && entEq ((fieldsL e.kind).foldl strip { e with kind := 0 }) ent0)) := Lib.hid rfl
  generalize checkB e = res at *
  have hrange := Lib.hid (fieldsL_range e.kind)
  clear hwf
  have hst := St.start w
  go_enter Tryz.func57, Tryz.ntmps57
  go_wp2_with (first|(with_reducible refine wpList_ld rfl _ _ rfl _ _ rfl (by assumption) ?_)|(with_reducible refine wpList_lda rfl _ _ rfl _ _ rfl (by assumption) ?_)|(with_reducible refine wpList_stI rfl _ _ _ rfl _ _ rfl _ _ rfl (by assumption) ?_; intro w' hst)|(with_reducible refine wpList_stA rfl _ _ _ rfl _ _ rfl _ rfl (by assumption) ?_; intro w' hst)|(with_reducible refine wpList_box rfl _ _ rfl (by assumption) _ rfl ?_; intro bb w' hst)|(with_reducible refine wpList_new rfl _ rfl (by assumption) _ zero_ent ?_; intro bn w' hst))
  refine (fields_calls e.kind _).mono ?_
  rintro r w5 ⟨⟨v, rfl, hf⟩, hb⟩
  have hl3 := fieldsL_len e.kind
  generalize fieldsL e.kind = l at *
  rcases hf with ⟨hl, rfl⟩ | ⟨hl, bF, rfl, hsz, hblk⟩
  · have h5 := hst.below hb
    have HC2 : Hid (res = false) := Lib.hid (by rw [HC.out, hl]; rfl)
    have hnil := eql_nilT
    clear hl HC hb hst
    go_wp2_with fail
    go_loopw [4, 16] (fun okv iv wr => okv = .bool true ∧ iv = .int .i64 0 ∧ wr = w5) (fun _ _ _ => 0)
    case atStart => exact ⟨rfl, rfl, rfl⟩
    case round =>
      obtain ⟨rfl, rfl, rfl⟩ := hrel
      go_wp2_with fail
      go_ret
      exact ⟨by rw [HC2.out]; rfl, h5.end⟩
  · have h5 := hst.belowNew hb hsz hblk
    clear hblk hb hsz hst
    go_wp2_with fail
    go_loopw [4, 16] (fun okv iv wr => ∃ k : Nat, k ≤ l.length ∧ iv = .int .i64 k ∧ okv = .bool ((l.take k).all (stepOk e)) ∧ St [] w wr [(bF, (l.map (Value.int .i64)).toArray, 145), (bn, entC ((l.take k).foldl strip { e with kind := 0 }), 87), (bb, entC e, 87)]) (fun _ i _ => l.length - (intOf i).toNat)
    case atStart => exact ⟨0, by omega, rfl, rfl, h5⟩
    case round =>
      obtain ⟨k, hk, rfl, rfl, hs⟩ := hrel
      clear h5
      by_cases hlt : k < l.length
      · have hcell := cell_field l k hlt
        have HA := Lib.hid (all_succ (p := stepOk e) hlt)
        have HF := Lib.hid (foldl_succ (p := strip) (e := { e with kind := 0 }) hlt)
        have hf4 := hrange.out l[k] (List.getElem_mem hlt)
        generalize (l.take k).all (stepOk e) = ok at *
        generalize (l.take k).foldl strip { e with kind := 0 } = left at *
        generalize l[k] = f at *
        rcases hf4 with rfl | rfl | rfl | rfl
        · cases ok
          · go_wp2_with (first|(with_reducible refine wpList_ld rfl _ _ rfl _ _ rfl (by assumption) ?_)|(with_reducible refine wpList_stI rfl _ _ _ rfl _ _ rfl _ _ rfl (by assumption) ?_; intro w' hst))
            go_round
            case rel => exact ⟨k + 1, by omega, by go_num, by rw [HA.out]; rfl, by rw [HF.out]; exact hst⟩
            case measure => simp [intOf]; omega
          · go_wp2_with (with_reducible refine wpList_ld rfl _ _ rfl _ _ rfl (by assumption) ?_)
            refine (within_calls _ _ _).mono ?_
            rintro r w' ⟨rfl, rfl⟩
            go_wp2_with (with_reducible refine wpList_stI rfl _ _ _ rfl _ _ rfl _ _ rfl (by assumption) ?_; intro w' hst)
            go_round
            case rel => exact ⟨k + 1, by omega, by go_num, by rw [HA.out]; rfl, by rw [HF.out]; exact hst⟩
            case measure => simp [intOf]; omega
        · cases ok
          · go_wp2_with (with_reducible refine wpList_ld rfl _ _ rfl _ _ rfl (by assumption) ?_)
            have hq := hs.quiet
            refine wp_region_below_lit (by kernel_rfl) (by kernel_rfl) ?_
            repeat (first
              | (with_reducible refine wpQuiet_ld rfl _ _ rfl _ _ rfl hq ?_; simp only [Act.put, List.setIfInBounds_toArray, List.set_cons_succ, List.set_cons_zero])
              | go_big_quiet_step ((first | (go_at_call 97; refine Calls.below_of_same (most_calls _ _)) | (go_at_call 96; refine Calls.below_of_same (within_calls _ _ _)))))
            refine wpQuiet_nil ?_
            intro wq hwq
            have hs1 := hq wq hwq
            clear hq hwq hs
            go_wp2_with (with_reducible refine wpList_stI rfl _ _ _ rfl _ _ rfl _ _ rfl (by assumption) ?_; intro w' hst)
            go_round
            case rel => exact ⟨k + 1, by omega, by go_num, by rw [HA.out]; rfl, by rw [HF.out]; exact hst⟩
            case measure => simp [intOf]; omega
          · go_wp2_with (with_reducible refine wpList_ld rfl _ _ rfl _ _ rfl (by assumption) ?_)
            have hq := hs.quiet
            refine wp_region_below_lit (by kernel_rfl) (by kernel_rfl) ?_
            repeat (first
              | (with_reducible refine wpQuiet_ld rfl _ _ rfl _ _ rfl hq ?_; simp only [Act.put, List.setIfInBounds_toArray, List.set_cons_succ, List.set_cons_zero])
              | go_big_quiet_step ((first | (go_at_call 97; refine Calls.below_of_same (most_calls _ _)) | (go_at_call 96; refine Calls.below_of_same (within_calls _ _ _)))))
            refine wpQuiet_nil ?_
            intro wq hwq
            have hs1 := hq wq hwq
            clear hq hwq hs
            go_wp2_with (with_reducible refine wpList_stI rfl _ _ _ rfl _ _ rfl _ _ rfl (by assumption) ?_; intro w' hst)
            go_round
            case rel => exact ⟨k + 1, by omega, by go_num, by rw [HA.out]; rfl, by rw [HF.out]; exact hst⟩
            case measure => simp [intOf]; omega
        · cases ok
          · go_wp2_with (first|(with_reducible refine wpList_ld rfl _ _ rfl _ _ rfl (by assumption) ?_)|(with_reducible refine wpList_stS rfl _ _ _ rfl _ _ rfl _ rfl (by assumption) ?_; intro w' hst))
            go_round
            case rel => exact ⟨k + 1, by omega, by go_num, by rw [HA.out]; rfl, by rw [HF.out]; exact hst⟩
            case measure => simp [intOf]; omega
          · have HE := Lib.hid (errOf_eq0 (nameOk e.name))
            go_wp2_with (with_reducible refine wpList_ld rfl _ _ rfl _ _ rfl (by assumption) ?_)
            refine (names_check_calls _ (by have := HW.out.name; unfold maxLen; omega) _).mono ?_
            rintro r w' ⟨rfl, hb⟩
            have hs1 := hs.below hb
            clear hs hb
            go_wp2_with (with_reducible refine wpList_stS rfl _ _ _ rfl _ _ rfl _ rfl (by assumption) ?_; intro w' hst)
            go_round
            case rel => exact ⟨k + 1, by omega, by go_num, by rw [HA.out]; show Value.bool (errOf (nameOk e.name) 130 == 0) = Value.bool (true && nameOk e.name); rw [HE.out]; rfl, by rw [HF.out]; exact hst⟩
            case measure => simp [intOf]; omega
        · cases ok
          · go_wp2_with (first|(with_reducible refine wpList_ld rfl _ _ rfl _ _ rfl (by assumption) ?_)|(with_reducible refine wpList_lda rfl _ _ rfl _ _ rfl (by assumption) ?_)|(with_reducible refine wpList_stI rfl _ _ _ rfl _ _ rfl _ _ rfl (by assumption) ?_; intro w' hst)|(with_reducible refine wpList_stA rfl _ _ _ rfl _ _ rfl _ rfl (by assumption) ?_; intro w' hst)|(with_reducible refine wpList_new rfl _ rfl (by assumption) _ zero_run ?_; intro br w' hst))
            go_round
            case rel => exact ⟨k + 1, by omega, by go_num, by rw [HA.out]; rfl, by rw [HF.out]; exact hst.drop⟩
            case measure => simp [intOf]; omega
          · go_wp2_with (first|(with_reducible refine wpList_ld rfl _ _ rfl _ _ rfl (by assumption) ?_)|(with_reducible refine wpList_lda rfl _ _ rfl _ _ rfl (by assumption) ?_)|(with_reducible refine wpList_stA rfl _ _ _ rfl _ _ rfl _ rfl (by assumption) ?_; intro w' hst)|(with_reducible refine wpList_new rfl _ rfl (by assumption) _ zero_run ?_; intro br w' hst))
            refine (within_calls _ _ _).mono ?_
            rintro r w' ⟨rfl, rfl⟩
            have HS : Hid (stepOk e 3 = (withinB e.len 300 && (withinB e.start 512 && (decide (0 < e.count) && withinB e.count (512 - e.start))))) := Lib.hid rfl
            cases h1 : withinB e.len 300
            · have HS' : Hid (stepOk e 3 = false) := Lib.hid (by rw [HS.out, h1]; rfl)
              clear h1 HS
              go_wp2_with (first|(with_reducible refine wpList_stI rfl _ _ _ rfl _ _ rfl _ _ rfl (by assumption) ?_; intro w' hst)|(with_reducible refine wpList_stA rfl _ _ _ rfl _ _ rfl _ rfl (by assumption) ?_; intro w' hst))
              go_round
              case rel => exact ⟨k + 1, by omega, by go_num, by rw [HA.out, HS'.out]; rfl, by rw [HF.out]; exact hst.drop⟩
              case measure => simp [intOf]; omega
            · rw [h1] at HS
              clear h1
              go_wp2_with (with_reducible refine wpList_ld rfl _ _ rfl _ _ rfl (by assumption) ?_)
              refine (within_calls _ _ _).mono ?_
              rintro r w' ⟨rfl, rfl⟩
              cases h2 : withinB e.start 512
              · have HS' : Hid (stepOk e 3 = false) := Lib.hid (by rw [HS.out, h2]; rfl)
                clear h2 HS
                go_wp2_with (first|(with_reducible refine wpList_stI rfl _ _ _ rfl _ _ rfl _ _ rfl (by assumption) ?_; intro w' hst)|(with_reducible refine wpList_stA rfl _ _ _ rfl _ _ rfl _ rfl (by assumption) ?_; intro w' hst))
                go_round
                case rel => exact ⟨k + 1, by omega, by go_num, by rw [HA.out, HS'.out]; rfl, by rw [HF.out]; exact hst.drop⟩
                case measure => simp [intOf]; omega
              · have hwrap : IntKind.i64.wrap (512 - e.start) = 512 - e.start := by
                  simp [withinB] at h2
                  exact IntWalk.i64_in _ (by omega)
                rw [h2] at HS
                clear h2
                cases h3 : decide (0 < e.count)
                · have HS' : Hid (stepOk e 3 = false) := Lib.hid (by rw [HS.out, h3]; rfl)
                  clear HS
                  go_wp2_with (first|(with_reducible refine wpList_ld rfl _ _ rfl _ _ rfl (by assumption) ?_)|(with_reducible refine wpList_stI rfl _ _ _ rfl _ _ rfl _ _ rfl (by assumption) ?_; intro w' hst)|(with_reducible refine wpList_stA rfl _ _ _ rfl _ _ rfl _ rfl (by assumption) ?_; intro w' hst))
                  go_round
                  case rel => exact ⟨k + 1, by omega, by go_num, by rw [HA.out, HS'.out]; rfl, by rw [HF.out]; exact hst.drop⟩
                  case measure => simp [intOf]; omega
                · have HS' : Hid (stepOk e 3 = withinB e.count (512 - e.start)) := Lib.hid (by rw [HS.out, h3]; rfl)
                  clear HS
                  go_wp2_with (with_reducible refine wpList_ld rfl _ _ rfl _ _ rfl (by assumption) ?_)
                  refine (within_calls _ _ _).mono ?_
                  rintro r w' ⟨rfl, rfl⟩
                  go_wp2_with (first|(with_reducible refine wpList_stI rfl _ _ _ rfl _ _ rfl _ _ rfl (by assumption) ?_; intro w' hst)|(with_reducible refine wpList_stA rfl _ _ _ rfl _ _ rfl _ rfl (by assumption) ?_; intro w' hst))
                  go_round
                  case rel => exact ⟨k + 1, by omega, by go_num, by rw [HA.out, HS'.out]; rfl, by rw [HF.out]; exact hst.drop⟩
                  case measure => simp [intOf]; omega
      · obtain rfl : k = l.length := by omega
        rw [List.take_length] at hs ⊢
        have HC2 : Hid (res = (l.all (stepOk e) && entEq (l.foldl strip { e with kind := 0 }) ent0)) := Lib.hid (by rw [HC.out, List.isEmpty_eq_false_iff.2 hl]; simp)
        clear HC
        generalize l.foldl strip { e with kind := 0 } = left at *
        generalize l.all (stepOk e) = ok at *
        have hnil := eql_nilF
        cases ok
        · go_wp2_with fail
          go_ret
          exact ⟨by rw [HC2.out]; rfl, hs.end⟩
        · rw [Bool.true_and] at HC2
          cases hq : entEq left ent0
          · have HR : Hid (res = false) := Lib.hid (by rw [HC2.out, hq])
            clear HC2
            go_wp2_with (first|(with_reducible refine wpList_neqE rfl _ _ _ rfl _ _ rfl rfl ?_)|(with_reducible refine wpList_lda rfl _ _ rfl _ _ rfl (by assumption) ?_))
            go_ret
            exact ⟨by rw [HR.out]; rfl, hs.end⟩
          · have HR : Hid (res = true) := Lib.hid (by rw [HC2.out, hq])
            clear HC2
            go_wp2_with (first|(with_reducible refine wpList_neqE rfl _ _ _ rfl _ _ rfl rfl ?_)|(with_reducible refine wpList_lda rfl _ _ rfl _ _ rfl (by assumption) ?_))
            go_ret
            exact ⟨by rw [HR.out]; rfl, hs.end⟩
end Go.Proofs.YtigihgbgdillpaaGreatDoor
namespace Go.Proofs.YtigihgbgdillpaaGreatDoor
open Go.RowKit

theorem toList_ls (s : ByteArray) : s.toList = ls s := ByteArray.toList_eq s

theorem be_lt_aux (n m k : Nat) (hn : n < 256 ^ (k + 1)) (hm : m < 256 ^ (k + 1)) :
    n / 256 ^ k < 256 ∧ m / 256 ^ k < 256 ∧ n = (n / 256 ^ k) * 256 ^ k + n % 256 ^ k ∧ m = (m / 256 ^ k) * 256 ^ k + m % 256 ^ k ∧ n % 256 ^ k < 256 ^ k ∧ m % 256 ^ k < 256 ^ k := by
  have hp : 0 < 256 ^ k := Nat.pow_pos (by omega)
  rw [Nat.pow_succ] at hn hm
  refine ⟨Nat.div_lt_of_lt_mul (by rw [Nat.mul_comm]; omega), Nat.div_lt_of_lt_mul (by rw [Nat.mul_comm]; omega), ?_, ?_, Nat.mod_lt _ hp, Nat.mod_lt _ hp⟩
  · rw [Nat.mul_comm]; exact (Nat.div_add_mod n _).symm
  · rw [Nat.mul_comm]; exact (Nat.div_add_mod m _).symm

theorem be_mod (n : Nat) : ∀ k K : Nat, k ≤ K → be k (n % 256 ^ K) = be k n
  | 0, _, _ => rfl
  | k + 1, K, h => by
    simp only [be]
    rw [be_mod n k K (by omega)]
    congr 1
    obtain ⟨d, rfl⟩ : ∃ d, K = k + 1 + d := ⟨K - (k + 1), by omega⟩
    have e1 : 256 ^ (k + 1 + d) = 256 ^ k * (256 * 256 ^ d) := by rw [Nat.pow_add, Nat.pow_succ, Nat.mul_assoc]
    have : n % 256 ^ (k + 1 + d) / 256 ^ k % 256 = n / 256 ^ k % 256 := by
      rw [e1, Nat.mod_mul_right_div_self, Nat.mod_mul_right_mod]
    apply UInt8.toNat_inj.mp
    simpa using this

theorem be_inj {n m : Nat} : ∀ {k : Nat}, n < 256 ^ k → m < 256 ^ k → be k n = be k m → n = m
  | 0, hn, hm, _ => by simp at hn hm; omega
  | k + 1, hn, hm, h => by
    obtain ⟨a1, a2, a3, a4, a5, a6⟩ := be_lt_aux n m k hn hm
    simp only [be, List.cons.injEq] at h
    have h1 : n / 256 ^ k = m / 256 ^ k := by
      have := congrArg UInt8.toNat h.1
      simpa [Nat.mod_eq_of_lt a1, Nat.mod_eq_of_lt a2] using this
    have h2 : n % 256 ^ k = m % 256 ^ k := be_inj a5 a6 (by rw [be_mod n k k (Nat.le_refl _), be_mod m k k (Nat.le_refl _)]; exact h.2)
    rw [a3, a4, h1, h2]

theorem be_less {n m : Nat} : ∀ {k : Nat}, n < 256 ^ k → m < 256 ^ k → Op.bytesLess (be k n) (be k m) = decide (n < m)
  | 0, hn, hm => by simp at hn hm; subst hn hm; rfl
  | k + 1, hn, hm => by
    obtain ⟨a1, a2, a3, a4, a5, a6⟩ := be_lt_aux n m k hn hm
    have ih := be_less (k := k) a5 a6
    rw [be_mod n k k (Nat.le_refl _), be_mod m k k (Nat.le_refl _)] at ih
    simp only [be, Op.bytesLess, ih]
    have e1 : (UInt8.ofNat (n / 256 ^ k) < UInt8.ofNat (m / 256 ^ k)) ↔ n / 256 ^ k < m / 256 ^ k := by
      rw [UInt8.lt_iff_toNat_lt]; simp [Nat.mod_eq_of_lt a1, Nat.mod_eq_of_lt a2]
    have e2 : (UInt8.ofNat (n / 256 ^ k) = UInt8.ofNat (m / 256 ^ k)) ↔ n / 256 ^ k = m / 256 ^ k := by
      rw [← UInt8.toNat_inj]; simp [Nat.mod_eq_of_lt a1, Nat.mod_eq_of_lt a2]
    generalize n / 256 ^ k = p at *
    generalize m / 256 ^ k = q at *
    generalize n % 256 ^ k = r at *
    generalize m % 256 ^ k = t at *
    generalize 256 ^ k = B at *
    rw [Bool.eq_iff_iff]
    simp only [Bool.or_eq_true, decide_eq_true_eq, e1, Bool.and_eq_true, beq_iff_eq, e2]
    constructor
    · rintro (h | ⟨h1, h2⟩)
      · have : (p + 1) * B ≤ q * B := Nat.mul_le_mul_right _ h
        rw [Nat.add_mul] at this
        omega
      · subst h1; omega
    · intro h
      rcases Nat.lt_trichotomy p q with h1 | h1 | h1
      · exact Or.inl h1
      · subst h1; exact Or.inr ⟨rfl, by omega⟩
      · have : (q + 1) * B ≤ p * B := Nat.mul_le_mul_right _ h1
        rw [Nat.add_mul] at this
        omega

/-- What the law asks of the bytes of two numbers of one size b below 8; B: what so many bytes say. -/
structure Fits (n m : Int) (b : Nat) (B : Int) (sa sb : ByteArray) : Prop where
  neg : n < 0 → sa.toList = []
  emp : 0 ≤ n → sa.toList.isEmpty = !decide (n < B)
  len : 0 ≤ n → n < B → sa.size = b
  none : 0 ≤ n → ¬ n < B → sa.toList = []
  empb : ¬ sb.toList = [] → 0 ≤ m ∧ m < B
  less : 0 ≤ n → n < B → ¬ sb.toList = [] → Op.bytesLess sa.toList sb.toList = decide (n < m)
  same : 0 ≤ n → n < B → ¬ sb.toList = [] → (sa.toList == sb.toList) = (n == m)

theorem putF_list (n : Int) (b : Nat) : (putF n b).toList = if fitsB n b then be b n.toNat else [] := by
  rw [toList_ls]; unfold putF; split <;> rfl
theorem be_ne {b n : Nat} (h : 1 ≤ b) : be b n ≠ [] := by
  intro h'; have := congrArg List.length h'; rw [be_length] at this; simp at this; omega

theorem fits_of (n m : Int) (b : Nat) (B : Int) (hb : sizeB b = true) (h8 : b < 8) (hB : B = ((256 ^ b : Nat) : Int)) : Fits n m b B (putF n b) (putF m b) := by
  have hr := sizeB_range hb
  have hf : ∀ x : Int, fitsB x b = (decide (0 ≤ x) && decide (x < B)) := by
    intro x
    have e : decide ((8 : Int) ≤ b) = false := by simp; omega
    subst hB
    by_cases h0 : 0 ≤ x
    · obtain ⟨x, rfl⟩ := Int.eq_ofNat_of_zero_le h0
      have : ((x : Int) < ((256 ^ b : Nat) : Int)) ↔ x < 256 ^ b := by omega
      simp only [fitsB, hb, e, h0, Int.toNat_natCast, this, decide_true, Bool.true_and, Bool.false_or]
    · have : decide (0 ≤ x) = false := by simpa using h0
      simp [fitsB, this]
  have hlt : ∀ x : Int, 0 ≤ x → x < B → x.toNat < 256 ^ b := fun x h0 h1 => by omega
  have hne : ∀ x : Int, ¬ (putF x b).toList = [] → 0 ≤ x ∧ x < B := fun x h => by
    rw [putF_list, hf] at h
    by_cases h1 : decide (0 ≤ x) && decide (x < B)
    · simpa using h1
    · simp [h1] at h
  have hyes : ∀ x : Int, 0 ≤ x → x < B → (putF x b).toList = be b x.toNat := fun x h0 h1 => by
    rw [putF_list, hf]; simp [h0, h1]
  have hno : ∀ x : Int, ¬ (0 ≤ x ∧ x < B) → (putF x b).toList = [] := fun x h => by
    rw [putF_list, hf]
    have : (decide (0 ≤ x) && decide (x < B)) = false := by simp; omega
    rw [this]; rfl
  refine ⟨fun h => hno n (by omega), fun h => ?_, fun h0 h1 => ?_, fun h0 h1 => hno n (by omega), hne m, fun h0 h1 h2 => ?_, fun h0 h1 h2 => ?_⟩
  · by_cases h1 : n < B
    · rw [hyes n h h1]
      have := be_ne (b := b) (n := n.toNat) (by omega)
      simp [h1, this]
    · rw [hno n (by omega)]; simp [h1]
  · have e : (putF n b).size = (putF n b).toList.length := by rw [toList_ls, ls_length]
    rw [e, hyes n h0 h1, be_length]
  · obtain ⟨h3, h4⟩ := hne m h2
    rw [hyes n h0 h1, hyes m h3 h4, be_less (hlt n h0 h1) (hlt m h3 h4)]
    congr 1
    simp; omega
  · obtain ⟨h3, h4⟩ := hne m h2
    rw [hyes n h0 h1, hyes m h3 h4, Bool.eq_iff_iff]
    simp only [beq_iff_eq]
    constructor
    · intro h; have := be_inj (hlt n h0 h1) (hlt m h3 h4) h; omega
    · rintro rfl; rfl
end Go.Proofs.YtigihgbgdillpaaGreatDoor
namespace Go.Proofs.YtigihgbgdillpaaGreatDoor
open Go.RowKit

theorem size_mkS (l : List UInt8) : (mkS l).size = l.length := rfl
theorem sub_mid (A M C : List UInt8) : sub (mkS (A ++ (M ++ C))) A.length M.length = M := by
  unfold sub
  rw [ls_mkS]
  simp only [Int.toNat_natCast]
  rw [List.drop_left, List.take_left]
theorem bv_be (n : Nat) : ∀ b : Nat, n < 256 ^ b → bv (be b n) = n
  | 0, h => by simp at h; subst h; rfl
  | b + 1, h => by
    have hp : 0 < 256 ^ b := Nat.pow_pos (by omega)
    have h1 : n / 256 ^ b < 256 := Nat.div_lt_of_lt_mul (by rw [Nat.pow_succ] at h; omega)
    have ih := bv_be (n % 256 ^ b) b (Nat.mod_lt _ hp)
    rw [be_mod n b b (Nat.le_refl _)] at ih
    simp only [be]
    rw [bv_cons, be_length, ih]
    have : (UInt8.ofNat (n / 256 ^ b)).toNat = n / 256 ^ b := by simp [Nat.mod_eq_of_lt h1]
    rw [this, Nat.mul_comm]
    exact Nat.div_add_mod n _

theorem get_back (A C : List UInt8) (n b : Nat) (hb : sizeB b = true) (hn : n < 256 ^ b) (h63 : n < 9223372036854775808) :
    getF (mkS (A ++ (be b n ++ C))) A.length b = some (n, (A.length : Int) + b) := by
  have hs : sub (mkS (A ++ (be b n ++ C))) A.length b = be b n := by
    have := sub_mid A (be b n) C
    rwa [be_length] at this
  have ht : thereB (mkS (A ++ (be b n ++ C))) A.length b = true := by
    simp [thereB, size_mkS, be_length]; omega
  unfold getF
  rw [hb, ht, hs, bv_be n b hn]
  simp [h63]

theorem text_back (A T C : List UInt8) (hT : T.length ≤ 65535) :
    getTextF (mkS (A ++ (be 2 T.length ++ (T ++ C)))) A.length = some (T, (A.length : Int) + 2 + T.length) := by
  have h := get_back A (T ++ C) T.length 2 rfl (by omega) (by omega)
  have h' : getF (mkS (A ++ (be 2 T.length ++ (T ++ C)))) A.length 2 = some (T.length, (A.length : Int) + 2) := h
  unfold getTextF
  rw [h']
  have hsz : (mkS (A ++ (be 2 T.length ++ (T ++ C)))).size = A.length + 2 + T.length + C.length := by simp [size_mkS, be_length]; omega
  have hs : sub (mkS (A ++ (be 2 T.length ++ (T ++ C)))) ((A.length : Int) + 2) T.length = T := by
    have := sub_mid (A ++ be 2 T.length) T C
    rw [List.append_assoc, List.length_append, be_length] at this
    exact this
  simp only [hsz, hs]
  rw [if_pos (by omega)]

theorem hash_back' (A H C : List UInt8) (hH : H.length = 32) :
    getHashV (mkS (A ++ (H ++ C))) A.length = .tuple #[arr H, .int .i64 ((A.length : Int) + 32), .bool true] := by
  have ht : thereB (mkS (A ++ (H ++ C))) A.length 32 = true := by
    simp [thereB, size_mkS]; omega
  have hs : sub (mkS (A ++ (H ++ C))) A.length 32 = H := by
    have := sub_mid A H C
    rw [hH] at this
    exact this
  unfold getHashV
  rw [ht, hs]
  rfl

/-- Texts, one behind the other. -/
def textsL (l : List ByteArray) : List UInt8 := l.flatMap fun t => be 2 t.size ++ ls t
theorem textsL_take_succ (ss : List ByteArray) (k : Nat) (h : k < ss.length) : textsL (ss.take (k + 1)) = textsL (ss.take k) ++ (be 2 ss[k].size ++ ls ss[k]) := by
  rw [List.take_succ_eq_append_getElem h]
  unfold textsL
  rw [List.flatMap_append]
  simp only [List.flatMap_cons, List.flatMap_nil, List.append_nil]
theorem textsL_split (ss : List ByteArray) (k : Nat) (h : k < ss.length) : textsL ss = textsL (ss.take k) ++ (be 2 ss[k].size ++ (ls ss[k] ++ textsL (ss.drop (k + 1)))) := by
  conv => lhs; rw [← List.take_append_drop (k + 1) ss]
  have : textsL (ss.take (k + 1) ++ ss.drop (k + 1)) = textsL (ss.take (k + 1)) ++ textsL (ss.drop (k + 1)) := by unfold textsL; rw [List.flatMap_append]
  rw [this, textsL_take_succ ss k h]
  simp
theorem texts_read (ss : List ByteArray) (k : Nat) (h : k < ss.length) (hs : ss[k].size ≤ 65535) :
    getTextF (mkS (textsL ss)) (textsL (ss.take k)).length = some (ls ss[k], ((textsL (ss.take (k + 1))).length : Int)) := by
  have := text_back (textsL (ss.take k)) (ls ss[k]) (textsL (ss.drop (k + 1))) hs
  rw [textsL_split ss k h, textsL_take_succ ss k h]
  rw [ls_length] at this
  rw [this]
  simp [be_length, ls_length]
  omega
theorem textsL_le (ss : List ByteArray) (B : Nat) (h : ∀ s ∈ ss, s.size ≤ B) : (textsL ss).length ≤ ss.length * (B + 2) := by
  induction ss with
  | nil => simp [textsL]
  | cons s ss ih =>
    have h1 := h s (by simp)
    have h2 := ih (fun x hx => h x (by simp [hx]))
    have : textsL (s :: ss) = (be 2 s.size ++ ls s) ++ textsL ss := by simp [textsL]
    rw [this]
    simp [be_length, ls_length, Nat.add_mul] at *
    omega
end Go.Proofs.YtigihgbgdillpaaGreatDoor
