/- The contract of (*entries.reader).field: a record. -/
import Derived.Test.YtgjgjhikimnknaaReadField
import Derived.Test.YtgjgjhikimnknaaFlow
set_option linter.unusedVariables false
set_option linter.unusedSimpArgs false
namespace Go.Proofs.Ytgjgjhikimnknaa
open Go.RowKit

def hashN (s : ByteArray) (a : Int) : List UInt8 := if thereB s a 32 then sub s a 32 else zeros 32
def hashA (s : ByteArray) (a : Int) : Int := if thereB s a 32 then a + 32 else 0
theorem hashN_length (s : ByteArray) (a : Int) : (hashN s a).length = 32 := by
  unfold hashN
  split
  · rename_i h
    simp [thereB] at h
    obtain ⟨a, rfl⟩ := Int.eq_ofNat_of_zero_le h.1
    exact sub_length s a 32 (by omega)
  · exact zeros_length 32
theorem get_hash_calls3 (s : ByteArray) (a : Int) (hs : s.size ≤ maxLen) (w : World) :
    Calls Try.prog 49 #[.string s, .int .i64 a] w fun e w' => e = .returned (.tuple #[.agg (hashL (hashN s a)).toArray, .int .i64 (hashA s a), .bool (thereB s a 32)]) ∧ Below w.heap.size w w' := by
  have e : getHashV s a = .tuple #[.agg (hashL (hashN s a)).toArray, .int .i64 (hashA s a), .bool (thereB s a 32)] := by
    rw [← arr_hashL _ (hashN_length s a)]
    unfold getHashV hashN hashA
    split
    · rename_i h; rw [h]
    · rename_i h; have h' : thereB s a 32 = false := by simpa using h
      rw [h']
  rw [← e]
  exact get_hash_calls s a hs w
instance (h : List UInt8) : PartAt (hashL h).toArray 0 32 (hashL h) := ⟨rfl, fun j v hj => by rw [Nat.zero_add]; simpa using hj⟩
instance (g h : List UInt8) : WrAt (hashL g).toArray 0 32 (.agg (hashL h).toArray) (hashL h).toArray := wr_row _ _ _ _ _ rfl rfl (Nat.le_of_ble_eq_true rfl) (by kernel_rfl)
theorem zero_hash (w : World) : (zeroValue 23).run Try.prog w = .ok (.agg (hashL []).toArray) w := by kernel_rfl

set_option maxHeartbeats 4000000 in
set_option maxRecDepth 100000 in
theorem readfield_record (g q : Nat) (s : ByteArray) (a : Int) (bad : Bool) (e : Ent) (hs : s.size ≤ maxLen) (w : World) (hg : w.heap[g]? = some (.cells (readC s a bad) 70 (0, 0))) (hq : w.heap[q]? = some (.cells (entC e) 27 (0, 0))) :
    Calls Try.prog 35 #[.pointer (some ⟨g, 0, none⟩), .int .i64 3, .pointer (some ⟨q, 0, none⟩)] w fun r w' => r = .returned (.tuple #[]) ∧
      St [g, q] w w' [(g, readC s (numA s (numA s (hashA s (numA s a 2)) 2) 2) ((((bad || !numOk s a 2) || !thereB s (numA s a 2) 32) || !numOk s (hashA s (numA s a 2)) 2) || !numOk s (numA s (hashA s (numA s a 2)) 2) 2), 70),
        (q, entC { e with len := numN s a 2, hash := hashN s (numA s a 2), start := numN s (hashA s (numA s a 2)) 2, count := numN s (numA s (hashA s (numA s a 2)) 2) 2 }, 27)] := by
  have hst := two_start hg hq
  clear hg hq
  have C1 := Lib.hid (get_hash_calls3 s (numA s a 2) hs)
  have N1 := Lib.hid (number_calls g s a 2 bad hs)
  generalize numN s a 2 = n1 at *
  generalize numA s a 2 = a1 at *
  generalize (bad || !numOk s a 2) = bad1 at *
  generalize hashN s a1 = h at *
  generalize hashA s a1 = a2 at *
  generalize thereB s a1 32 = ok at *
  go_enter Try.func35, Try.ntmps35
  go_wp2_with (first
      | (with_reducible refine wpList_neqE rfl _ _ _ rfl _ _ rfl rfl ?_)
      | (with_reducible refine wpList_eqlE rfl _ _ _ rfl _ _ rfl rfl ?_)
      | (with_reducible refine wpList_ld rfl _ _ rfl _ _ rfl (by assumption) ?_)
      | (with_reducible refine wpList_lda rfl _ _ rfl _ _ rfl (by assumption) ?_)
      | (with_reducible refine wpList_stI rfl _ _ _ rfl _ _ rfl _ _ rfl (by assumption) ?_; intro w' hst)
      | (with_reducible refine wpList_stS rfl _ _ _ rfl _ _ rfl _ rfl (by assumption) ?_; intro w' hst)
      | (with_reducible refine wpList_stB rfl _ _ _ rfl _ _ rfl _ rfl (by assumption) ?_; intro w' hst)
      | (with_reducible refine wpList_stA rfl _ _ _ rfl _ _ rfl _ rfl (by assumption) ?_; intro w' hst)
      | (with_reducible refine wpList_box rfl _ _ rfl (by assumption) _ rfl ?_; intro bb w' hst)
      | (with_reducible refine wpList_new rfl _ rfl (by assumption) _ zero_ent ?_; intro bn w' hst)
      | (with_reducible refine wpList_new rfl _ rfl (by assumption) _ zero_run ?_; intro br w' hst))
  refine (N1.out w hst.has).mono ?_
  rintro r w1 ⟨rfl, k⟩
  have h1 := hst.upd k
  clear k hst
  go_wp2_with (first
      | (with_reducible refine wpList_neqE rfl _ _ _ rfl _ _ rfl rfl ?_)
      | (with_reducible refine wpList_eqlE rfl _ _ _ rfl _ _ rfl rfl ?_)
      | (with_reducible refine wpList_ld rfl _ _ rfl _ _ rfl (by assumption) ?_)
      | (with_reducible refine wpList_lda rfl _ _ rfl _ _ rfl (by assumption) ?_)
      | (with_reducible refine wpList_stI rfl _ _ _ rfl _ _ rfl _ _ rfl (by assumption) ?_; intro w' hst)
      | (with_reducible refine wpList_stS rfl _ _ _ rfl _ _ rfl _ rfl (by assumption) ?_; intro w' hst)
      | (with_reducible refine wpList_stB rfl _ _ _ rfl _ _ rfl _ rfl (by assumption) ?_; intro w' hst)
      | (with_reducible refine wpList_stA rfl _ _ _ rfl _ _ rfl _ rfl (by assumption) ?_; intro w' hst)
      | (with_reducible refine wpList_box rfl _ _ rfl (by assumption) _ rfl ?_; intro bb w' hst)
      | (with_reducible refine wpList_new rfl _ rfl (by assumption) _ zero_ent ?_; intro bn w' hst)
      | (with_reducible refine wpList_new rfl _ rfl (by assumption) _ zero_run ?_; intro br w' hst))
  refine wp_region_flow ⟨[g, q], w, fun x => x.heap[g]? = some (.cells (readC s a1 bad1) 70 (0, 0)), fun i => i == 13 || i == 14, fun i => !(i == 3 || i == 7), fun i => i == 14⟩ (List.range 17) rfl (by assumption) (by kernel_rfl) (by kernel_rfl) (by kernel_rfl) (by kernel_rfl) (by kernel_rfl) ?_
  refine fl_pure rfl rfl rfl (Value.pointer (some ⟨g, 0, none⟩)) (by kernel_rfl) (fun w => by kernel_rfl) ?_
  refine fl_pure rfl rfl rfl (Value.pointer (some ⟨g, 0, none⟩)) (by kernel_rfl) (fun w => by kernel_rfl) ?_
  refine fl_pure rfl rfl rfl (Value.pointer (some ⟨g, 0, none⟩)) (by kernel_rfl) (fun w => by kernel_rfl) ?_
  refine fl_ld rfl rfl rfl _ _ rfl g 0 (by kernel_rfl) (by kernel_rfl) (fun x hx => St.has hx) (fun x hx => hx) ?_
  refine fl_pure rfl rfl rfl (Value.pointer (some ⟨g, 0, none⟩)) (by kernel_rfl) (fun w => by kernel_rfl) ?_
  refine fl_pure rfl rfl rfl (Value.pointer (some ⟨g, 0, none⟩)) (by kernel_rfl) (fun w => by kernel_rfl) ?_
  refine fl_pure rfl rfl rfl (Value.pointer (some ⟨g, 1, none⟩)) (by kernel_rfl) (fun w => by kernel_rfl) ?_
  refine fl_ld rfl rfl rfl _ _ rfl g 1 (by kernel_rfl) (by kernel_rfl) (fun x hx => St.has hx) (fun x hx => hx) ?_
  refine fl_call rfl rfl rfl 49 #[.string s, .int .i64 a1] _ (by kernel_rfl) (fun w => by kernel_rfl) C1.out ?_
  refine fl_pure rfl rfl rfl (Value.tuple #[.agg (hashL h).toArray, .int .i64 a2, .bool ok]) (by kernel_rfl) (fun w => by kernel_rfl) ?_
  refine fl_pure rfl rfl rfl (Value.agg (hashL h).toArray) (by kernel_rfl) (fun w => by kernel_rfl) ?_
  refine fl_pure rfl rfl rfl (Value.int .i64 a2) (by kernel_rfl) (fun w => by kernel_rfl) ?_
  refine fl_pure rfl rfl rfl (Value.bool ok) (by kernel_rfl) (fun w => by kernel_rfl) ?_
  refine fl_new rfl rfl _ rfl _ zero_hash (fun b x hx => St.has hx) ?_
  intro b
  refine fl_store rfl rfl _ _ _ rfl b 0 (by kernel_rfl) (.agg (hashL h).toArray) (by kernel_rfl) (Or.inl rfl) ?_
  refine fl_pure rfl rfl rfl (Value.int .i64 a2) (by kernel_rfl) (fun w => by kernel_rfl) ?_
  refine fl_pure rfl rfl rfl (Value.bool ok) (by kernel_rfl) (fun w => by kernel_rfl) ?_
  show ∀ w', _ → _
  intro w2 h2
  simp only [Act.put, List.setIfInBounds_toArray, List.set_cons_succ, List.set_cons_zero]
  clear h1 hst C1
  go_wp2_with (first
      | (with_reducible refine wpList_neqE rfl _ _ _ rfl _ _ rfl rfl ?_)
      | (with_reducible refine wpList_eqlE rfl _ _ _ rfl _ _ rfl rfl ?_)
      | (with_reducible refine wpList_ld rfl _ _ rfl _ _ rfl (by assumption) ?_)
      | (with_reducible refine wpList_lda rfl _ _ rfl _ _ rfl (by assumption) ?_)
      | (with_reducible refine wpList_stI rfl _ _ _ rfl _ _ rfl _ _ rfl (by assumption) ?_; intro w' hst)
      | (with_reducible refine wpList_stS rfl _ _ _ rfl _ _ rfl _ rfl (by assumption) ?_; intro w' hst)
      | (with_reducible refine wpList_stB rfl _ _ _ rfl _ _ rfl _ rfl (by assumption) ?_; intro w' hst)
      | (with_reducible refine wpList_stA rfl _ _ _ rfl _ _ rfl _ rfl (by assumption) ?_; intro w' hst)
      | (with_reducible refine wpList_box rfl _ _ rfl (by assumption) _ rfl ?_; intro bb w' hst)
      | (with_reducible refine wpList_new rfl _ rfl (by assumption) _ zero_ent ?_; intro bn w' hst)
      | (with_reducible refine wpList_new rfl _ rfl (by assumption) _ zero_run ?_; intro br w' hst))
  cases bad1
  · refine wp_region_flow ⟨[g, q], w, fun x => x.heap[g]? = some (.cells (readC s a1 false) 70 (0, 0)) ∧ x.heap[b]? = some (.cells (hashL h).toArray 23 (0, 0)), fun i => i == 15 || i == 18 || i == 21, fun i => !(i == 3 || i == 8), fun i => i == 15 || i == 18 || i == 21⟩ (List.range 22) rfl (by assumption) (by kernel_rfl) (by kernel_rfl) (by kernel_rfl) (by kernel_rfl) (by kernel_rfl) ?_
    refine fl_pure rfl rfl rfl (Value.pointer (some ⟨q, 0, none⟩)) (by kernel_rfl) (fun w => by kernel_rfl) ?_
    refine fl_pure rfl rfl rfl (Value.pointer (some ⟨g, 0, none⟩)) (by kernel_rfl) (fun w => by kernel_rfl) ?_
    refine fl_pure rfl rfl rfl (Value.pointer (some ⟨g, 0, none⟩)) (by kernel_rfl) (fun w => by kernel_rfl) ?_
    refine fl_lda rfl rfl rfl _ _ rfl b 0 (by kernel_rfl) (by kernel_rfl) (fun x hx => ⟨St.has hx, St.has hx⟩) (fun x hx => hx.2) ?_
    refine fl_pure rfl rfl rfl (Value.int .i64 a2) (by kernel_rfl) (fun w => by kernel_rfl) ?_
    refine fl_pure rfl rfl rfl (Value.pointer (some ⟨g, 0, none⟩)) (by kernel_rfl) (fun w => by kernel_rfl) ?_
    refine fl_pure rfl rfl rfl (Value.pointer (some ⟨g, 0, none⟩)) (by kernel_rfl) (fun w => by kernel_rfl) ?_
    refine fl_pure rfl rfl rfl (Value.pointer (some ⟨g, 2, none⟩)) (by kernel_rfl) (fun w => by kernel_rfl) ?_
    refine fl_ld rfl rfl rfl _ _ rfl g 2 (by kernel_rfl) (by kernel_rfl) (fun x hx => ⟨St.has hx, St.has hx⟩) (fun x hx => hx.1) ?_
    refine fl_pure rfl rfl rfl (Value.bool false) (by kernel_rfl) (fun w => by kernel_rfl) ?_
    refine fl_pure rfl rfl rfl (Value.bool ok) (by kernel_rfl) (fun w => by kernel_rfl) ?_
    refine fl_pure rfl rfl rfl (Value.bool !ok) (by kernel_rfl) (fun w => by kernel_rfl) ?_
    refine fl_pure rfl rfl rfl (Value.bool !ok) (by kernel_rfl) (fun w => by kernel_rfl) ?_
    refine fl_pure rfl rfl rfl (Value.pointer (some ⟨q, 0, none⟩)) (by kernel_rfl) (fun w => by kernel_rfl) ?_
    refine fl_pure rfl rfl rfl (Value.pointer (some ⟨q, 5, none⟩)) (by kernel_rfl) (fun w => by kernel_rfl) ?_
    refine fl_store rfl rfl _ _ _ rfl q 5 (by kernel_rfl) (.agg (hashL h).toArray) (by kernel_rfl) (Or.inl rfl) ?_
    refine fl_pure rfl rfl rfl (Value.pointer (some ⟨g, 0, none⟩)) (by kernel_rfl) (fun w => by kernel_rfl) ?_
    refine fl_pure rfl rfl rfl (Value.pointer (some ⟨g, 1, none⟩)) (by kernel_rfl) (fun w => by kernel_rfl) ?_
    refine fl_store rfl rfl _ _ _ rfl g 1 (by kernel_rfl) (.int .i64 a2) (by kernel_rfl) (Or.inl rfl) ?_
    refine fl_pure rfl rfl rfl (Value.pointer (some ⟨g, 0, none⟩)) (by kernel_rfl) (fun w => by kernel_rfl) ?_
    refine fl_pure rfl rfl rfl (Value.pointer (some ⟨g, 2, none⟩)) (by kernel_rfl) (fun w => by kernel_rfl) ?_
    refine fl_store rfl rfl _ _ _ rfl g 2 (by kernel_rfl) (.bool (!ok)) (by kernel_rfl) (Or.inl rfl) ?_
    show ∀ w', _ → _
    intro w3 h3
    simp only [Act.put, List.setIfInBounds_toArray, List.set_cons_succ, List.set_cons_zero]
    clear h2
    have h3 := h3.drop
    go_wp2_with (first
      | (with_reducible refine wpList_neqE rfl _ _ _ rfl _ _ rfl rfl ?_)
      | (with_reducible refine wpList_eqlE rfl _ _ _ rfl _ _ rfl rfl ?_)
      | (with_reducible refine wpList_ld rfl _ _ rfl _ _ rfl (by assumption) ?_)
      | (with_reducible refine wpList_lda rfl _ _ rfl _ _ rfl (by assumption) ?_)
      | (with_reducible refine wpList_stI rfl _ _ _ rfl _ _ rfl _ _ rfl (by assumption) ?_; intro w' hst)
      | (with_reducible refine wpList_stS rfl _ _ _ rfl _ _ rfl _ rfl (by assumption) ?_; intro w' hst)
      | (with_reducible refine wpList_stB rfl _ _ _ rfl _ _ rfl _ rfl (by assumption) ?_; intro w' hst)
      | (with_reducible refine wpList_stA rfl _ _ _ rfl _ _ rfl _ rfl (by assumption) ?_; intro w' hst)
      | (with_reducible refine wpList_box rfl _ _ rfl (by assumption) _ rfl ?_; intro bb w' hst)
      | (with_reducible refine wpList_new rfl _ rfl (by assumption) _ zero_ent ?_; intro bn w' hst)
      | (with_reducible refine wpList_new rfl _ rfl (by assumption) _ zero_run ?_; intro br w' hst))
    refine (number_calls g s a2 2 _ hs _ h3.has).mono ?_
    rintro r w4 ⟨rfl, k4⟩
    have h4 := h3.upd k4
    clear k4 h3
    go_wp2_with (first
      | (with_reducible refine wpList_neqE rfl _ _ _ rfl _ _ rfl rfl ?_)
      | (with_reducible refine wpList_eqlE rfl _ _ _ rfl _ _ rfl rfl ?_)
      | (with_reducible refine wpList_ld rfl _ _ rfl _ _ rfl (by assumption) ?_)
      | (with_reducible refine wpList_lda rfl _ _ rfl _ _ rfl (by assumption) ?_)
      | (with_reducible refine wpList_stI rfl _ _ _ rfl _ _ rfl _ _ rfl (by assumption) ?_; intro w' hst)
      | (with_reducible refine wpList_stS rfl _ _ _ rfl _ _ rfl _ rfl (by assumption) ?_; intro w' hst)
      | (with_reducible refine wpList_stB rfl _ _ _ rfl _ _ rfl _ rfl (by assumption) ?_; intro w' hst)
      | (with_reducible refine wpList_stA rfl _ _ _ rfl _ _ rfl _ rfl (by assumption) ?_; intro w' hst)
      | (with_reducible refine wpList_box rfl _ _ rfl (by assumption) _ rfl ?_; intro bb w' hst)
      | (with_reducible refine wpList_new rfl _ rfl (by assumption) _ zero_ent ?_; intro bn w' hst)
      | (with_reducible refine wpList_new rfl _ rfl (by assumption) _ zero_run ?_; intro br w' hst))
    refine (number_calls g s _ 2 _ hs _ h4.has).mono ?_
    rintro r w5 ⟨rfl, k5⟩
    have h5 := h4.upd k5
    clear k5 h4
    go_wp2_with (first
      | (with_reducible refine wpList_neqE rfl _ _ _ rfl _ _ rfl rfl ?_)
      | (with_reducible refine wpList_eqlE rfl _ _ _ rfl _ _ rfl rfl ?_)
      | (with_reducible refine wpList_ld rfl _ _ rfl _ _ rfl (by assumption) ?_)
      | (with_reducible refine wpList_lda rfl _ _ rfl _ _ rfl (by assumption) ?_)
      | (with_reducible refine wpList_stI rfl _ _ _ rfl _ _ rfl _ _ rfl (by assumption) ?_; intro w' hst)
      | (with_reducible refine wpList_stS rfl _ _ _ rfl _ _ rfl _ rfl (by assumption) ?_; intro w' hst)
      | (with_reducible refine wpList_stB rfl _ _ _ rfl _ _ rfl _ rfl (by assumption) ?_; intro w' hst)
      | (with_reducible refine wpList_stA rfl _ _ _ rfl _ _ rfl _ rfl (by assumption) ?_; intro w' hst)
      | (with_reducible refine wpList_box rfl _ _ rfl (by assumption) _ rfl ?_; intro bb w' hst)
      | (with_reducible refine wpList_new rfl _ rfl (by assumption) _ zero_ent ?_; intro bn w' hst)
      | (with_reducible refine wpList_new rfl _ rfl (by assumption) _ zero_run ?_; intro br w' hst))
    go_end0
    exact ⟨rfl, by simpa only [Bool.false_or, Bool.true_or] using hst⟩
  · refine wp_region_flow ⟨[g, q], w, fun x => x.heap[g]? = some (.cells (readC s a1 true) 70 (0, 0)) ∧ x.heap[b]? = some (.cells (hashL h).toArray 23 (0, 0)), fun i => i == 15 || i == 18 || i == 21, fun i => !(i == 3 || i == 8), fun i => i == 15 || i == 18 || i == 21⟩ (List.range 22) rfl (by assumption) (by kernel_rfl) (by kernel_rfl) (by kernel_rfl) (by kernel_rfl) (by kernel_rfl) ?_
    refine fl_pure rfl rfl rfl (Value.pointer (some ⟨q, 0, none⟩)) (by kernel_rfl) (fun w => by kernel_rfl) ?_
    refine fl_pure rfl rfl rfl (Value.pointer (some ⟨g, 0, none⟩)) (by kernel_rfl) (fun w => by kernel_rfl) ?_
    refine fl_pure rfl rfl rfl (Value.pointer (some ⟨g, 0, none⟩)) (by kernel_rfl) (fun w => by kernel_rfl) ?_
    refine fl_lda rfl rfl rfl _ _ rfl b 0 (by kernel_rfl) (by kernel_rfl) (fun x hx => ⟨St.has hx, St.has hx⟩) (fun x hx => hx.2) ?_
    refine fl_pure rfl rfl rfl (Value.int .i64 a2) (by kernel_rfl) (fun w => by kernel_rfl) ?_
    refine fl_pure rfl rfl rfl (Value.pointer (some ⟨g, 0, none⟩)) (by kernel_rfl) (fun w => by kernel_rfl) ?_
    refine fl_pure rfl rfl rfl (Value.pointer (some ⟨g, 0, none⟩)) (by kernel_rfl) (fun w => by kernel_rfl) ?_
    refine fl_pure rfl rfl rfl (Value.pointer (some ⟨g, 2, none⟩)) (by kernel_rfl) (fun w => by kernel_rfl) ?_
    refine fl_ld rfl rfl rfl _ _ rfl g 2 (by kernel_rfl) (by kernel_rfl) (fun x hx => ⟨St.has hx, St.has hx⟩) (fun x hx => hx.1) ?_
    refine fl_pure rfl rfl rfl (Value.bool true) (by kernel_rfl) (fun w => by kernel_rfl) ?_
    refine fl_skip rfl rfl rfl (by kernel_rfl) ?_
    refine fl_skip rfl rfl rfl (by kernel_rfl) ?_
    refine fl_pure rfl rfl rfl (Value.bool true) (by kernel_rfl) (fun w => by kernel_rfl) ?_
    refine fl_pure rfl rfl rfl (Value.pointer (some ⟨q, 0, none⟩)) (by kernel_rfl) (fun w => by kernel_rfl) ?_
    refine fl_pure rfl rfl rfl (Value.pointer (some ⟨q, 5, none⟩)) (by kernel_rfl) (fun w => by kernel_rfl) ?_
    refine fl_store rfl rfl _ _ _ rfl q 5 (by kernel_rfl) (.agg (hashL h).toArray) (by kernel_rfl) (Or.inl rfl) ?_
    refine fl_pure rfl rfl rfl (Value.pointer (some ⟨g, 0, none⟩)) (by kernel_rfl) (fun w => by kernel_rfl) ?_
    refine fl_pure rfl rfl rfl (Value.pointer (some ⟨g, 1, none⟩)) (by kernel_rfl) (fun w => by kernel_rfl) ?_
    refine fl_store rfl rfl _ _ _ rfl g 1 (by kernel_rfl) (.int .i64 a2) (by kernel_rfl) (Or.inl rfl) ?_
    refine fl_pure rfl rfl rfl (Value.pointer (some ⟨g, 0, none⟩)) (by kernel_rfl) (fun w => by kernel_rfl) ?_
    refine fl_pure rfl rfl rfl (Value.pointer (some ⟨g, 2, none⟩)) (by kernel_rfl) (fun w => by kernel_rfl) ?_
    refine fl_store rfl rfl _ _ _ rfl g 2 (by kernel_rfl) (.bool (true)) (by kernel_rfl) (Or.inl rfl) ?_
    show ∀ w', _ → _
    intro w3 h3
    simp only [Act.put, List.setIfInBounds_toArray, List.set_cons_succ, List.set_cons_zero]
    clear h2
    have h3 := h3.drop
    go_wp2_with (first
      | (with_reducible refine wpList_neqE rfl _ _ _ rfl _ _ rfl rfl ?_)
      | (with_reducible refine wpList_eqlE rfl _ _ _ rfl _ _ rfl rfl ?_)
      | (with_reducible refine wpList_ld rfl _ _ rfl _ _ rfl (by assumption) ?_)
      | (with_reducible refine wpList_lda rfl _ _ rfl _ _ rfl (by assumption) ?_)
      | (with_reducible refine wpList_stI rfl _ _ _ rfl _ _ rfl _ _ rfl (by assumption) ?_; intro w' hst)
      | (with_reducible refine wpList_stS rfl _ _ _ rfl _ _ rfl _ rfl (by assumption) ?_; intro w' hst)
      | (with_reducible refine wpList_stB rfl _ _ _ rfl _ _ rfl _ rfl (by assumption) ?_; intro w' hst)
      | (with_reducible refine wpList_stA rfl _ _ _ rfl _ _ rfl _ rfl (by assumption) ?_; intro w' hst)
      | (with_reducible refine wpList_box rfl _ _ rfl (by assumption) _ rfl ?_; intro bb w' hst)
      | (with_reducible refine wpList_new rfl _ rfl (by assumption) _ zero_ent ?_; intro bn w' hst)
      | (with_reducible refine wpList_new rfl _ rfl (by assumption) _ zero_run ?_; intro br w' hst))
    refine (number_calls g s a2 2 _ hs _ h3.has).mono ?_
    rintro r w4 ⟨rfl, k4⟩
    have h4 := h3.upd k4
    clear k4 h3
    go_wp2_with (first
      | (with_reducible refine wpList_neqE rfl _ _ _ rfl _ _ rfl rfl ?_)
      | (with_reducible refine wpList_eqlE rfl _ _ _ rfl _ _ rfl rfl ?_)
      | (with_reducible refine wpList_ld rfl _ _ rfl _ _ rfl (by assumption) ?_)
      | (with_reducible refine wpList_lda rfl _ _ rfl _ _ rfl (by assumption) ?_)
      | (with_reducible refine wpList_stI rfl _ _ _ rfl _ _ rfl _ _ rfl (by assumption) ?_; intro w' hst)
      | (with_reducible refine wpList_stS rfl _ _ _ rfl _ _ rfl _ rfl (by assumption) ?_; intro w' hst)
      | (with_reducible refine wpList_stB rfl _ _ _ rfl _ _ rfl _ rfl (by assumption) ?_; intro w' hst)
      | (with_reducible refine wpList_stA rfl _ _ _ rfl _ _ rfl _ rfl (by assumption) ?_; intro w' hst)
      | (with_reducible refine wpList_box rfl _ _ rfl (by assumption) _ rfl ?_; intro bb w' hst)
      | (with_reducible refine wpList_new rfl _ rfl (by assumption) _ zero_ent ?_; intro bn w' hst)
      | (with_reducible refine wpList_new rfl _ rfl (by assumption) _ zero_run ?_; intro br w' hst))
    refine (number_calls g s _ 2 _ hs _ h4.has).mono ?_
    rintro r w5 ⟨rfl, k5⟩
    have h5 := h4.upd k5
    clear k5 h4
    go_wp2_with (first
      | (with_reducible refine wpList_neqE rfl _ _ _ rfl _ _ rfl rfl ?_)
      | (with_reducible refine wpList_eqlE rfl _ _ _ rfl _ _ rfl rfl ?_)
      | (with_reducible refine wpList_ld rfl _ _ rfl _ _ rfl (by assumption) ?_)
      | (with_reducible refine wpList_lda rfl _ _ rfl _ _ rfl (by assumption) ?_)
      | (with_reducible refine wpList_stI rfl _ _ _ rfl _ _ rfl _ _ rfl (by assumption) ?_; intro w' hst)
      | (with_reducible refine wpList_stS rfl _ _ _ rfl _ _ rfl _ rfl (by assumption) ?_; intro w' hst)
      | (with_reducible refine wpList_stB rfl _ _ _ rfl _ _ rfl _ rfl (by assumption) ?_; intro w' hst)
      | (with_reducible refine wpList_stA rfl _ _ _ rfl _ _ rfl _ rfl (by assumption) ?_; intro w' hst)
      | (with_reducible refine wpList_box rfl _ _ rfl (by assumption) _ rfl ?_; intro bb w' hst)
      | (with_reducible refine wpList_new rfl _ rfl (by assumption) _ zero_ent ?_; intro bn w' hst)
      | (with_reducible refine wpList_new rfl _ rfl (by assumption) _ zero_run ?_; intro br w' hst))
    go_end0
    exact ⟨rfl, by simpa only [Bool.false_or, Bool.true_or] using hst⟩
end Go.Proofs.Ytgjgjhikimnknaa
