/- The contract of (*entries.reader).field: a record · The contract of (*entries.reader).field, whatever field · What entries.Decode tells; lemmas for its walk. -/
import Derived.OwnWalk
import Derived.Test.YtigihgbgdillpaaGreatDoorP08
import Derived.Test.YtigihgbgdillpaaGreatDoorP09
set_option linter.unusedVariables false
set_option linter.unusedSimpArgs false
set_option maxRecDepth 100000
namespace Go.Proofs.YtigihgbgdillpaaGreatDoor
open Go.RowKit

def hashN (s : ByteArray) (a : Int) : List UInt8 := if thereB s a 32 then sub s a 32 else zeros 32
def hashA (s : ByteArray) (a : Int) : Int := if thereB s a 32 then a + 32 else 0
theorem hashN_length (s : ByteArray) (a : Int) : (hashN s a).length = 32 := by
  unfold hashN
  split
  · rename_i h
    simp [thereB] at h
    obtain ⟨a, rfl⟩ := Int.eq_ofNat_of_zero_le h.1
    exact sub_length s a 32 (by omega)
  · exact zeros_length 32
theorem get_hash_calls3 (s : ByteArray) (a : Int) (hs : s.size ≤ maxLen) (w : World) :
    Calls Tryz.prog 114 #[.string s, .int .i64 a] w fun e w' => e = .returned (.tuple #[.agg (hashL (hashN s a)).toArray, .int .i64 (hashA s a), .bool (thereB s a 32)]) ∧ Below w.heap.size w w' := by
  have e : getHashV s a = .tuple #[.agg (hashL (hashN s a)).toArray, .int .i64 (hashA s a), .bool (thereB s a 32)] := by
    rw [← arr_hashL _ (hashN_length s a)]
    unfold getHashV hashN hashA
    split
    · rename_i h; rw [h]
    · rename_i h; have h' : thereB s a 32 = false := by simpa using h
      rw [h']
  rw [← e]
  exact get_hash_calls s a hs w
instance (h : List UInt8) : PartAt (hashL h).toArray 0 32 (hashL h) := ⟨rfl, fun j v hj => by rw [Nat.zero_add]; simpa using hj⟩
instance (g h : List UInt8) : WrAt (hashL g).toArray 0 32 (.agg (hashL h).toArray) (hashL h).toArray := wr_row _ _ _ _ _ rfl rfl (Nat.le_of_ble_eq_true rfl) (by kernel_rfl)
theorem zero_hash (w : World) : (zeroValue 34).run Tryz.prog w = .ok (.agg (hashL []).toArray) w := by kernel_rfl

set_option maxHeartbeats 4000000 in
set_option maxRecDepth 100000 in
theorem readfield_record (g q : Nat) (s : ByteArray) (a : Int) (bad : Bool) (e : Ent) (hs : s.size ≤ maxLen) (w : World) (hg : w.heap[g]? = some (.cells (readC s a bad) 175 (0, 0))) (hq : w.heap[q]? = some (.cells (entC e) 87 (0, 0))) :
    Calls Tryz.prog 86 #[.pointer (some ⟨g, 0, none⟩), .int .i64 3, .pointer (some ⟨q, 0, none⟩)] w fun r w' => r = .returned (.tuple #[]) ∧
      St [g, q] w w' [(g, readC s (numA s (numA s (hashA s (numA s a 2)) 2) 2) ((((bad || !numOk s a 2) || !thereB s (numA s a 2) 32) || !numOk s (hashA s (numA s a 2)) 2) || !numOk s (numA s (hashA s (numA s a 2)) 2) 2), 175),
        (q, entC { e with len := numN s a 2, hash := hashN s (numA s a 2), start := numN s (hashA s (numA s a 2)) 2, count := numN s (numA s (hashA s (numA s a 2)) 2) 2 }, 87)] := by
  have hst := two_start hg hq
  clear hg hq
  have C1 := Lib.hid (get_hash_calls3 s (numA s a 2) hs)
  have N1 := Lib.hid (number_calls g s a 2 bad hs)
  generalize numN s a 2 = n1 at *
  generalize numA s a 2 = a1 at *
  generalize (bad || !numOk s a 2) = bad1 at *
  generalize hashN s a1 = h at *
  generalize hashA s a1 = a2 at *
  generalize thereB s a1 32 = ok at *
  go_enter Tryz.func86, Tryz.ntmps86
  go_wp2_with fail
  refine (N1.out w hst.has).mono ?_
  rintro r w1 ⟨rfl, k⟩
  have h1 := hst.upd k
  clear k hst
  go_wp2_with (with_reducible refine wpList_stI rfl _ _ _ rfl _ _ rfl _ _ rfl (by assumption) ?_; intro w' hst)
  refine wp_region_flow ⟨[g, q], w, fun x => x.heap[g]? = some (.cells (readC s a1 bad1) 175 (0, 0)), fun i => i == 13 || i == 14, fun i => !(i == 3 || i == 7), fun i => i == 14⟩ (List.range 17) rfl (by assumption) (by kernel_rfl) (by kernel_rfl) (by kernel_rfl) (by kernel_rfl) (by kernel_rfl) ?_
  refine fl_pure rfl rfl rfl (Value.pointer (some ⟨g, 0, none⟩)) (by kernel_rfl) (fun w => by kernel_rfl) ?_
  refine fl_pure rfl rfl rfl (Value.pointer (some ⟨g, 0, none⟩)) (by kernel_rfl) (fun w => by kernel_rfl) ?_
  refine fl_pure rfl rfl rfl (Value.pointer (some ⟨g, 0, none⟩)) (by kernel_rfl) (fun w => by kernel_rfl) ?_
  refine fl_ld rfl rfl rfl _ _ rfl g 0 (by kernel_rfl) (by kernel_rfl) (fun x hx => St.has hx) (fun x hx => hx) ?_
  refine fl_pure rfl rfl rfl (Value.pointer (some ⟨g, 0, none⟩)) (by kernel_rfl) (fun w => by kernel_rfl) ?_
  refine fl_pure rfl rfl rfl (Value.pointer (some ⟨g, 0, none⟩)) (by kernel_rfl) (fun w => by kernel_rfl) ?_
  refine fl_pure rfl rfl rfl (Value.pointer (some ⟨g, 1, none⟩)) (by kernel_rfl) (fun w => by kernel_rfl) ?_
  refine fl_ld rfl rfl rfl _ _ rfl g 1 (by kernel_rfl) (by kernel_rfl) (fun x hx => St.has hx) (fun x hx => hx) ?_
  refine fl_call rfl rfl rfl 114 #[.string s, .int .i64 a1] _ (by kernel_rfl) (fun w => by kernel_rfl) C1.out ?_
  refine fl_pure rfl rfl rfl (Value.tuple #[.agg (hashL h).toArray, .int .i64 a2, .bool ok]) (by kernel_rfl) (fun w => by kernel_rfl) ?_
  refine fl_pure rfl rfl rfl (Value.agg (hashL h).toArray) (by kernel_rfl) (fun w => by kernel_rfl) ?_
  refine fl_pure rfl rfl rfl (Value.int .i64 a2) (by kernel_rfl) (fun w => by kernel_rfl) ?_
  refine fl_pure rfl rfl rfl (Value.bool ok) (by kernel_rfl) (fun w => by kernel_rfl) ?_
  refine fl_new rfl rfl _ rfl _ zero_hash (fun b x hx => St.has hx) ?_
  intro b
  refine fl_store rfl rfl _ _ _ rfl b 0 (by kernel_rfl) (.agg (hashL h).toArray) (by kernel_rfl) (Or.inl rfl) ?_
  refine fl_pure rfl rfl rfl (Value.int .i64 a2) (by kernel_rfl) (fun w => by kernel_rfl) ?_
  refine fl_pure rfl rfl rfl (Value.bool ok) (by kernel_rfl) (fun w => by kernel_rfl) ?_
  show ∀ w', _ → _
  intro w2 h2
  simp only [Act.put, List.setIfInBounds_toArray, List.set_cons_succ, List.set_cons_zero]
  clear h1 hst C1
  go_wp2_with fail
  cases bad1
  · refine wp_region_flow ⟨[g, q], w, fun x => x.heap[g]? = some (.cells (readC s a1 false) 175 (0, 0)) ∧ x.heap[b]? = some (.cells (hashL h).toArray 34 (0, 0)), fun i => i == 15 || i == 18 || i == 21, fun i => !(i == 3 || i == 8), fun i => i == 15 || i == 18 || i == 21⟩ (List.range 22) rfl (by assumption) (by kernel_rfl) (by kernel_rfl) (by kernel_rfl) (by kernel_rfl) (by kernel_rfl) ?_
    refine fl_pure rfl rfl rfl (Value.pointer (some ⟨q, 0, none⟩)) (by kernel_rfl) (fun w => by kernel_rfl) ?_
    refine fl_pure rfl rfl rfl (Value.pointer (some ⟨g, 0, none⟩)) (by kernel_rfl) (fun w => by kernel_rfl) ?_
    refine fl_pure rfl rfl rfl (Value.pointer (some ⟨g, 0, none⟩)) (by kernel_rfl) (fun w => by kernel_rfl) ?_
    refine fl_lda rfl rfl rfl _ _ rfl b 0 (by kernel_rfl) (by kernel_rfl) (fun x hx => ⟨St.has hx, St.has hx⟩) (fun x hx => hx.2) ?_
    refine fl_pure rfl rfl rfl (Value.int .i64 a2) (by kernel_rfl) (fun w => by kernel_rfl) ?_
    refine fl_pure rfl rfl rfl (Value.pointer (some ⟨g, 0, none⟩)) (by kernel_rfl) (fun w => by kernel_rfl) ?_
    refine fl_pure rfl rfl rfl (Value.pointer (some ⟨g, 0, none⟩)) (by kernel_rfl) (fun w => by kernel_rfl) ?_
    refine fl_pure rfl rfl rfl (Value.pointer (some ⟨g, 2, none⟩)) (by kernel_rfl) (fun w => by kernel_rfl) ?_
    refine fl_ld rfl rfl rfl _ _ rfl g 2 (by kernel_rfl) (by kernel_rfl) (fun x hx => ⟨St.has hx, St.has hx⟩) (fun x hx => hx.1) ?_
    refine fl_pure rfl rfl rfl (Value.bool false) (by kernel_rfl) (fun w => by kernel_rfl) ?_
    refine fl_pure rfl rfl rfl (Value.bool ok) (by kernel_rfl) (fun w => by kernel_rfl) ?_
    refine fl_pure rfl rfl rfl (Value.bool !ok) (by kernel_rfl) (fun w => by kernel_rfl) ?_
    refine fl_pure rfl rfl rfl (Value.bool !ok) (by kernel_rfl) (fun w => by kernel_rfl) ?_
    refine fl_pure rfl rfl rfl (Value.pointer (some ⟨q, 0, none⟩)) (by kernel_rfl) (fun w => by kernel_rfl) ?_
    refine fl_pure rfl rfl rfl (Value.pointer (some ⟨q, 5, none⟩)) (by kernel_rfl) (fun w => by kernel_rfl) ?_
    refine fl_store rfl rfl _ _ _ rfl q 5 (by kernel_rfl) (.agg (hashL h).toArray) (by kernel_rfl) (Or.inl rfl) ?_
    refine fl_pure rfl rfl rfl (Value.pointer (some ⟨g, 0, none⟩)) (by kernel_rfl) (fun w => by kernel_rfl) ?_
    refine fl_pure rfl rfl rfl (Value.pointer (some ⟨g, 1, none⟩)) (by kernel_rfl) (fun w => by kernel_rfl) ?_
    refine fl_store rfl rfl _ _ _ rfl g 1 (by kernel_rfl) (.int .i64 a2) (by kernel_rfl) (Or.inl rfl) ?_
    refine fl_pure rfl rfl rfl (Value.pointer (some ⟨g, 0, none⟩)) (by kernel_rfl) (fun w => by kernel_rfl) ?_
    refine fl_pure rfl rfl rfl (Value.pointer (some ⟨g, 2, none⟩)) (by kernel_rfl) (fun w => by kernel_rfl) ?_
    refine fl_store rfl rfl _ _ _ rfl g 2 (by kernel_rfl) (.bool (!ok)) (by kernel_rfl) (Or.inl rfl) ?_
    show ∀ w', _ → _
    intro w3 h3
    simp only [Act.put, List.setIfInBounds_toArray, List.set_cons_succ, List.set_cons_zero]
    clear h2
    have h3 := h3.drop
    go_wp2_with fail
    refine (number_calls g s a2 2 _ hs _ h3.has).mono ?_
    rintro r w4 ⟨rfl, k4⟩
    have h4 := h3.upd k4
    clear k4 h3
    go_wp2_with fail
    refine (number_calls g s _ 2 _ hs _ h4.has).mono ?_
    rintro r w5 ⟨rfl, k5⟩
    have h5 := h4.upd k5
    clear k5 h4
    go_wp2_with (with_reducible refine wpList_stA rfl _ _ _ rfl _ _ rfl _ rfl (by assumption) ?_; intro w' hst)
    go_end0
    exact ⟨rfl, by simpa only [Bool.false_or, Bool.true_or] using hst⟩
  · refine wp_region_flow ⟨[g, q], w, fun x => x.heap[g]? = some (.cells (readC s a1 true) 175 (0, 0)) ∧ x.heap[b]? = some (.cells (hashL h).toArray 34 (0, 0)), fun i => i == 15 || i == 18 || i == 21, fun i => !(i == 3 || i == 8), fun i => i == 15 || i == 18 || i == 21⟩ (List.range 22) rfl (by assumption) (by kernel_rfl) (by kernel_rfl) (by kernel_rfl) (by kernel_rfl) (by kernel_rfl) ?_
    refine fl_pure rfl rfl rfl (Value.pointer (some ⟨q, 0, none⟩)) (by kernel_rfl) (fun w => by kernel_rfl) ?_
    refine fl_pure rfl rfl rfl (Value.pointer (some ⟨g, 0, none⟩)) (by kernel_rfl) (fun w => by kernel_rfl) ?_
    refine fl_pure rfl rfl rfl (Value.pointer (some ⟨g, 0, none⟩)) (by kernel_rfl) (fun w => by kernel_rfl) ?_
    refine fl_lda rfl rfl rfl _ _ rfl b 0 (by kernel_rfl) (by kernel_rfl) (fun x hx => ⟨St.has hx, St.has hx⟩) (fun x hx => hx.2) ?_
    refine fl_pure rfl rfl rfl (Value.int .i64 a2) (by kernel_rfl) (fun w => by kernel_rfl) ?_
    refine fl_pure rfl rfl rfl (Value.pointer (some ⟨g, 0, none⟩)) (by kernel_rfl) (fun w => by kernel_rfl) ?_
    refine fl_pure rfl rfl rfl (Value.pointer (some ⟨g, 0, none⟩)) (by kernel_rfl) (fun w => by kernel_rfl) ?_
    refine fl_pure rfl rfl rfl (Value.pointer (some ⟨g, 2, none⟩)) (by kernel_rfl) (fun w => by kernel_rfl) ?_
    refine fl_ld rfl rfl rfl _ _ rfl g 2 (by kernel_rfl) (by kernel_rfl) (fun x hx => ⟨St.has hx, St.has hx⟩) (fun x hx => hx.1) ?_
    refine fl_pure rfl rfl rfl (Value.bool true) (by kernel_rfl) (fun w => by kernel_rfl) ?_
    refine fl_skip rfl rfl rfl (by kernel_rfl) ?_
    refine fl_skip rfl rfl rfl (by kernel_rfl) ?_
    refine fl_pure rfl rfl rfl (Value.bool true) (by kernel_rfl) (fun w => by kernel_rfl) ?_
    refine fl_pure rfl rfl rfl (Value.pointer (some ⟨q, 0, none⟩)) (by kernel_rfl) (fun w => by kernel_rfl) ?_
    refine fl_pure rfl rfl rfl (Value.pointer (some ⟨q, 5, none⟩)) (by kernel_rfl) (fun w => by kernel_rfl) ?_
    refine fl_store rfl rfl _ _ _ rfl q 5 (by kernel_rfl) (.agg (hashL h).toArray) (by kernel_rfl) (Or.inl rfl) ?_
    refine fl_pure rfl rfl rfl (Value.pointer (some ⟨g, 0, none⟩)) (by kernel_rfl) (fun w => by kernel_rfl) ?_
    refine fl_pure rfl rfl rfl (Value.pointer (some ⟨g, 1, none⟩)) (by kernel_rfl) (fun w => by kernel_rfl) ?_
    refine fl_store rfl rfl _ _ _ rfl g 1 (by kernel_rfl) (.int .i64 a2) (by kernel_rfl) (Or.inl rfl) ?_
    refine fl_pure rfl rfl rfl (Value.pointer (some ⟨g, 0, none⟩)) (by kernel_rfl) (fun w => by kernel_rfl) ?_
    refine fl_pure rfl rfl rfl (Value.pointer (some ⟨g, 2, none⟩)) (by kernel_rfl) (fun w => by kernel_rfl) ?_
    refine fl_store rfl rfl _ _ _ rfl g 2 (by kernel_rfl) (.bool (true)) (by kernel_rfl) (Or.inl rfl) ?_
    show ∀ w', _ → _
    intro w3 h3
    simp only [Act.put, List.setIfInBounds_toArray, List.set_cons_succ, List.set_cons_zero]
    clear h2
    have h3 := h3.drop
    go_wp2_with fail
    refine (number_calls g s a2 2 _ hs _ h3.has).mono ?_
    rintro r w4 ⟨rfl, k4⟩
    have h4 := h3.upd k4
    clear k4 h3
    go_wp2_with fail
    refine (number_calls g s _ 2 _ hs _ h4.has).mono ?_
    rintro r w5 ⟨rfl, k5⟩
    have h5 := h4.upd k5
    clear k5 h4
    go_wp2_with (with_reducible refine wpList_stA rfl _ _ _ rfl _ _ rfl _ rfl (by assumption) ?_; intro w' hst)
    go_end0
    exact ⟨rfl, by simpa only [Bool.false_or, Bool.true_or] using hst⟩
end Go.Proofs.YtigihgbgdillpaaGreatDoor
namespace Go.Proofs.YtigihgbgdillpaaGreatDoor
open Go.RowKit

/-- How far bytes were read, whether they are none, what was read. -/
structure Rd where
  a : Int
  bad : Bool
  e : Ent
/-- One field is read. -/
def fieldR (s : ByteArray) (x : Rd) (f : Int) : Rd :=
  if f = 0 then ⟨numA s x.a 1, x.bad || !numOk s x.a 1, { x.e with stream := numN s x.a 1 }⟩
  else if f = 1 then ⟨numA s x.a 4, x.bad || !numOk s x.a 4, { x.e with n := numN s x.a 4 }⟩
  else if f = 2 then ⟨textA s x.a, x.bad || !textOk s x.a, { x.e with name := textN s x.a }⟩
  else ⟨numA s (numA s (hashA s (numA s x.a 2)) 2) 2, (((x.bad || !numOk s x.a 2) || !thereB s (numA s x.a 2) 32) || !numOk s (hashA s (numA s x.a 2)) 2) || !numOk s (numA s (hashA s (numA s x.a 2)) 2) 2,
    { x.e with len := numN s x.a 2, hash := hashN s (numA s x.a 2), start := numN s (hashA s (numA s x.a 2)) 2, count := numN s (numA s (hashA s (numA s x.a 2)) 2) 2 }⟩
theorem readfield_calls (g q : Nat) (s : ByteArray) (x : Rd) (f : Int) (hf : f = 0 ∨ f = 1 ∨ f = 2 ∨ f = 3) (hs : s.size ≤ maxLen) (w : World) (hg : w.heap[g]? = some (.cells (readC s x.a x.bad) 175 (0, 0))) (hq : w.heap[q]? = some (.cells (entC x.e) 87 (0, 0))) :
    Calls Tryz.prog 86 #[.pointer (some ⟨g, 0, none⟩), .int .i64 f, .pointer (some ⟨q, 0, none⟩)] w fun r w' => r = .returned (.tuple #[]) ∧
      St [g, q] w w' [(g, readC s (fieldR s x f).a (fieldR s x f).bad, 175), (q, entC (fieldR s x f).e, 87)] := by
  rcases hf with rfl | rfl | rfl | rfl
  · exact readfield_stream g q s x.a x.bad x.e hs w hg hq
  · exact readfield_number g q s x.a x.bad x.e hs w hg hq
  · exact readfield_name g q s x.a x.bad x.e hs w hg hq
  · exact readfield_record g q s x.a x.bad x.e hs w hg hq

/-- Behind what turns two blocks of the list at most. -/
theorem St.upd2 {S : List Nat} {w0 w w' : World} {g q : Nat} {C C' D D' : Array Value} {T U : TypeId} {L : List Blk} (h : St S w0 w ((g, C, T) :: (q, D, U) :: L)) (k : St [g, q] w w' [(g, C', T), (q, D', U)]) : St S w0 w' ((g, C', T) :: (q, D', U) :: L) where
  os := k.os.trans h.os
  tape := k.tape.trans h.tape
  output := k.output.trans h.output
  size := Nat.le_trans h.size k.size
  kept j hj hs := by
    refine (k.kept j (Nat.lt_of_lt_of_le hj h.size) ?_).trans (h.kept j hj hs)
    intro hm
    have hm' : j = g ∨ j = q := by simpa using hm
    rcases hm' with rfl | rfl
    · rcases h.own (j, C, T) (by simp) with h1 | h1
      · simp at h1; omega
      · exact hs h1
    · rcases h.own (j, D, U) (by simp) with h1 | h1
      · simp at h1; omega
      · exact hs h1
  own p hp := by
    have hp' : p = (g, C', T) ∨ p = (q, D', U) ∨ p ∈ L := by simpa using hp
    rcases hp' with rfl | rfl | h1
    · exact h.own (g, C, T) (by simp)
    · exact h.own (q, D, U) (by simp)
    · exact h.own p (by simp [h1])
  nodup := by simpa using h.nodup
  blk p hp := by
    have hp' : p = (g, C', T) ∨ p = (q, D', U) ∨ p ∈ L := by simpa using hp
    rcases hp' with rfl | rfl | h1
    · exact k.blk _ (by simp)
    · exact k.blk _ (by simp)
    · have hn := h.nodup
      simp only [List.map_cons, List.nodup_cons, List.mem_cons, not_or] at hn
      have hg : p.1 ≠ g := fun e => hn.1.2 (List.mem_map.2 ⟨p, h1, e⟩)
      have hq : p.1 ≠ q := fun e => hn.2.1 (List.mem_map.2 ⟨p, h1, e⟩)
      rw [k.kept _ (h.lt p (by simp [h1])) (by simp [hg, hq])]
      exact h.blk p (by simp [h1])
end Go.Proofs.YtigihgbgdillpaaGreatDoor
namespace Go.Proofs.YtigihgbgdillpaaGreatDoor
open Go.RowKit

def entK (k : Int) : Ent := { ent0 with kind := k, hash := zeros 32 }
instance (e : Ent) (k : Int) : WrAt (entC e) 0 39 (.agg #[.int .i64 k, .int .i64 0, .int .i64 0, .int .i64 0, .string { data := #[] }, .int .u8 0, .int .u8 0, .int .u8 0, .int .u8 0, .int .u8 0, .int .u8 0, .int .u8 0, .int .u8 0, .int .u8 0, .int .u8 0, .int .u8 0, .int .u8 0, .int .u8 0, .int .u8 0, .int .u8 0, .int .u8 0, .int .u8 0, .int .u8 0, .int .u8 0, .int .u8 0, .int .u8 0, .int .u8 0, .int .u8 0, .int .u8 0, .int .u8 0, .int .u8 0, .int .u8 0, .int .u8 0, .int .u8 0, .int .u8 0, .int .u8 0, .int .u8 0, .int .i64 0, .int .i64 0]) (entC (entK k)) := wr_row _ _ _ _ (entL (entK k)) rfl rfl (Nat.le_of_ble_eq_true rfl) (by kernel_rfl)
/-- One entry is read. -/
def entR (s : ByteArray) (a : Int) (bad : Bool) : Rd := (fieldsL (numN s a 1)).foldl (fieldR s) ⟨numA s a 1, bad || !numOk s a 1, entK (numN s a 1)⟩
def decL (s : ByteArray) : Nat → Int → Bool → Option (List Ent × Int × Bool)
  | 0, a, bad => some ([], a, bad)
  | n + 1, a, bad => if (entR s a bad).bad || !checkB (entR s a bad).e then none else (decL s n (entR s a bad).a (entR s a bad).bad).map fun r => ((entR s a bad).e :: r.1, r.2)
def decN (s : ByteArray) : Nat := (min (numN s 0 2) 201).toNat
/-- What Decode tells: none: an error. -/
def decF (s : ByteArray) : Option (List Ent) :=
  match decL s (decN s) (numA s 0 2) (!numOk s 0 2) with
  | none => none
  | some (l, a, bad) => if bad || (decide (200 < numN s 0 2) || decide (a < (s.size : Int))) then none else some l

theorem numN_range (s : ByteArray) (a b : Int) : 0 ≤ numN s a b ∧ numN s a b ≤ 9223372036854775807 := by
  unfold numN
  cases h : getF s a b with
  | none => simp
  | some x =>
    obtain ⟨n, y⟩ := x
    have := getF_le h
    simp only
    omega
theorem numN_i64 (s : ByteArray) (a b : Int) : I64 (numN s a b) := by have := numN_range s a b; unfold I64; omega
theorem textN_size (s : ByteArray) (a : Int) : (textN s a).size ≤ s.size := by
  unfold textN
  cases h : getTextF s a with
  | none => simp [size_mkS]
  | some x =>
    obtain ⟨l, y⟩ := x
    show (mkS l).size ≤ _
    rw [size_mkS]
    unfold getTextF at h
    split at h
    · split at h
      · injection h with h
        injection h with h1 h2
        rw [← h1]
        unfold sub
        rw [List.length_take, List.length_drop, ls_length]
        omega
      · cases h
    · cases h
theorem entK_wf (s : ByteArray) (a b : Int) : (entK (numN s a b)).Wf :=
  have h0 : I64 0 := by unfold I64; decide
  ⟨numN_i64 s a b, h0, h0, h0, Nat.zero_le _, rfl, h0, h0⟩
theorem fieldR_wf (s : ByteArray) (hs : s.size ≤ 140737488351232) (x : Rd) (f : Int) (h : x.e.Wf) : (fieldR s x f).e.Wf := by
  unfold fieldR
  split
  · exact { h with stream := numN_i64 _ _ _ }
  · split
    · exact { h with n := numN_i64 _ _ _ }
    · split
      · exact { h with name := Nat.le_trans (textN_size _ _) (by omega) }
      · exact { h with len := numN_i64 _ _ _, hash := hashN_length _ _, start := numN_i64 _ _ _, count := numN_i64 _ _ _ }
theorem foldR_wf (s : ByteArray) (hs : s.size ≤ 140737488351232) : ∀ (l : List Int) (x : Rd), x.e.Wf → (l.foldl (fieldR s) x).e.Wf
  | [], x, h => h
  | f :: l, x, h => foldR_wf s hs l _ (fieldR_wf s hs x f h)
theorem entR_wf (s : ByteArray) (hs : s.size ≤ 140737488351232) (a : Int) (bad : Bool) : (entR s a bad).e.Wf := foldR_wf s hs _ _ (entK_wf s a 1)

theorem ownsRow_St {w w' : World} {S : List Nat} {L : List Blk} {base size n : Nat} {e : TypeId} {v : Value} {xs : List Value} (h : w.ownsRow base e size v n xs) (k : St S w w' L) (hS : ∀ x ∈ S, x < base) : w'.ownsRow base e size v n xs := by
  obtain ⟨h1, h2⟩ := h
  refine ⟨h1, ?_⟩
  rcases h2 with h2 | ⟨g, cap, cur, hv, hg, hh, r⟩
  · exact Or.inl h2
  · exact Or.inr ⟨g, cap, cur, hv, hg, by rw [k.kept g (lt_of_heap' hh) (fun hm => by have := hS g hm; omega)]; exact hh, r⟩
theorem ownsRow_below {w w' : World} {base size n : Nat} {e : TypeId} {v : Value} {xs : List Value} (h : w.ownsRow base e size v n xs) (k : Below w.heap.size w w') : w'.ownsRow base e size v n xs := by
  obtain ⟨h1, h2⟩ := h
  refine ⟨h1, ?_⟩
  rcases h2 with h2 | ⟨g, cap, cur, hv, hg, hh, r⟩
  · exact Or.inl h2
  · exact Or.inr ⟨g, cap, cur, hv, hg, by rw [k.block g (lt_of_heap' hh)]; exact hh, r⟩
theorem run_bs1 (e : Ent) (w : World) : (Instr.buildSlice 49 1 #[(0, .agg (entL e).toArray)]).run Tryz.prog w = .ok (.slice (some ⟨w.heap.size, 0, none⟩) 1 1) (w.alloc (.cells (entC e) 87)) := by kernel_rfl
theorem infoEnt : (Tryz.prog.info? 87).map (fun i => (i.zero, i.size, i.bytes)) = some (some (.agg (entC ent0)), 39, 96) := by kernel_rfl
theorem entL_one (e : Ent) : ∀ u ∈ entL e, u.oneCell' = true := List.all_eq_true.1 (show (entL e).all (·.oneCell') = true from rfl)
section
variable {ops : Array Oper} {rest : List Oper} {o : Oper} {a : Act} {w : World} {Q : Exit → Act → World → Prop} {S : List Nat} {w0 : World} {L : List Blk}
theorem wpList_bs1 (hw : Region.wanted o (yielded ops a.tmps) = true) (x : Operand) (ho : o.op = .buildSlice 49 1 #[(0, x)]) (h : St S w0 w L) (e : Ent) (hx : a.eval x = .agg (entL e).toArray)
    (hk : ∀ (b : Nat) (w' : World), Below w.heap.size w w' → St S w0 w' ((b, entC e, 87) :: L) → wpList Tryz.prog ops Q rest (a.put o.dst (.slice (some ⟨b, 0, none⟩) 1 1)) w') : wpList Tryz.prog ops Q (o :: rest) a w :=
  BigFrame.wpList_want hw fun K hK => by
    have hm : (#[(0, x)].map fun p => (p.1, a.eval p.2)) = #[(0, .agg (entL e).toArray)] := by simp [hx]
    unfold Oper.wp execOp
    simp only [ho]
    rw [show ((#[(0, x)] : Array (Nat × Operand)).map fun (i, x) => (i, a.eval x)) = #[(0, .agg (entL e).toArray)] from hm]
    simp only [Sem.run_bind, run_bs1, Result.andThen_ok]
    exact hK _ _ (hk _ _ ((Below.refl _ _).alloc (Nat.le_refl _) _) (h.alloc (entC e) _))
end
theorem decL_step (s : ByteArray) (n : Nat) (a : Int) (bad : Bool) (h : ((entR s a bad).bad || !checkB (entR s a bad).e) = false) : decL s (n + 1) a bad = (decL s n (entR s a bad).a (entR s a bad).bad).map fun r => ((entR s a bad).e :: r.1, r.2) := by
  rw [decL, h]; rfl
theorem decL_stop (s : ByteArray) (n : Nat) (a : Int) (bad : Bool) (h : ((entR s a bad).bad || !checkB (entR s a bad).e) = true) : decL s (n + 1) a bad = none := by
  rw [decL, h]; rfl
end Go.Proofs.YtigihgbgdillpaaGreatDoor
