/- The contract of sealingwaxref01.GetHash: it computes what the program's function computes. -/
import Derived.Test.YtgjgjhikimnknaaHash
set_option linter.unusedVariables false
set_option linter.unusedSimpArgs false
namespace Go.Proofs.Ytgjgjhikimnknaa
open Go.RowKit

/-- The array behind k rounds: k bytes of the text, zeros behind. -/
def filled (s : ByteArray) (a k : Nat) : List UInt8 := sub s a k ++ zeros (32 - k)
theorem filled_length (s : ByteArray) (a k : Nat) (h : a + k ≤ s.size) (hk : k ≤ 32) : (filled s a k).length = 32 := by
  simp [filled, sub_length s a k h, zeros]; omega
theorem filled_zero (s : ByteArray) (a : Nat) : filled s a 0 = zeros 32 := by simp [filled, sub]
theorem filled_all (s : ByteArray) (a : Nat) : filled s a 32 = sub s a 32 := by simp [filled, zeros]
theorem filled_step (s : ByteArray) (a k : Nat) (h : a + k < s.size) (hk : k < 32) :
    (arrC (filled s a k)).setIfInBounds k (.int .u8 (s[a + k].toNat : Int)) = arrC (filled s a (k + 1)) := by
  obtain ⟨m, hm⟩ : ∃ m, 32 - k = m + 1 := ⟨31 - k, by omega⟩
  have hm' : 32 - (k + 1) = m := by omega
  have hl := sub_length s a k (by omega)
  unfold filled
  rw [hm, hm', sub_succ s a k h]
  apply Array.ext'
  simp only [arrC, u8s, List.setIfInBounds_toArray, zeros, List.replicate_succ, List.map_append, List.map_cons]
  rw [List.set_append_right _ _ (by simp [hl])]
  simp [hl]
theorem filled_cell (s : ByteArray) (a k : Nat) (h : a + k ≤ s.size) (hk : k < 32) : (arrC (filled s a k))[k]? = some (.int .u8 0) := by
  obtain ⟨m, hm⟩ : ∃ m, 32 - k = m + 1 := ⟨31 - k, by omega⟩
  have hl := sub_length s a k (by omega)
  simp [filled, hm, arrC, u8s, zeros, List.replicate_succ, List.getElem?_append_right, hl]

theorem wpList_store_hash2 {ops : Array Oper} {rest : List Oper} {o : Oper} {a : Act} {w : World} {Q : Exit → Act → World → Prop} (hgd : o.guard = none) (x y : Operand) (ho : o.op = .store 23 x y)
    (g : Nat) (old h : List UInt8) (hx : a.eval x = .pointer (some ⟨g, 0, none⟩)) (hy : a.eval y = arr h) (hl : h.length = 32) (hol : old.length = 32) (t : TypeId) (hg : w.heap[g]? = some (.cells (arrC old) t (0, 0)))
    (hk : ∀ w', w'.heap[g]? = some (.cells (arrC h) t (0, 0)) → (∀ B w0, Below B w0 w → B ≤ g → Below B w0 w') → wpList Try.prog ops Q rest (a.put o.dst undef) w') : wpList Try.prog ops Q (o :: rest) a w :=
  wpList_store_row hgd 23 x y ho g (arrC h) hx hy t (arrC old) hg (by rw [arrC_size, hl]; exact I37) (by rw [arrC_size, arrC_size, hl, hol])
    (by rw [Array.all_eq_true_iff_forall_mem]; intro v hv; exact u8s_one h v (by simpa [arrC] using hv)) (hk _ (setRow_heap w g _ _ t _ hg) (fun B w0 hb hB => below_setRow hb hB _))

set_option maxHeartbeats 1000000 in
theorem ref_get_hash_yes (s : ByteArray) (a : Nat) (hs : s.size ≤ maxLen) (ha : a + 32 ≤ s.size) (w : World) :
    Calls Try.prog 52 #[.string s, .int .i64 a] w fun e w' => e = .returned (.tuple #[arr (sub s a 32), .int .i64 (a + 32), .bool true]) ∧ Below w.heap.size w w' := by
  unfold maxLen at hs
  have n0 : decide ((a : Int) < 0) = false := by simp
  have n1 : decide (s.size < a) = false := by simp; omega
  have n2 : decide ((s.size : Int) - a < 32) = false := by simp; omega
  go_enter Try.func52, Try.ntmps52
  go_wp2_with (with_reducible refine wpList_alloc_row rfl 23 rfl (arrC (zeros 32)) alloc_hash ?_)
  go_loopw [8] (fun i wr => ∃ k : Nat, k ≤ 32 ∧ i = .int .i64 k ∧ wr = (w.alloc (.cells (arrC (zeros 32)) 23)).alloc (.cells (arrC (filled s a k)) 23)) (fun i _ => 32 - (intOf i).toNat)
  case atStart => exact ⟨0, by omega, rfl, by rw [filled_zero]⟩
  case round =>
    obtain ⟨k, hk, rfl, rfl⟩ := hrel
    by_cases hlt : k < 32
    · have hx : a + k < s.size := by omega
      have hcell := filled_cell s a k (by omega) hlt
      go_wp2
      go_roundw
      case rel => exact ⟨k + 1, by omega, by go_num, by rw [← filled_step s a k hx hlt]⟩
      case measure => simp [intOf]; omega
    · obtain rfl : k = 32 := by omega
      rw [filled_all]
      have hl : (sub s (a : Int) (32 : Int)).length = 32 := sub_length s a 32 ha
      go_wp2_with (first
        | (with_reducible refine wpList_load_hash rfl (.tmp 7) rfl (w.heap.size + 1) rfl (sub s a 32) hl _ (heap_alloc2_new w _ _) ?_)
        | (with_reducible refine wpList_store_hash2 rfl (.tmp 4) (.tmp 36) rfl w.heap.size (zeros 32) (sub s a 32) rfl rfl hl (zeros_length 32) _ (heap_alloc2_old w _ _) ?_; intro w' hg' hb'; have HG := Lib.hid hg'; have HB := Lib.hid hb'; clear hg' hb'))
      refine bodyPost_ret (results_hash 4 5 6 rfl w.heap.size rfl (sub s a 32) hl _ HG.out) rfl ⟨rfl, ?_⟩
      exact HB.out _ _ (((Below.refl _ _).alloc (Nat.le_refl _) _).alloc (by simp) _) (Nat.le_refl _)

theorem thereB_cases {s : ByteArray} {a : Int} (h : thereB s a 32 = false) : a < 0 ∨ (∃ b : Nat, a = b ∧ (s.size < b ∨ b ≤ s.size ∧ s.size < b + 32)) := by
  simp [thereB] at h
  by_cases h0 : a < 0
  · exact Or.inl h0
  · obtain ⟨b, rfl⟩ := Int.eq_ofNat_of_zero_le (show 0 ≤ a by omega)
    refine Or.inr ⟨b, rfl, ?_⟩
    rcases Nat.lt_or_ge s.size b with h1 | h1
    · exact Or.inl h1
    · exact Or.inr ⟨h1, by have := h (by omega) (by omega); omega⟩

set_option maxHeartbeats 1000000 in
theorem ref_get_hash_no (s : ByteArray) (a : Int) (hs : s.size ≤ maxLen) (hth : thereB s a 32 = false) (w : World) :
    Calls Try.prog 52 #[.string s, .int .i64 a] w fun e w' => e = .returned (.tuple #[arr (zeros 32), .int .i64 0, .bool false]) ∧ Below w.heap.size w w' := by
  have hs' := hs
  unfold maxLen at hs
  rcases thereB_cases hth with h0 | ⟨b, rfl, h1 | ⟨h1, h2⟩⟩
  · have n0 : decide (a < 0) = true := by simpa using h0
    clear hth
    go_enter Try.func52, Try.ntmps52
    go_wp2_with (first
      | (with_reducible refine wpList_alloc_row rfl 23 rfl (arrC (zeros 32)) alloc_hash ?_)
      | (with_reducible refine wpList_load_hash rfl (.tmp 7) rfl (w.heap.size + 1) rfl (zeros 32) (zeros_length 32) _ (heap_alloc2_new w _ _) ?_)
      | (with_reducible refine wpList_store_hash2 rfl (.tmp 4) (.tmp 24) rfl w.heap.size (zeros 32) (zeros 32) rfl rfl (zeros_length 32) (zeros_length 32) _ (heap_alloc2_old w _ _) ?_; intro w' hg' hb'; have HG := Lib.hid hg'; have HB := Lib.hid hb'; clear hg' hb'))
    refine bodyPost_ret (results_hash 4 5 6 rfl w.heap.size rfl (zeros 32) (zeros_length 32) _ HG.out) rfl ⟨rfl, ?_⟩
    exact HB.out _ _ (((Below.refl _ _).alloc (Nat.le_refl _) _).alloc (by simp) _) (Nat.le_refl _)
  · have n0 : decide ((b : Int) < 0) = false := by simp
    have n1 : decide (s.size < b) = true := by simpa using h1
    clear hth
    go_enter Try.func52, Try.ntmps52
    go_wp2_with (first
      | (with_reducible refine wpList_alloc_row rfl 23 rfl (arrC (zeros 32)) alloc_hash ?_)
      | (with_reducible refine wpList_load_hash rfl (.tmp 7) rfl (w.heap.size + 1) rfl (zeros 32) (zeros_length 32) _ (heap_alloc2_new w _ _) ?_)
      | (with_reducible refine wpList_store_hash2 rfl (.tmp 4) (.tmp 24) rfl w.heap.size (zeros 32) (zeros 32) rfl rfl (zeros_length 32) (zeros_length 32) _ (heap_alloc2_old w _ _) ?_; intro w' hg' hb'; have HG := Lib.hid hg'; have HB := Lib.hid hb'; clear hg' hb'))
    refine bodyPost_ret (results_hash 4 5 6 rfl w.heap.size rfl (zeros 32) (zeros_length 32) _ HG.out) rfl ⟨rfl, ?_⟩
    exact HB.out _ _ (((Below.refl _ _).alloc (Nat.le_refl _) _).alloc (by simp) _) (Nat.le_refl _)
  · have n0 : decide ((b : Int) < 0) = false := by simp
    have n1 : decide (s.size < b) = false := by simp; omega
    have n2 : decide ((s.size : Int) - b < 32) = true := by simp; omega
    clear hth
    go_enter Try.func52, Try.ntmps52
    go_wp2_with (first
      | (with_reducible refine wpList_alloc_row rfl 23 rfl (arrC (zeros 32)) alloc_hash ?_)
      | (with_reducible refine wpList_load_hash rfl (.tmp 7) rfl (w.heap.size + 1) rfl (zeros 32) (zeros_length 32) _ (heap_alloc2_new w _ _) ?_)
      | (with_reducible refine wpList_store_hash2 rfl (.tmp 4) (.tmp 24) rfl w.heap.size (zeros 32) (zeros 32) rfl rfl (zeros_length 32) (zeros_length 32) _ (heap_alloc2_old w _ _) ?_; intro w' hg' hb'; have HG := Lib.hid hg'; have HB := Lib.hid hb'; clear hg' hb'))
    refine bodyPost_ret (results_hash 4 5 6 rfl w.heap.size rfl (zeros 32) (zeros_length 32) _ HG.out) rfl ⟨rfl, ?_⟩
    exact HB.out _ _ (((Below.refl _ _).alloc (Nat.le_refl _) _).alloc (by simp) _) (Nat.le_refl _)

theorem ref_get_hash_calls (s : ByteArray) (a : Int) (hs : s.size ≤ maxLen) (w : World) :
    Calls Try.prog 52 #[.string s, .int .i64 a] w fun e w' => e = .returned (getHashV s a) ∧ Below w.heap.size w w' := by
  unfold getHashV
  cases h : thereB s a 32 with
  | false => simpa using ref_get_hash_no s a hs h w
  | true =>
    have h' := h
    simp [thereB] at h'
    obtain ⟨a, rfl⟩ := Int.eq_ofNat_of_zero_le h'.1
    simpa using ref_get_hash_yes s a hs (by omega) w
end Go.Proofs.Ytgjgjhikimnknaa
