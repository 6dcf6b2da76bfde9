/- The contracts of words.PutHash and words.GetHash. -/
import Derived.Test.YtgjgjhikimnknaaArr
set_option linter.unusedVariables false
set_option linter.unusedSimpArgs false
namespace Go.Proofs.Ytgjgjhikimnknaa
open Go.RowKit

theorem hash_back (w : World) (h : List UInt8) (hl : h.length = 32) : (convert 42 9 (.slice (some ⟨w.heap.size, 0, none⟩) 32 32)).run Try.prog (w.alloc (.cells (arrC h) 23)) = .ok (.string (mkS h)) (w.alloc (.cells (arrC h) 23)) := by
  have hh := run_convert_bytes_back (P := Try.prog) (w.alloc (.cells (arrC h) 23)) 42 9 5 ⟨w.heap.size, 0, none⟩ 32 h T29 U5 T9 (fun j hj => by
    have ha : (⟨w.heap.size, 0, none⟩ : Addr).add j = ⟨w.heap.size, j, none⟩ := by unfold Addr.add; split <;> simp_all
    rw [ha, World.cell?_alloc_at _ _ _ _ rfl]
    simp [arrC, u8s, hj])
  rw [hl] at hh
  exact hh

theorem alloc_hash (w : World) : (Instr.alloc 23 true (.tuple #[])).run Try.prog w = .ok (.pointer (some ⟨w.heap.size, 0, none⟩)) (w.alloc (.cells (arrC (zeros 32)) 23)) := by kernel_rfl
theorem U37 : Try.prog.underlying 23 = some (.array 32 5) := by kernel_rfl
theorem I37 : (Try.prog.info? 23).map (·.size) = some 32 := by kernel_rfl
theorem I5s : (Try.prog.info? 5).map (·.size) = some 1 := by kernel_rfl

theorem wpList_load_hash {ops : Array Oper} {rest : List Oper} {o : Oper} {a : Act} {w : World} {Q : Exit → Act → World → Prop} (hgd : o.guard = none) (x : Operand) (ho : o.op = .load 23 x)
    (g : Nat) (hx : a.eval x = .pointer (some ⟨g, 0, none⟩)) (h : List UInt8) (hl : h.length = 32) (t : TypeId) (hg : w.heap[g]? = some (.cells (arrC h) t (0, 0)))
    (hk : wpList Try.prog ops Q rest (a.put o.dst (arr h)) w) : wpList Try.prog ops Q (o :: rest) a w :=
  wpList_load_row hgd 23 x ho g hx t (arrC h) (0, 0) _ hg U37 rfl (by rw [arrC_size, hl]; exact I37) hk
/-- A store into the block that was laid last. -/
theorem wpList_store_hash {ops : Array Oper} {rest : List Oper} {o : Oper} {a : Act} {w : World} {Q : Exit → Act → World → Prop} (hgd : o.guard = none) (x y : Operand) (ho : o.op = .store 23 x y)
    (old h : List UInt8) (hx : a.eval x = .pointer (some ⟨w.heap.size, 0, none⟩)) (hy : a.eval y = arr h) (hl : h.length = 32) (hol : old.length = 32) (t : TypeId)
    (hk : wpList Try.prog ops Q rest (a.put o.dst undef) (w.alloc (.cells (arrC h) t))) : wpList Try.prog ops Q (o :: rest) a (w.alloc (.cells (arrC old) t)) :=
  wpList_store_row hgd 23 x y ho w.heap.size (arrC h) hx hy t (arrC old) (alloc_at _ _) (by rw [arrC_size, hl]; exact I37) (by rw [arrC_size, arrC_size, hl, hol])
    (by rw [Array.all_eq_true_iff_forall_mem]; intro v hv; exact u8s_one h v (by simpa [arrC] using hv)) (by rw [setRow_alloc]; exact hk)
theorem zeros_length (n : Nat) : (zeros n).length = n := by simp [zeros]
theorem results_hash {fn : Func} {tmps : Array Value} {w : World} (p q r : Tmp) (hf : fn.results = #[.cell p 23, .tmp q, .tmp r]) (g : Nat) (hp : tmps.getD p undef = .pointer (some ⟨g, 0, none⟩))
    (h : List UInt8) (hl : h.length = 32) (t : TypeId) (hg : w.heap[g]? = some (.cells (arrC h) t (0, 0))) :
    (results fn tmps).run Try.prog w = .ok (.tuple #[arr h, tmps.getD q undef, tmps.getD r undef]) w := by
  have hp' : tmps[p]?.getD undef = .pointer (some ⟨g, 0, none⟩) := by simpa using hp
  have hr := run_loadVar_row (P := Try.prog) w g t 23 (arrC h) (0, 0) _ hg U37 rfl (by rw [arrC_size, hl]; exact I37)
  rw [← arr_eq] at hr
  simp [results, hf, hp', asAddr, hr]

set_option maxHeartbeats 400000 in
theorem put_hash_calls (h : List UInt8) (hl : h.length = 32) (w : World) :
    Calls Try.prog 41 #[arr h] w fun e w' => e = .returned (.string (mkS h)) ∧ Below w.heap.size w w' := by
  have hb := hash_back w h hl
  rw [arr_eq]
  generalize arrC h = C at *
  go_enter Try.func41, Try.ntmps41
  go_wp2
  go_ret
  exact ⟨rfl, (Below.refl _ _).alloc (Nat.le_refl _) _⟩

set_option maxHeartbeats 400000 in
theorem getHash_no (s : ByteArray) (a : Int) (hs : s.size ≤ maxLen) (hth : thereB s a 32 = false) (w : World) :
    Calls Try.prog 49 #[.string s, .int .i64 a] w fun e w' => e = .returned (.tuple #[arr (zeros 32), .int .i64 0, .bool false]) ∧ Below w.heap.size w w' := by
  have HT := Lib.hid hth
  clear hth
  go_enter Try.func49, Try.ntmps49
  go_wp2_with (with_reducible refine wpList_alloc_row rfl 23 rfl (arrC (zeros 32)) alloc_hash ?_)
  refine (there_calls s a 32 hs _).mono ?_
  rintro e w' ⟨rfl, rfl⟩
  rw [HT.out]
  go_wp2_with (first
    | (with_reducible refine wpList_load_hash rfl (.tmp 4) rfl w.heap.size rfl (zeros 32) (zeros_length 32) _ (alloc_at _ _) ?_)
    | (with_reducible refine wpList_store_hash rfl (.tmp 4) (.tmp 11) rfl (zeros 32) (zeros 32) rfl rfl (zeros_length 32) (zeros_length 32) _ ?_))
  refine bodyPost_ret (results_hash 4 5 6 rfl w.heap.size rfl (zeros 32) (zeros_length 32) _ (alloc_at _ _)) rfl ⟨rfl, (Below.refl _ _).alloc (Nat.le_refl _) _⟩

theorem slice_from (s : ByteArray) (a : Nat) (h : a ≤ s.size) (w : World) : (Instr.slice 9 (.string s) (some (.int .i64 a)) none none).run Try.prog w = .ok (.string (s.extract a s.size)) w := by
  have := run_slice_string_l (P := Try.prog) w 9 s T9 .i64 a (by omega) (by omega)
  simpa using this

theorem sub_from (s : ByteArray) (a : Nat) (h : a + 32 ≤ s.size) : (ls (s.extract a s.size)).take 32 = sub s a 32 := by
  simp [ls, sub, ByteArray.data_extract]
  have : (s.data.toList.drop a).take (s.size - a) = s.data.toList.drop a := List.take_of_length_le (by simp)
  rw [this]

set_option maxHeartbeats 400000 in
theorem getHash_yes (s : ByteArray) (a : Nat) (hs : s.size ≤ maxLen) (ha : a + 32 ≤ s.size) (w : World) :
    Calls Try.prog 49 #[.string s, .int .i64 a] w fun e w' => e = .returned (.tuple #[arr (sub s a 32), .int .i64 (a + 32), .bool true]) ∧ Below w.heap.size w w' := by
  have hth : thereB s a 32 = true := by simp [thereB]; omega
  have hs' := hs
  unfold maxLen at hs
  have HT := Lib.hid hth
  clear hth
  go_enter Try.func49, Try.ntmps49
  go_wp2_with (with_reducible refine wpList_alloc_row rfl 23 rfl (arrC (zeros 32)) alloc_hash ?_)
  refine (there_calls s a 32 hs' _).mono ?_
  rintro e w' ⟨rfl, rfl⟩
  rw [HT.out]
  go_wp2_with fail
  have hsl := slice_from s a (by omega)
  go_still_tail 4, (by kernel_rfl)
  have hdr : Below w.heap.size w w.drew := (Below.refl _ _).drew
  change wpList _ _ _ _ _ (w.drew.alloc (.cells (arrC (zeros 32)) 23))
  have hz : w.heap.size = w.drew.heap.size := rfl
  have HS := Lib.hid (sub_from s a (by omega))
  rw [hz]
  generalize w.drew = w2 at *
  clear hz hsl
  refine wpList_copy_str rfl (.tmp 12) (.tmp 15) 42 9 rfl 5 T29 I5s w2.heap.size 32 32 _ rfl rfl (arrC (zeros 32)) 23 (alloc_at _ _) (by rw [arrC_size, zeros_length]) (by simp [ByteArray.size_extract]; omega) ?_
  rw [setRow_alloc, HS.out]
  have hl : (sub s (a : Int) (32 : Int)).length = 32 := sub_length s a 32 ha
  go_wp2_with (first
    | (with_reducible refine wpList_load_hash rfl (.tmp 4) rfl w2.heap.size rfl (sub s a 32) hl _ (alloc_at _ _) ?_)
    | (with_reducible refine wpList_store_hash rfl (.tmp 4) (.tmp 17) rfl (sub s a 32) (sub s a 32) rfl rfl hl hl _ ?_))
  refine bodyPost_ret (results_hash 4 5 6 rfl w2.heap.size rfl (sub s a 32) hl _ (alloc_at _ _)) rfl ⟨rfl, hdr.alloc hdr.size _⟩

/-- What GetHash tells. -/
def getHashV (s : ByteArray) (a : Int) : Value :=
  if thereB s a 32 then .tuple #[arr (sub s a 32), .int .i64 (a + 32), .bool true] else .tuple #[arr (zeros 32), .int .i64 0, .bool false]

theorem get_hash_calls (s : ByteArray) (a : Int) (hs : s.size ≤ maxLen) (w : World) :
    Calls Try.prog 49 #[.string s, .int .i64 a] w fun e w' => e = .returned (getHashV s a) ∧ Below w.heap.size w w' := by
  unfold getHashV
  cases h : thereB s a 32 with
  | false => simpa using getHash_no s a hs h w
  | true =>
    have h' := h
    simp [thereB] at h'
    obtain ⟨a, rfl⟩ := Int.eq_ofNat_of_zero_le h'.1
    simpa using getHash_yes s a hs (by omega) w
end Go.Proofs.Ytgjgjhikimnknaa
