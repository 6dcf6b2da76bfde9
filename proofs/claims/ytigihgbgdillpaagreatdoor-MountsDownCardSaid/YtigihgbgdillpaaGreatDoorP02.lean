/- Rules for arrays in memory: a new array, a string's bytes copied into one · The contracts of words.PutHash and words.GetHash · Go's == and != on arrays of 32 bytes tells whether their bytes are the same. -/
import Derived.RegionTactic
import Derived.Laws.Rows
import Derived.Laws.Tables
import Derived.Laws.CopyOwn
import Derived.StillTailTactics
import Derived.ChangeKeysEq
import Derived.Laws.StructEq
import Derived.Test.YtigihgbgdillpaaGreatDoorP01
set_option linter.unusedVariables false
set_option linter.unusedSimpArgs false
set_option maxRecDepth 100000
namespace Go.Proofs.YtigihgbgdillpaaGreatDoor
open Go.RowKit

/-- An array of bytes as a value. -/
def arr (h : List UInt8) : Value := .agg (u8s h).toArray
def arrC (h : List UInt8) : Array Value := (u8s h).toArray
theorem arr_eq (h : List UInt8) : arr h = .agg (arrC h) := rfl
theorem arrC_size (h : List UInt8) : (arrC h).size = h.length := by simp [arrC, u8s]
def zeros (n : Nat) : List UInt8 := List.replicate n 0

theorem u8s_one (l : List UInt8) : ∀ v ∈ u8s l, v.oneCell' = true := fun v hv => by
  obtain ⟨b, _, rfl⟩ := List.mem_map.1 hv
  rfl

section
variable {P : Program}
theorem wpList_alloc_row {ops : Array Oper} {rest : List Oper} {o : Oper} {a : Act} {w : World} {Q : Exit → Act → World → Prop} (hgd : o.guard = none) (T : TypeId) (ho : o.op = .alloc T)
    (zs : Array Value) (hz : ∀ w : World, (Instr.alloc T true (.tuple #[])).run P w = .ok (.pointer (some ⟨w.heap.size, 0, none⟩)) (w.alloc (.cells zs T)))
    (h : wpList P ops Q rest (a.put o.dst (.pointer (some ⟨w.heap.size, 0, none⟩))) (w.alloc (.cells zs T))) : wpList P ops Q (o :: rest) a w :=
  wpList_plain hgd fun _ hK => by
    unfold Oper.wp execOp
    simp only [ho, Sem.run_bind, hz, Result.andThen_ok]
    exact hK _ _ h

theorem run_copy_str (w : World) (dT sT ty elem : TypeId) (g dLen dCap : Nat) (s : ByteArray) (cur : Array Value) (t : TypeId)
    (hu : P.underlying dT = some (.slice elem)) (hsz : (P.info? elem).map (·.size) = some 1) (hg : w.heap[g]? = some (.cells cur t (0, 0)))
    (hc : cur.size = dLen) (hs : dLen ≤ s.size) :
    (Builtin.copy_ #[dT, sT] ty #[.slice (some ⟨g, 0, none⟩) dLen dCap, .string s]).run P w = .ok (goInt dLen) (w.setRow g (arrC ((ls s).take dLen))) := by
  have hn : Nat.min s.size dLen = dLen := Nat.min_eq_right hs
  have hcells : ((s.extract 0 dLen).data.map fun b => Value.int .u8 b.toNat) = arrC ((ls s).take dLen) := by
    apply Array.ext'
    simp [arrC, u8s, ls, ByteArray.data_extract, List.map_take]
  have hst := run_storeCells_from (P := P) g t (u8s ((ls s).take dLen)) 0 cur w hg (by simp [u8s, ls_length, hc]; omega) (u8s_one _)
  cases hq : P.info? elem with
  | none => simp [hq] at hsz
  | some i =>
    have hs1 : i.size = 1 := by simpa [hq] using hsz
    simp only [Builtin.copy_, List.getElem?_toArray, Sem.run_bind]
    simp [run_underlying hu, Builtin.lenOf, hn, sizeOf, typeInfo, hq, hs1, Builtin.firstCells, hcells]
    have he : List.take dLen (List.map (fun b => Value.int IntKind.u8 (b.toNat : Int)) s.data.toList) = u8s ((ls s).take dLen) := by simp [u8s, ls, List.map_take]
    rw [he, hst]
    simp [arrC]

theorem wpList_copy_str {ops : Array Oper} {rest : List Oper} {o : Oper} {a : Act} {w : World} {Q : Exit → Act → World → Prop} (hgd : o.guard = none) (d s : Operand) (dT sT : TypeId)
    (ho : o.op = .call { callee := .builtin .copy, args := #[d, s], argTypes := #[dT, sT] }) (elem : TypeId) (hu : P.underlying dT = some (.slice elem)) (hsz : (P.info? elem).map (·.size) = some 1)
    (g dLen dCap : Nat) (str : ByteArray) (hd : a.eval d = .slice (some ⟨g, 0, none⟩) dLen dCap) (hs : a.eval s = .string str)
    (cur : Array Value) (t : TypeId) (hg : w.heap[g]? = some (.cells cur t (0, 0))) (hc : cur.size = dLen) (hl : dLen ≤ str.size)
    (h : wpList P ops Q rest (a.put o.dst (goInt dLen)) (w.setRow g (arrC ((ls str).take dLen)))) : wpList P ops Q (o :: rest) a w := by
  refine wpList_plain hgd fun K hK => ?_
  have hrun := run_copy_str (P := P) w dT sT o.type elem g dLen dCap str cur t hu hsz hg hc hl
  unfold Oper.wp
  simp [execOp, ho, resolve, invoke, builtin, hd, hs, hrun, Result.andThen]
  exact hK _ _ h

theorem setRow_alloc (w : World) (A B : Array Value) (T : TypeId) (fr : Nat × Nat) : (w.alloc (.cells A T fr)).setRow w.heap.size B = w.alloc (.cells B T fr) := by
  unfold World.setRow World.alloc
  congr 1
  apply Array.ext
  · simp
  · intro k h1 h2
    simp only [Array.getElem_modify, Array.getElem_push]
    split
    · rename_i hk
      subst hk
      simp
    · rename_i hk
      have hlt : k < w.heap.size := by simp at h1; omega
      simp [hlt]
theorem alloc_at (w : World) (o : Obj) : (w.alloc o).heap[w.heap.size]? = some o := heap_alloc_new w o
end
end Go.Proofs.YtigihgbgdillpaaGreatDoor
namespace Go.Proofs.YtigihgbgdillpaaGreatDoor
open Go.RowKit

theorem hash_back (w : World) (h : List UInt8) (hl : h.length = 32) : (convert 115 9 (.slice (some ⟨w.heap.size, 0, none⟩) 32 32)).run Tryz.prog (w.alloc (.cells (arrC h) 34)) = .ok (.string (mkS h)) (w.alloc (.cells (arrC h) 34)) := by
  have hh := run_convert_bytes_back (P := Tryz.prog) (w.alloc (.cells (arrC h) 34)) 115 9 5 ⟨w.heap.size, 0, none⟩ 32 h T29 U5 T9 (fun j hj => by
    have ha : (⟨w.heap.size, 0, none⟩ : Addr).add j = ⟨w.heap.size, j, none⟩ := by unfold Addr.add; split <;> simp_all
    rw [ha, World.cell?_alloc_at _ _ _ _ rfl]
    simp [arrC, u8s, hj])
  rw [hl] at hh
  exact hh

theorem alloc_hash (w : World) : (Instr.alloc 34 true (.tuple #[])).run Tryz.prog w = .ok (.pointer (some ⟨w.heap.size, 0, none⟩)) (w.alloc (.cells (arrC (zeros 32)) 34)) := by kernel_rfl
theorem U37 : Tryz.prog.underlying 34 = some (.array 32 5) := by kernel_rfl
theorem I37 : (Tryz.prog.info? 34).map (·.size) = some 32 := by kernel_rfl
theorem I5s : (Tryz.prog.info? 5).map (·.size) = some 1 := by kernel_rfl

theorem wpList_load_hash {ops : Array Oper} {rest : List Oper} {o : Oper} {a : Act} {w : World} {Q : Exit → Act → World → Prop} (hgd : o.guard = none) (x : Operand) (ho : o.op = .load 34 x)
    (g : Nat) (hx : a.eval x = .pointer (some ⟨g, 0, none⟩)) (h : List UInt8) (hl : h.length = 32) (t : TypeId) (hg : w.heap[g]? = some (.cells (arrC h) t (0, 0)))
    (hk : wpList Tryz.prog ops Q rest (a.put o.dst (arr h)) w) : wpList Tryz.prog ops Q (o :: rest) a w :=
  wpList_load_row hgd 34 x ho g hx t (arrC h) (0, 0) _ hg U37 rfl (by rw [arrC_size, hl]; exact I37) hk
/-- A store into the block that was laid last. -/
theorem wpList_store_hash {ops : Array Oper} {rest : List Oper} {o : Oper} {a : Act} {w : World} {Q : Exit → Act → World → Prop} (hgd : o.guard = none) (x y : Operand) (ho : o.op = .store 34 x y)
    (old h : List UInt8) (hx : a.eval x = .pointer (some ⟨w.heap.size, 0, none⟩)) (hy : a.eval y = arr h) (hl : h.length = 32) (hol : old.length = 32) (t : TypeId)
    (hk : wpList Tryz.prog ops Q rest (a.put o.dst undef) (w.alloc (.cells (arrC h) t))) : wpList Tryz.prog ops Q (o :: rest) a (w.alloc (.cells (arrC old) t)) :=
  wpList_store_row hgd 34 x y ho w.heap.size (arrC h) hx hy t (arrC old) (alloc_at _ _) (by rw [arrC_size, hl]; exact I37) (by rw [arrC_size, arrC_size, hl, hol])
    (by rw [Array.all_eq_true_iff_forall_mem]; intro v hv; exact u8s_one h v (by simpa [arrC] using hv)) (by rw [setRow_alloc]; exact hk)
theorem zeros_length (n : Nat) : (zeros n).length = n := by simp [zeros]
theorem results_hash {fn : Func} {tmps : Array Value} {w : World} (p q r : Tmp) (hf : fn.results = #[.cell p 34, .tmp q, .tmp r]) (g : Nat) (hp : tmps.getD p undef = .pointer (some ⟨g, 0, none⟩))
    (h : List UInt8) (hl : h.length = 32) (t : TypeId) (hg : w.heap[g]? = some (.cells (arrC h) t (0, 0))) :
    (results fn tmps).run Tryz.prog w = .ok (.tuple #[arr h, tmps.getD q undef, tmps.getD r undef]) w := by
  have hp' : tmps[p]?.getD undef = .pointer (some ⟨g, 0, none⟩) := by simpa using hp
  have hr := run_loadVar_row (P := Tryz.prog) w g t 34 (arrC h) (0, 0) _ hg U37 rfl (by rw [arrC_size, hl]; exact I37)
  rw [← arr_eq] at hr
  simp [results, hf, hp', asAddr, hr]

set_option maxHeartbeats 400000 in
theorem put_hash_calls (h : List UInt8) (hl : h.length = 32) (w : World) :
    Calls Tryz.prog 102 #[arr h] w fun e w' => e = .returned (.string (mkS h)) ∧ Below w.heap.size w w' := by
  have hb := hash_back w h hl
  rw [arr_eq]
  generalize arrC h = C at *
  go_enter Tryz.func102, Tryz.ntmps102
  go_wp2
  go_ret
  exact ⟨rfl, (Below.refl _ _).alloc (Nat.le_refl _) _⟩

set_option maxHeartbeats 400000 in
theorem getHash_no (s : ByteArray) (a : Int) (hs : s.size ≤ maxLen) (hth : thereB s a 32 = false) (w : World) :
    Calls Tryz.prog 114 #[.string s, .int .i64 a] w fun e w' => e = .returned (.tuple #[arr (zeros 32), .int .i64 0, .bool false]) ∧ Below w.heap.size w w' := by
  have HT := Lib.hid hth
  clear hth
  go_enter Tryz.func114, Tryz.ntmps114
  go_wp2_with (with_reducible refine wpList_alloc_row rfl 34 rfl (arrC (zeros 32)) alloc_hash ?_)
  refine (there_calls s a 32 hs _).mono ?_
  rintro e w' ⟨rfl, rfl⟩
  rw [HT.out]
  go_wp2_with (first
    | (with_reducible refine wpList_load_hash rfl (.tmp 4) rfl w.heap.size rfl (zeros 32) (zeros_length 32) _ (alloc_at _ _) ?_)
    | (with_reducible refine wpList_store_hash rfl (.tmp 4) (.tmp 11) rfl (zeros 32) (zeros 32) rfl rfl (zeros_length 32) (zeros_length 32) _ ?_))
  refine bodyPost_ret (results_hash 4 5 6 rfl w.heap.size rfl (zeros 32) (zeros_length 32) _ (alloc_at _ _)) rfl ⟨rfl, (Below.refl _ _).alloc (Nat.le_refl _) _⟩

theorem slice_from (s : ByteArray) (a : Nat) (h : a ≤ s.size) (w : World) : (Instr.slice 9 (.string s) (some (.int .i64 a)) none none).run Tryz.prog w = .ok (.string (s.extract a s.size)) w := by
  have := run_slice_string_l (P := Tryz.prog) w 9 s T9 .i64 a (by omega) (by omega)
  simpa using this

theorem sub_from (s : ByteArray) (a : Nat) (h : a + 32 ≤ s.size) : (ls (s.extract a s.size)).take 32 = sub s a 32 := by
  simp [ls, sub, ByteArray.data_extract]
  have : (s.data.toList.drop a).take (s.size - a) = s.data.toList.drop a := List.take_of_length_le (by simp)
  rw [this]

set_option maxHeartbeats 400000 in
theorem getHash_yes (s : ByteArray) (a : Nat) (hs : s.size ≤ maxLen) (ha : a + 32 ≤ s.size) (w : World) :
    Calls Tryz.prog 114 #[.string s, .int .i64 a] w fun e w' => e = .returned (.tuple #[arr (sub s a 32), .int .i64 (a + 32), .bool true]) ∧ Below w.heap.size w w' := by
  have hth : thereB s a 32 = true := by simp [thereB]; omega
  have hs' := hs
  unfold maxLen at hs
  have HT := Lib.hid hth
  clear hth
  go_enter Tryz.func114, Tryz.ntmps114
  go_wp2_with (with_reducible refine wpList_alloc_row rfl 34 rfl (arrC (zeros 32)) alloc_hash ?_)
  refine (there_calls s a 32 hs' _).mono ?_
  rintro e w' ⟨rfl, rfl⟩
  rw [HT.out]
  go_wp2_with fail
  have hsl := slice_from s a (by omega)
  go_still_tail 4, (by kernel_rfl)
  have hdr : Below w.heap.size w w.drew := (Below.refl _ _).drew
  change wpList _ _ _ _ _ (w.drew.alloc (.cells (arrC (zeros 32)) 34))
  have hz : w.heap.size = w.drew.heap.size := rfl
  have HS := Lib.hid (sub_from s a (by omega))
  rw [hz]
  generalize w.drew = w2 at *
  clear hz hsl
  refine wpList_copy_str rfl (.tmp 12) (.tmp 15) 115 9 rfl 5 T29 I5s w2.heap.size 32 32 _ rfl rfl (arrC (zeros 32)) 34 (alloc_at _ _) (by rw [arrC_size, zeros_length]) (by simp [ByteArray.size_extract]; omega) ?_
  rw [setRow_alloc, HS.out]
  have hl : (sub s (a : Int) (32 : Int)).length = 32 := sub_length s a 32 ha
  go_wp2_with (first
    | (with_reducible refine wpList_load_hash rfl (.tmp 4) rfl w2.heap.size rfl (sub s a 32) hl _ (alloc_at _ _) ?_)
    | (with_reducible refine wpList_store_hash rfl (.tmp 4) (.tmp 17) rfl (sub s a 32) (sub s a 32) rfl rfl hl hl _ ?_))
  refine bodyPost_ret (results_hash 4 5 6 rfl w2.heap.size rfl (sub s a 32) hl _ (alloc_at _ _)) rfl ⟨rfl, hdr.alloc hdr.size _⟩

/-- What GetHash tells. -/
def getHashV (s : ByteArray) (a : Int) : Value :=
  if thereB s a 32 then .tuple #[arr (sub s a 32), .int .i64 (a + 32), .bool true] else .tuple #[arr (zeros 32), .int .i64 0, .bool false]

theorem get_hash_calls (s : ByteArray) (a : Int) (hs : s.size ≤ maxLen) (w : World) :
    Calls Tryz.prog 114 #[.string s, .int .i64 a] w fun e w' => e = .returned (getHashV s a) ∧ Below w.heap.size w w' := by
  unfold getHashV
  cases h : thereB s a 32 with
  | false => simpa using getHash_no s a hs h w
  | true =>
    have h' := h
    simp [thereB] at h'
    obtain ⟨a, rfl⟩ := Int.eq_ofNat_of_zero_le h'.1
    simpa using getHash_yes s a hs (by omega) w
end Go.Proofs.YtigihgbgdillpaaGreatDoor
namespace Go.Proofs.YtigihgbgdillpaaGreatDoor
open Go.RowKit

theorem C5 : Tryz.prog.cellsOf 5 = 1 := by kernel_rfl
theorem A5 (w : World) : (isAgg 5).run Tryz.prog w = .ok false w := by kernel_rfl

theorem part_u8 (w : World) (h : List UInt8) (i : Nat) (hi : i < h.length) : (part 5 (arrC h) (i * 1)).run Tryz.prog w = .ok (.int .u8 (h[i].toNat : Int)) w := by
  simp [part, A5, arrC, u8s, hi]

theorem items_u8 (d : Nat) (h g : List UInt8) (w : World) : ∀ (is : List Nat), (∀ i ∈ is, i < h.length ∧ i < g.length) →
    (Op.eqItems (d + 1) 5 1 (arrC h) (arrC g) is).run Tryz.prog w = .ok (is.all fun i => h.getD i 0 == g.getD i 0) w
  | [], _ => by simp [Op.eqItems]
  | i :: is, hi => by
    obtain ⟨h1, h2⟩ := hi i (by simp)
    have ih := items_u8 d h g w is (fun j hj => hi j (by simp [hj]))
    have he := run_equalIn_int (P := Tryz.prog) w d 5 .u8 .u8 (h[i].toNat : Int) (g[i].toNat : Int) U5
    simp only [Op.eqItems, Sem.run_bind, part_u8 w h i h1, part_u8 w g i h2, Result.andThen_ok, he]
    by_cases hc : h[i] = g[i]
    · simp [hc, ih, h1, h2]
    · have : ¬ (h[i].toNat : Int) = (g[i].toNat : Int) := fun e => hc (UInt8.toNat_inj.mp (by omega))
      simp [hc, this, h1, h2]

theorem all_getD {h g : List UInt8} {n : Nat} (hh : h.length = n) (hg : g.length = n) : ((List.range n).all fun i => h.getD i 0 == g.getD i 0) = (h == g) := by
  rw [Bool.eq_iff_iff]
  simp only [List.all_eq_true, List.mem_range, beq_iff_eq]
  constructor
  · intro k
    apply List.ext_getElem (by omega)
    intro i h1 h2
    have := k i (by omega)
    simpa [h1, h2] using this
  · rintro rfl i _
    rfl

theorem equal_hash (d : Nat) (h g : List UInt8) (hh : h.length = 32) (hg : g.length = 32) (w : World) :
    (Op.equalIn (d + 2) 34 (arr h) (arr g)).run Tryz.prog w = .ok (h == g) w := by
  cases hi : Tryz.prog.info? 5 with
  | none => have := I5s; rw [hi] at this; simp at this
  | some i =>
    rw [arr_eq, arr_eq, run_equalIn_array (P := Tryz.prog) w (d + 1) (arrC h) (arrC g) U37 hi, C5]
    rw [items_u8 d h g w _ (fun j hj => by have := List.mem_range.1 hj; omega), all_getD hh hg]

theorem eql_hash (h g : List UInt8) (hh : h.length = 32) (hg : g.length = 32) (w : World) :
    (binOp .eql 34 (arr h) (arr g)).run Tryz.prog w = .ok (.bool (h == g)) w := by
  have := equal_hash 9998 h g hh hg w
  rw [arr_eq, arr_eq] at this ⊢
  rw [run_eql_struct, this]
  rfl
theorem neq_hash (h g : List UInt8) (hh : h.length = 32) (hg : g.length = 32) (w : World) :
    (binOp .neq 34 (arr h) (arr g)).run Tryz.prog w = .ok (.bool (h != g)) w := by
  have := equal_hash 9998 h g hh hg w
  rw [arr_eq, arr_eq] at this ⊢
  rw [run_neq_struct, this]
  rfl
theorem guard_hash (op : BinOp) (x y : Operand) (h g : List UInt8) (w : World) : (eqGuard op 34 x y (arr h) (arr g)).run Tryz.prog w = .ok () w := by
  rw [arr_eq, arr_eq]
  exact run_eqGuard_agg (P := Tryz.prog) w op 34 x y _ _ (by kernel_rfl)
end Go.Proofs.YtigihgbgdillpaaGreatDoor
