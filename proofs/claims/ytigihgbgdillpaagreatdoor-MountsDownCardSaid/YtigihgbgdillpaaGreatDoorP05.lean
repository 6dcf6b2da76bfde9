/- Entries in memory: their cells, what stands where, what a write leaves; when two are the same · The contracts of entries.within, most, fields. -/
import Derived.Test.YtigihgbgdillpaaGreatDoorP03
import Derived.Test.YtigihgbgdillpaaGreatDoorP04
set_option linter.unusedVariables false
set_option linter.unusedSimpArgs false
set_option maxRecDepth 100000
namespace Go.Proofs.YtigihgbgdillpaaGreatDoor
open Go.RowKit

def hb (h : List UInt8) (i : Nat) : Value := .int .u8 ((h.getD i 0).toNat : Int)
def hashL (h : List UInt8) : List Value := [hb h 0, hb h 1, hb h 2, hb h 3, hb h 4, hb h 5, hb h 6, hb h 7, hb h 8, hb h 9, hb h 10, hb h 11, hb h 12, hb h 13, hb h 14, hb h 15, hb h 16, hb h 17, hb h 18, hb h 19, hb h 20, hb h 21, hb h 22, hb h 23, hb h 24, hb h 25, hb h 26, hb h 27, hb h 28, hb h 29, hb h 30, hb h 31]
theorem hashL_eq (h : List UInt8) (hl : h.length = 32) : hashL h = u8s h := by
  apply List.ext_getElem
  · rw [show (hashL h).length = 32 from rfl]; simp [u8s, hl]
  · intro i h1 h2
    have e : hashL h = (List.range 32).map (hb h) := rfl
    simp [e, hb, u8s]
    rw [List.getElem?_eq_getElem (by simpa [u8s] using h2)]
    rfl
theorem arr_hashL (h : List UInt8) (hl : h.length = 32) : arr h = .agg (hashL h).toArray := by rw [hashL_eq h hl]; rfl

def I64 (k : Int) : Prop := -9223372036854775808 ≤ k ∧ k ≤ 9223372036854775807
/-- An entry. -/
structure Ent where
  kind : Int
  stream : Int
  n : Int
  len : Int
  name : ByteArray
  hash : List UInt8
  start : Int
  count : Int
/-- What every entry that the program can hold is. -/
structure Ent.Wf (e : Ent) : Prop where
  kind : I64 e.kind
  stream : I64 e.stream
  n : I64 e.n
  len : I64 e.len
  name : e.name.size ≤ 9223372036854775807
  hash : e.hash.length = 32
  start : I64 e.start
  count : I64 e.count
def entL (e : Ent) : List Value := .int .i64 e.kind :: .int .i64 e.stream :: .int .i64 e.n :: .int .i64 e.len :: .string e.name :: (hashL e.hash ++ [.int .i64 e.start, .int .i64 e.count])
def entC (e : Ent) : Array Value := (entL e).toArray
def entV (e : Ent) : Value := .agg (entC e)
def noS : ByteArray := { data := #[] }
def ent0 : Ent := ⟨0, 0, 0, 0, noS, [], 0, 0⟩
theorem zero_ent (w : World) : (zeroValue 87).run Tryz.prog w = .ok (.agg (entC ent0)) w := by kernel_rfl
instance : AggT 87 39 := ⟨fun w => by kernel_rfl, by kernel_rfl⟩
instance : AggT 36 2 := ⟨fun w => by kernel_rfl, by kernel_rfl⟩

instance (e : Ent) : CellAt (entC e) 0 (.int .i64 e.kind) := ⟨rfl⟩
instance (e : Ent) : CellAt (entC e) 1 (.int .i64 e.stream) := ⟨rfl⟩
instance (e : Ent) : CellAt (entC e) 2 (.int .i64 e.n) := ⟨rfl⟩
instance (e : Ent) : CellAt (entC e) 3 (.int .i64 e.len) := ⟨rfl⟩
instance (e : Ent) : CellAt (entC e) 4 (.string e.name) := ⟨rfl⟩
instance (e : Ent) : CellAt (entC e) 37 (.int .i64 e.start) := ⟨rfl⟩
instance (e : Ent) : CellAt (entC e) 38 (.int .i64 e.count) := ⟨rfl⟩
instance (e : Ent) : PartAt (entC e) 0 39 (entL e) := ⟨rfl, fun j v h => by rw [Nat.zero_add]; simpa [entC] using h⟩
instance (e : Ent) : PartAt (entC e) 5 32 (hashL e.hash) := ⟨rfl, fun j v h => by
  have hj : j < 32 := (List.getElem?_eq_some_iff.1 h).1
  have : (entC e)[5 + j]? = (hashL e.hash ++ [Value.int .i64 e.start, .int .i64 e.count])[j]? := by
    rw [Nat.add_comm]
    simp [entC, entL]
  rw [this, List.getElem?_append_left (by exact hj)]
  exact h⟩
instance (e : Ent) : PartAt (entC e) 37 2 [.int .i64 e.start, .int .i64 e.count] := ⟨rfl, fun j v h => by
  match j with
  | 0 => exact h
  | 1 => exact h
  | j + 2 => simp at h⟩
theorem wr_one (C C' : Array Value) (off : Nat) (v : Value) (h1 : v.oneCell' = true) (hc : v.cells = #[v]) (hf : off + 1 ≤ C.size) (he : C.setIfInBounds off v = C') : WrAt C off 1 v C' :=
  ⟨by rw [hc]; rfl, by rw [hc]; exact hf, fun x hx => by rw [hc] at hx; simp at hx; subst hx; exact h1, by rw [hc]; exact he⟩
theorem wr_row (C C' : Array Value) (off n : Nat) (vs : List Value) (hn : vs.length = n) (h1 : vs.all (·.oneCell') = true) (hf : off + n ≤ C.size) (he : wr C off vs = C') : WrAt C off n (.agg vs.toArray) C' :=
  ⟨by simp [Value.cells, hn], by simp [Value.cells, hn]; exact hf, fun x hx => List.all_eq_true.1 h1 x (by simpa [Value.cells] using hx), by simpa [Value.cells] using he⟩
instance (e : Ent) (x : Int) : WrAt (entC e) 0 1 (.int .i64 x) (entC { e with kind := x }) := wr_one _ _ _ _ rfl rfl (Nat.le_of_ble_eq_true rfl) rfl
instance (e : Ent) (x : Int) : WrAt (entC e) 1 1 (.int .i64 x) (entC { e with stream := x }) := wr_one _ _ _ _ rfl rfl (Nat.le_of_ble_eq_true rfl) rfl
instance (e : Ent) (x : Int) : WrAt (entC e) 2 1 (.int .i64 x) (entC { e with n := x }) := wr_one _ _ _ _ rfl rfl (Nat.le_of_ble_eq_true rfl) rfl
instance (e : Ent) (x : Int) : WrAt (entC e) 3 1 (.int .i64 x) (entC { e with len := x }) := wr_one _ _ _ _ rfl rfl (Nat.le_of_ble_eq_true rfl) rfl
instance (e : Ent) (x : ByteArray) : WrAt (entC e) 4 1 (.string x) (entC { e with name := x }) := wr_one _ _ _ _ rfl rfl (Nat.le_of_ble_eq_true rfl) rfl
theorem hashL_one (h : List UInt8) : (hashL h).all (·.oneCell') = true := rfl
instance (e : Ent) (h : List UInt8) : WrAt (entC e) 5 32 (.agg (hashL h).toArray) (entC { e with hash := h }) := wr_row _ _ _ _ _ rfl rfl (Nat.le_of_ble_eq_true rfl) (by kernel_rfl)
instance (e : Ent) (s c : Int) : WrAt (entC e) 37 2 (.agg #[.int .i64 s, .int .i64 c]) (entC { e with start := s, count := c }) := wr_row _ _ _ _ [.int .i64 s, .int .i64 c] rfl rfl (Nat.le_of_ble_eq_true rfl) (by kernel_rfl)
instance (e f : Ent) : WrAt (entC e) 0 39 (.agg (entL f).toArray) (entC f) := wr_row _ _ _ _ _ rfl rfl (Nat.le_of_ble_eq_true rfl) (by kernel_rfl)
instance (e f : Ent) : WrAt (entC e) 0 39 (.agg (entC f)) (entC f) := wr_row _ _ _ _ (entL f) rfl rfl (Nat.le_of_ble_eq_true rfl) (by kernel_rfl)
instance (e f : Ent) : WrAt (entC e) 0 39 (entV f) (entC f) := wr_row _ _ _ _ (entL f) rfl rfl (Nat.le_of_ble_eq_true rfl) (by kernel_rfl)

/-! ### The same -/
def eqTri (d : Nat) (xs ys : Array Value) : List (String × TypeId × Nat) → Sem Bool
  | [] => pure true
  | f :: fs =>
    if f.1 ≠ "_" then do
      let a ← part f.2.1 xs f.2.2
      let b ← part f.2.1 ys f.2.2
      let r ← Op.equalIn d f.2.1 a b
      if (!r) = true then pure false else eqTri d xs ys fs
    else eqTri d xs ys fs
theorem eqFields_tri (d : Nat) (xs ys : Array Value) : ∀ fs : List Field, Op.eqFields d xs ys fs = eqTri d xs ys (fs.map fun f => (f.name, f.type, f.offset))
  | [] => rfl
  | f :: fs => by simp only [Op.eqFields, eqTri, List.map_cons, eqFields_tri d xs ys fs]
theorem eqTri_cons {d : Nat} {xs ys : Array Value} {w : World} {f : String × TypeId × Nat} {fs : List (String × TypeId × Nat)} {x y : Value} {r q : Bool} (hn : f.1 ≠ "_") (hx : (part f.2.1 xs f.2.2).run Tryz.prog w = .ok x w) (hy : (part f.2.1 ys f.2.2).run Tryz.prog w = .ok y w)
    (hr : (Op.equalIn d f.2.1 x y).run Tryz.prog w = .ok r w) (hq : (eqTri d xs ys fs).run Tryz.prog w = .ok q w) : (eqTri d xs ys (f :: fs)).run Tryz.prog w = .ok (r && q) w := by
  unfold eqTri
  rw [if_pos hn]
  simp only [Sem.run_bind, hx, hy, hr, Result.andThen_ok]
  cases r
  · rfl
  · simpa using hq
theorem eqTri_nil {d : Nat} {xs ys : Array Value} {w : World} : (eqTri d xs ys []).run Tryz.prog w = .ok true w := rfl
theorem part_one {T : TypeId} [t : OneT T] {C : Array Value} {i : Nat} {v : Value} [c : CellAt C i v] (w : World) : (part T C i).run Tryz.prog w = .ok v w := by
  simp [part, Sem.run_bind, t.agg w, c.eq]
theorem part_agg {T : TypeId} {n : Nat} [t : AggT T n] {C : Array Value} {i : Nat} {cs : List Value} [c : PartAt C i n cs] (w : World) : (part T C i).run Tryz.prog w = .ok (.agg cs.toArray) w := by
  have : C.extract i (i + n) = cs.toArray := by
    apply Array.ext_getElem?
    intro j
    by_cases hj : j < n
    · have hj' : j < cs.length := by rw [c.len]; exact hj
      have h := c.eq j _ (List.getElem?_eq_getElem hj')
      rw [Array.getElem?_extract]
      have hlt : i + j < C.size := (Array.getElem?_eq_some_iff.1 h).1
      rw [if_pos (by omega), h]
      simp [hj']
    · rw [Array.getElem?_eq_none (by simp; omega), Array.getElem?_eq_none (by simp [c.len]; omega)]
  simp [part, Sem.run_bind, t.agg w, run_size t.size, this]
theorem fieldsRun : ((Tryz.prog.fieldsOf 36).toList.map fun f => (f.name, f.type, f.offset)) = [("Start", 3, 0), ("Count", 3, 1)] := by kernel_rfl
theorem fieldsEnt : ((Tryz.prog.fieldsOf 87).toList.map fun f => (f.name, f.type, f.offset)) = [("Kind", 3, 0), ("Stream", 3, 1), ("N", 3, 2), ("Len", 3, 3), ("Name", 9, 4), ("Hash", 34, 5), ("Run", 36, 37)] := by kernel_rfl
theorem underRun : Tryz.prog.underlying 36 = some (.struct (Tryz.prog.fieldsOf 36)) := by kernel_rfl
theorem underEnt : Tryz.prog.underlying 87 = some (.struct (Tryz.prog.fieldsOf 87)) := by kernel_rfl
theorem underInt : Tryz.prog.underlying 3 = some (.int .i64) := by kernel_rfl
theorem underStr : Tryz.prog.underlying 9 = some .string := by kernel_rfl
instance (s c : Int) : CellAt #[.int .i64 s, .int .i64 c] 0 (.int .i64 s) := ⟨rfl⟩
instance (s c : Int) : CellAt #[.int .i64 s, .int .i64 c] 1 (.int .i64 c) := ⟨rfl⟩
theorem equal_run (d : Nat) (s c s' c' : Int) (w : World) : (Op.equalIn (d + 2) 36 (.agg #[.int .i64 s, .int .i64 c]) (.agg #[.int .i64 s', .int .i64 c'])).run Tryz.prog w = .ok ((s == s') && ((c == c') && true)) w := by
  rw [run_equalIn_struct (P := Tryz.prog) w (d + 1) 36 _ _ underRun (by kernel_rfl), eqFields_tri, fieldsRun]
  exact eqTri_cons (by decide) (part_one w) (part_one w) (run_equalIn_int (P := Tryz.prog) w d _ _ _ _ _ underInt) (eqTri_cons (by decide) (part_one w) (part_one w) (run_equalIn_int (P := Tryz.prog) w d _ _ _ _ _ underInt) eqTri_nil)
def h32 (h : List UInt8) : List UInt8 := (List.range 32).map (fun i => h.getD i 0)
/-- Are two entries the same? -/
def entEq (e f : Ent) : Bool := (e.kind == f.kind) && ((e.stream == f.stream) && ((e.n == f.n) && ((e.len == f.len) && ((e.name.toList == f.name.toList) && ((h32 e.hash == h32 f.hash) && ((((e.start == f.start) && ((e.count == f.count) && true))) && true))))))
theorem hashL_32 (h : List UInt8) : hashL h = hashL (h32 h) := rfl
theorem h32_length (h : List UInt8) : (h32 h).length = 32 := by simp [h32]
theorem h32_of (h : List UInt8) (hl : h.length = 32) : h32 h = h := by
  apply List.ext_getElem
  · rw [h32_length, hl]
  · intro i h1 h2
    simp [h32, h2]
theorem equal_hashL (d : Nat) (g h : List UInt8) (w : World) : (Op.equalIn (d + 2) 34 (.agg (hashL g).toArray) (.agg (hashL h).toArray)).run Tryz.prog w = .ok (h32 g == h32 h) w := by
  rw [hashL_32 g, hashL_32 h, ← arr_hashL _ (h32_length g), ← arr_hashL _ (h32_length h)]
  exact equal_hash d _ _ (h32_length g) (h32_length h) w
theorem equal_ent (e f : Ent) (w : World) : (Op.equalIn 10000 87 (.agg (entC e)) (.agg (entC f))).run Tryz.prog w = .ok (entEq e f) w := by
  rw [run_equalIn_struct (P := Tryz.prog) w 9999 87 _ _ underEnt (by kernel_rfl), eqFields_tri, fieldsEnt]
  exact eqTri_cons (by decide) (part_one w) (part_one w) (run_equalIn_int (P := Tryz.prog) w 9998 _ _ _ _ _ underInt)
    (eqTri_cons (by decide) (part_one w) (part_one w) (run_equalIn_int (P := Tryz.prog) w 9998 _ _ _ _ _ underInt)
    (eqTri_cons (by decide) (part_one w) (part_one w) (run_equalIn_int (P := Tryz.prog) w 9998 _ _ _ _ _ underInt)
    (eqTri_cons (by decide) (part_one w) (part_one w) (run_equalIn_int (P := Tryz.prog) w 9998 _ _ _ _ _ underInt)
    (eqTri_cons (by decide) (part_one w) (part_one w) (run_equalIn_string (P := Tryz.prog) w 9998 _ _ _ underStr)
    (eqTri_cons (by decide) (part_agg w) (part_agg w) (equal_hashL 9997 _ _ w)
    (eqTri_cons (by decide) (part_agg w) (part_agg w) (equal_run 9997 _ _ _ _ w) eqTri_nil))))))
theorem eql_ent (e f : Ent) (w : World) : (binOp .eql 87 (.agg (entC e)) (.agg (entC f))).run Tryz.prog w = .ok (.bool (entEq e f)) w := by rw [run_eql_struct, equal_ent]; rfl
theorem neq_ent (e f : Ent) (w : World) : (binOp .neq 87 (.agg (entC e)) (.agg (entC f))).run Tryz.prog w = .ok (.bool (!entEq e f)) w := by rw [run_neq_struct, equal_ent]; rfl
theorem guard_ent (op : BinOp) (x y : Operand) (xs ys : Array Value) (w : World) : (eqGuard op 87 x y (.agg xs) (.agg ys)).run Tryz.prog w = .ok () w := run_eqGuard_agg (P := Tryz.prog) w op _ x y xs ys (by kernel_rfl)
/-- Cells that are an entry's. -/
class IsEnt (C : Array Value) (e : outParam Ent) : Prop where eq : C = entC e
instance (e : Ent) : IsEnt (entC e) e := ⟨rfl⟩
instance (e : Ent) : IsEnt (entL e).toArray e := ⟨rfl⟩
instance : IsEnt #[.int .i64 0, .int .i64 0, .int .i64 0, .int .i64 0, .string { data := #[] }, .int .u8 0, .int .u8 0, .int .u8 0, .int .u8 0, .int .u8 0, .int .u8 0, .int .u8 0, .int .u8 0, .int .u8 0, .int .u8 0, .int .u8 0, .int .u8 0, .int .u8 0, .int .u8 0, .int .u8 0, .int .u8 0, .int .u8 0, .int .u8 0, .int .u8 0, .int .u8 0, .int .u8 0, .int .u8 0, .int .u8 0, .int .u8 0, .int .u8 0, .int .u8 0, .int .u8 0, .int .u8 0, .int .u8 0, .int .u8 0, .int .u8 0, .int .u8 0, .int .i64 0, .int .i64 0] ent0 := ⟨rfl⟩
section
variable {ops : Array Oper} {rest : List Oper} {o : Oper} {a : Act} {w : World} {Q : Exit → Act → World → Prop}
theorem wpList_neqE (hw : Region.wanted o (yielded ops a.tmps) = true) (x y : Operand) (r : TypeId) (ho : o.op = .binOp .neq 87 x y r) (xs ys : Array Value) (hx : a.eval x = .agg xs) (hy : a.eval y = .agg ys) {e f : Ent} [h1 : IsEnt xs e] [h2 : IsEnt ys f]
    (hk : wpList Tryz.prog ops Q rest (a.put o.dst (.bool !(entEq e f))) w) : wpList Tryz.prog ops Q (o :: rest) a w :=
  BigFrame.wpList_want hw fun K hK => by
    unfold Oper.wp execOp
    simp only [ho, hx, hy, Sem.run_bind, guard_ent, Result.andThen_ok, h1.eq, h2.eq, neq_ent]
    exact hK _ _ hk
theorem wpList_eqlE (hw : Region.wanted o (yielded ops a.tmps) = true) (x y : Operand) (r : TypeId) (ho : o.op = .binOp .eql 87 x y r) (xs ys : Array Value) (hx : a.eval x = .agg xs) (hy : a.eval y = .agg ys) {e f : Ent} [h1 : IsEnt xs e] [h2 : IsEnt ys f]
    (hk : wpList Tryz.prog ops Q rest (a.put o.dst (.bool (entEq e f))) w) : wpList Tryz.prog ops Q (o :: rest) a w :=
  BigFrame.wpList_want hw fun K hK => by
    unfold Oper.wp execOp
    simp only [ho, hx, hy, Sem.run_bind, guard_ent, Result.andThen_ok, h1.eq, h2.eq, eql_ent]
    exact hK _ _ hk
end
end Go.Proofs.YtigihgbgdillpaaGreatDoor
namespace Go.Proofs.YtigihgbgdillpaaGreatDoor
open Go.RowKit

def withinB (n m : Int) : Bool := decide (0 ≤ n) && decide (n ≤ m)
set_option maxHeartbeats 1000000 in
theorem within_calls (n m : Int) (w : World) :
    Calls Tryz.prog 96 #[.int .i64 n, .int .i64 m] w fun e w' => e = .returned (.bool (withinB n m)) ∧ w = w' := by
  unfold withinB
  by_cases h1 : 0 ≤ n
  · have f1 : decide (0 ≤ n) = true := by simpa using h1
    rw [f1]
    by_cases h2 : n ≤ m
    · have f2 : decide (n ≤ m) = true := by simpa using h2
      rw [f2]
      clear h1 h2
      go_enter Tryz.func96, Tryz.ntmps96
      go_wp2
      go_ret
      exact ⟨rfl, rfl⟩
    · have f2 : decide (n ≤ m) = false := by simpa using h2
      rw [f2]
      clear h1 h2
      go_enter Tryz.func96, Tryz.ntmps96
      go_wp2
      go_ret
      exact ⟨rfl, rfl⟩
  · have f1 : decide (0 ≤ n) = false := by simpa using h1
    rw [f1, Bool.false_and]
    clear h1
    go_enter Tryz.func96, Tryz.ntmps96
    go_wp2
    go_ret
    exact ⟨rfl, rfl⟩

def mostN (k : Int) : Int := if k = 6 then 63 else 1073741824
set_option maxHeartbeats 1000000 in
theorem most_calls (k : Int) (w : World) :
    Calls Tryz.prog 97 #[.int .i64 k] w fun e w' => e = .returned (.int .i64 (mostN k)) ∧ w = w' := by
  by_cases h : k = 6
  · subst h
    go_enter Tryz.func97, Tryz.ntmps97
    go_wp2
    go_ret
    exact ⟨rfl, rfl⟩
  · have f : (k == 6) = false := by simpa using h
    have e : mostN k = 1073741824 := by simp [mostN, h]
    rw [e]
    clear h e
    go_enter Tryz.func97, Tryz.ntmps97
    go_wp2
    go_ret
    exact ⟨rfl, rfl⟩

/-- The fields of a kind. -/
def fieldsL (k : Int) : List Int := if k = 1 then [2] else if k = 2 then [0, 1, 3] else if k = 3 ∨ k = 6 then [0, 1] else if k = 4 ∨ k = 5 then [0, 2] else []
/-- A slice of fields: none, or a block of its own. -/
def FSl (w : World) (v : Value) (l : List Int) (w' : World) : Prop :=
  (l = [] ∧ v = .slice none 0 0) ∨ (l ≠ [] ∧ ∃ b, v = .slice (some ⟨b, 0, none⟩) l.length l.length ∧ w.heap.size ≤ b ∧ w'.heap[b]? = some (.cells (l.map (Value.int .i64)).toArray 145 (0, 0)))
theorem kind_cases (k : Int) : k = 1 ∨ k = 2 ∨ k = 3 ∨ k = 4 ∨ k = 5 ∨ k = 6 ∨ (k ≠ 1 ∧ k ≠ 2 ∧ k ≠ 3 ∧ k ≠ 4 ∧ k ≠ 5 ∧ k ≠ 6) := by omega

set_option maxHeartbeats 1000000 in
theorem fields_calls (k : Int) (w : World) :
    Calls Tryz.prog 60 #[.int .i64 k] w fun e w' => (∃ v, e = .returned v ∧ FSl w v (fieldsL k) w') ∧ Below w.heap.size w w' := by
  rcases kind_cases k with rfl | rfl | rfl | rfl | rfl | rfl | ⟨h1, h2, h3, h4, h5, h6⟩
  · go_enter Tryz.func60, Tryz.ntmps60
    go_wp2
    go_ret
    exact ⟨⟨_, rfl, Or.inr ⟨by decide, _, rfl, Nat.le_refl _, alloc_at _ _⟩⟩, (Below.refl _ _).alloc (Nat.le_refl _) _⟩
  · go_enter Tryz.func60, Tryz.ntmps60
    go_wp2
    go_ret
    exact ⟨⟨_, rfl, Or.inr ⟨by decide, _, rfl, Nat.le_refl _, alloc_at _ _⟩⟩, (Below.refl _ _).alloc (Nat.le_refl _) _⟩
  · go_enter Tryz.func60, Tryz.ntmps60
    go_wp2
    go_ret
    exact ⟨⟨_, rfl, Or.inr ⟨by decide, _, rfl, Nat.le_refl _, alloc_at _ _⟩⟩, (Below.refl _ _).alloc (Nat.le_refl _) _⟩
  · go_enter Tryz.func60, Tryz.ntmps60
    go_wp2
    go_ret
    exact ⟨⟨_, rfl, Or.inr ⟨by decide, _, rfl, Nat.le_refl _, alloc_at _ _⟩⟩, (Below.refl _ _).alloc (Nat.le_refl _) _⟩
  · go_enter Tryz.func60, Tryz.ntmps60
    go_wp2
    go_ret
    exact ⟨⟨_, rfl, Or.inr ⟨by decide, _, rfl, Nat.le_refl _, alloc_at _ _⟩⟩, (Below.refl _ _).alloc (Nat.le_refl _) _⟩
  · go_enter Tryz.func60, Tryz.ntmps60
    go_wp2
    go_ret
    exact ⟨⟨_, rfl, Or.inr ⟨by decide, _, rfl, Nat.le_refl _, alloc_at _ _⟩⟩, (Below.refl _ _).alloc (Nat.le_refl _) _⟩
  · have e : fieldsL k = [] := by unfold fieldsL; simp [h1, h2, h3, h4, h5, h6]
    have f1 : (k == 1) = false := by simpa using h1
    have f2 : (k == 2) = false := by simpa using h2
    have f3 : (k == 3) = false := by simpa using h3
    have f4 : (k == 4) = false := by simpa using h4
    have f5 : (k == 5) = false := by simpa using h5
    have f6 : (k == 6) = false := by simpa using h6
    rw [e]
    clear h1 h2 h3 h4 h5 h6 e
    go_enter Tryz.func60, Tryz.ntmps60
    go_wp2
    go_ret
    exact ⟨⟨_, rfl, Or.inl ⟨rfl, rfl⟩⟩, Below.refl _ _⟩
theorem eql_nilF (a : Addr) (n c : Nat) (w : World) : (binOp .eql 143 (.slice (some a) n c) (.slice none 0 0)).run Tryz.prog w = .ok (.bool false) w := by kernel_rfl
theorem eql_nilT (w : World) : (binOp .eql 143 (.slice none 0 0) (.slice none 0 0)).run Tryz.prog w = .ok (.bool true) w := by kernel_rfl
end Go.Proofs.YtigihgbgdillpaaGreatDoor
