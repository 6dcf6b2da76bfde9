/- The contract of words.size: it tells whether its argument is 1, 2, 4 or 8 · The contract of words.Put: the bytes of a number of a size, or nothing · The contracts of words.there and words.Get · The contracts of words.PutText and words.GetText · A region whose order is open, whose operations read, and whose callees may make memory: one walk in the order of the text, in any world that has at most new blocks. -/
import Derived.Test.YtigihgbgdillpaaGreatDoorProg
import Derived.WalkKit
import Derived.KernelRfl
import Derived.RowKit3
import Derived.Below
import Derived.Lib.Hide
import Derived.Outline
import Derived.Deep.QuietTactic
import Derived.BigQuiet
import Derived.Laws.MakeOwn
import Derived.Laws.NewBlocks
import Derived.Laws.BitsLemmas
import Derived.Laws.IdiomStrings
import Derived.Deep.RegionWith
import Derived.Laws.Bits64b
import Derived.Laws.DeepStrings4
import Derived.Laws.Strings3
set_option maxRecDepth 100000
set_option linter.unusedVariables false
set_option linter.unusedSimpArgs false
namespace Go.Proofs.YtigihgbgdillpaaGreatDoor
open Go.RowKit

def sizeB (n : Int) : Bool := n == 1 || n == 2 || n == 4 || n == 8
def sizeAt (k : Nat) : Int := if k = 0 then 1 else if k = 1 then 2 else if k = 2 then 4 else 8
def noneTo (n : Int) (k : Nat) : Prop := ∀ j, j < k → sizeAt j ≠ n

theorem sizeB_false {n : Int} (h : noneTo n 4) : sizeB n = false := by
  have h0 := h 0 (by omega); have h1 := h 1 (by omega); have h2 := h 2 (by omega); have h3 := h 3 (by omega)
  simp [sizeAt] at h0 h1 h2 h3
  simp [sizeB]; omega
theorem sizeB_true {n : Int} {k : Nat} (h : sizeAt k = n) : sizeB n = true := by
  subst h; unfold sizeAt; split <;> (try split) <;> (try split) <;> rfl
theorem noneTo_zero (n : Int) : noneTo n 0 := fun j h => by omega
theorem noneTo_succ {n : Int} {k : Nat} (h : noneTo n k) (h' : sizeAt k ≠ n) : noneTo n (k + 1) := fun j hj => by
  rcases Nat.lt_succ_iff_lt_or_eq.mp hj with h1 | rfl
  · exact h j h1
  · exact h'
theorem size_index (k : Nat) (hk : k < 4) (w : World) : (Instr.index 234 (.agg #[.int .i64 1, .int .i64 2, .int .i64 4, .int .i64 8]) (.int .i64 k)).run Tryz.prog w = .ok (.int .i64 (sizeAt k)) w := by
  rcases (by omega : k = 0 ∨ k = 1 ∨ k = 2 ∨ k = 3) with rfl | rfl | rfl | rfl <;> kernel_rfl

set_option maxHeartbeats 400000 in
theorem size_calls (n : Int) (w : World) :
    Calls Tryz.prog 100 #[.int .i64 n] w fun e w' => e = .returned (.bool (sizeB n)) ∧ w = w' := by
  go_enter Tryz.func100, Tryz.ntmps100
  go_wp2
  go_loop [6] (fun i => ∃ k : Nat, k ≤ 4 ∧ i = .int .i64 k ∧ noneTo n k) (fun i => 4 - (intOf i).toNat)
  case atStart => exact ⟨0, by omega, rfl, noneTo_zero n⟩
  case round =>
    obtain ⟨k, hk, rfl, hno⟩ := hrel
    by_cases hlt : k < 4
    · have hi := size_index k hlt w
      go_wp2
      · go_ret
        rename_i h _
        exact ⟨by rw [sizeB_true (k := k) (by simpa using h)]; rfl, rfl⟩
      · go_round
        case rel => exact ⟨k + 1, by omega, by go_num, noneTo_succ hno (by simpa using (show (sizeAt k == n) = false by assumption))⟩
        case measure => simp [intOf]; omega
    · obtain rfl : k = 4 := by omega
      go_wp2
      go_ret
      exact ⟨by rw [sizeB_false hno]; rfl, rfl⟩
end Go.Proofs.YtigihgbgdillpaaGreatDoor
namespace Go.Proofs.YtigihgbgdillpaaGreatDoor
open Go.RowKit

def be : Nat → Nat → List UInt8
  | 0, _ => []
  | i + 1, n => UInt8.ofNat (n / 256 ^ i) :: be i n
def u8s (l : List UInt8) : List Value := l.map fun c => .int .u8 c.toNat
def putCells (b k n : Nat) : Array Value := (u8s (List.replicate (b - k) 0 ++ be k n)).toArray

theorem T29 : Tryz.prog.underlying 115 = some (.slice 5) := by kernel_rfl
theorem I5 : (Tryz.prog.info? 5).map (fun i => (i.zero, i.size, i.bytes)) = some (some (.int .u8 0), 1, 1) := by kernel_rfl

theorem be_length (k n : Nat) : (be k n).length = k := by induction k with | zero => rfl | succ k ih => simp [be, ih]

theorem make_u8 (w : World) (b : Nat) (hb : b ≤ 8) (n : Nat) : (Instr.makeSlice 115 (.int .i64 b) (.int .i64 b)).run Tryz.prog w = .ok (.slice (some ⟨w.heap.size, 0, none⟩) b b) (w.alloc (.cells (putCells b 0 n) 5)) := by
  obtain ⟨i0, hi, hz0, hz1, hz2⟩ := info_parts I5
  have h := run_make (P := Tryz.prog) w 115 5 i0 (.int .u8 0) T29 hi hz0 .i64 .i64 b b (by omega) (by omega) (by rw [hz2]; omega) (by omega)
  rw [h, hz1]
  have e : madeCells (Value.int .u8 0).cells ((b : Int).toNat * 1) = putCells b 0 n := by
    apply Array.ext
    · simp [madeCells, putCells, u8s, be]
    · intro i h1 h2
      simp [madeCells, putCells, u8s, be, Value.cells, Nat.mod_one]
  rw [e]
  simp

theorem put_byte (n i : Nat) : IntKind.u8.wrap ((n : Int) / 2 ^ (8 * i)) = ((UInt8.ofNat (n / 256 ^ i)).toNat : Int) := by
  have h : (2 : Int) ^ (8 * i) = ((256 ^ i : Nat) : Int) := by rw [Int.pow_mul]; simp
  rw [h, ← Int.natCast_ediv]
  simp [IntKind.wrap, IntKind.signed, IntKind.bits]

theorem put_byte' (n i : Nat) : ((UInt8.ofNat (n / 256 ^ i)).toNat : Int) = (n : Int) / 2 ^ (8 * i) % 256 := by
  have h : (2 : Int) ^ (8 * i) = ((256 ^ i : Nat) : Int) := by rw [Int.pow_mul]; simp
  rw [h, ← Int.natCast_ediv]
  simp

theorem put_cell (b k n : Nat) (hk : k < b) : (putCells b k n)[b - 1 - k]? = some (.int .u8 0) := by
  obtain ⟨m, rfl⟩ : ∃ m, b = k + 1 + m := ⟨b - (k + 1), by omega⟩
  have e1 : k + 1 + m - k = m + 1 := by omega
  have e2 : k + 1 + m - 1 - k = m := by omega
  simp only [putCells, e1, e2]
  simp [u8s, List.getElem?_append]

theorem T9 : Tryz.prog.underlying 9 = some .string := by kernel_rfl
theorem U5 : Tryz.prog.underlying 5 = some (.int .u8) := by kernel_rfl
theorem put_back (w : World) (b n : Nat) : (convert 115 9 (.slice (some ⟨w.heap.size, 0, none⟩) b b)).run Tryz.prog (w.alloc (.cells (putCells b b n) 5)) = .ok (.string ⟨(be b n).toArray⟩) (w.alloc (.cells (putCells b b n) 5)) := by
  have h := run_convert_bytes_back (P := Tryz.prog) (w.alloc (.cells (putCells b b n) 5)) 115 9 5 ⟨w.heap.size, 0, none⟩ b (be b n) T29 U5 T9 (fun j hj => by
    have ha : (⟨w.heap.size, 0, none⟩ : Addr).add j = ⟨w.heap.size, j, none⟩ := by unfold Addr.add; split <;> simp_all
    rw [ha, World.cell?_alloc_at _ _ _ _ rfl]
    simp [putCells, u8s, hj])
  rw [be_length] at h
  exact h

theorem put_step (b k n : Nat) (hk : k < b) : (putCells b k n).setIfInBounds (b - 1 - k) (.int .u8 ((UInt8.ofNat (n / 256 ^ k)).toNat : Int)) = putCells b (k + 1) n := by
  obtain ⟨m, rfl⟩ : ∃ m, b = k + 1 + m := ⟨b - (k + 1), by omega⟩
  have e1 : k + 1 + m - k = m + 1 := by omega
  have e2 : k + 1 + m - 1 - k = m := by omega
  have e3 : k + 1 + m - (k + 1) = m := by omega
  simp only [putCells, e1, e2, e3, be]
  simp [u8s, List.replicate_succ', List.setIfInBounds_toArray]

set_option maxHeartbeats 400000 in
theorem put_calls (n : Nat) (b : Nat) (hb : sizeB b = true) (hn : b < 8 → n < 256 ^ b) (_h63 : n ≤ 9223372036854775807) (w : World) :
    Calls Tryz.prog 59 #[.int .i64 n, .int .i64 b] w fun e w' => e = .returned (.string ⟨(be b n).toArray⟩) ∧ Below w.heap.size w w' := by
  have hb8 : b ≤ 8 := by simp [sizeB] at hb; omega
  have hmk := make_u8 w b hb8 n
  have hneg : decide ((n : Int) < 0) = false := by simp
  have hsh : b < 8 → decide (0 < (n : Int) / 2 ^ (8 * b)) = false := by
    intro h
    have h' : (2 : Int) ^ (8 * b) = ((256 ^ b : Nat) : Int) := by rw [Int.pow_mul]; simp
    rw [h', ← Int.natCast_ediv, Nat.div_eq_of_lt (hn h)]
    rfl
  have hcases : (decide ((b : Int) < 8) = true ∧ decide (0 < (n : Int) / 2 ^ (8 * b)) = false) ∨ decide ((b : Int) < 8) = false := by
    by_cases h : b < 8
    · exact Or.inl ⟨by simp; omega, hsh h⟩
    · exact Or.inr (by simp; omega)
  clear hsh hn
  have HB := Lib.hid hb
  clear hb
  rcases hcases with ⟨hc1, hc2⟩ | hc1
  all_goals
    go_enter Tryz.func59, Tryz.ntmps59
    go_wp2_with fail
    refine (size_calls b _).mono ?_
    rintro e w' ⟨rfl, rfl⟩
    rw [HB.out]
    go_wp2_with fail
    clear hmk
    go_loopw [28] (fun i wr => ∃ k : Nat, k ≤ b ∧ i = .int .i64 k ∧ wr = w.alloc (.cells (putCells b k n) 5)) (fun i _ => b - (intOf i).toNat)
    case atStart => exact ⟨0, by omega, rfl, rfl⟩
    case round =>
      obtain ⟨k, hk, rfl, rfl⟩ := hrel
      by_cases hlt : k < b
      · have hcell := put_cell b k n hlt
        go_wp2
        go_round
        case rel => exact ⟨k + 1, by omega, by go_num, by rw [← put_step b k n hlt, put_byte']⟩
        case measure => simp [intOf]; omega
      · obtain rfl : k = b := by omega
        have hback := put_back w k n
        go_wp2
        go_ret
        exact ⟨rfl, (Below.refl _ _).alloc (Nat.le_refl _) _⟩

def fitsB (n b : Int) : Bool := sizeB b && (decide (0 ≤ n) && (decide (8 ≤ b) || decide (n.toNat < 256 ^ b.toNat)))
def putF (n b : Int) : ByteArray := if fitsB n b then ⟨(be b.toNat n.toNat).toArray⟩ else ⟨#[]⟩
theorem sizeB_range {b : Int} (h : sizeB b = true) : 1 ≤ b ∧ b ≤ 8 := by simp [sizeB] at h; omega

set_option maxHeartbeats 400000 in
theorem put_no_size (n b : Int) (hb : sizeB b = false) (w : World) :
    Calls Tryz.prog 59 #[.int .i64 n, .int .i64 b] w fun e w' => e = .returned (.string ⟨#[]⟩) ∧ Below w.heap.size w w' := by
  have HB := Lib.hid hb
  clear hb
  go_enter Tryz.func59, Tryz.ntmps59
  go_wp2_with fail
  refine (size_calls b _).mono ?_
  rintro e w' ⟨rfl, rfl⟩
  rw [HB.out]
  go_wp2_with fail
  go_ret
  exact ⟨rfl, Below.refl _ _⟩

set_option maxHeartbeats 400000 in
theorem put_neg (n b : Int) (hb : sizeB b = true) (hn : n < 0) (w : World) :
    Calls Tryz.prog 59 #[.int .i64 n, .int .i64 b] w fun e w' => e = .returned (.string ⟨#[]⟩) ∧ Below w.heap.size w w' := by
  have HB := Lib.hid hb
  clear hb
  go_enter Tryz.func59, Tryz.ntmps59
  go_wp2_with fail
  refine (size_calls b _).mono ?_
  rintro e w' ⟨rfl, rfl⟩
  rw [HB.out]
  go_wp2_with fail
  go_ret
  exact ⟨rfl, Below.refl _ _⟩

set_option maxHeartbeats 400000 in
theorem put_big (n b : Nat) (hb : sizeB b = true) (hb8 : b < 8) (hn : 256 ^ b ≤ n) (w : World) :
    Calls Tryz.prog 59 #[.int .i64 n, .int .i64 b] w fun e w' => e = .returned (.string ⟨#[]⟩) ∧ Below w.heap.size w w' := by
  have HB := Lib.hid hb
  clear hb
  have hneg : decide ((n : Int) < 0) = false := by simp
  have hsh : decide (0 < (n : Int) / 2 ^ (8 * b)) = true := by
    have h' : (2 : Int) ^ (8 * b) = ((256 ^ b : Nat) : Int) := by rw [Int.pow_mul]; simp
    rw [h', ← Int.natCast_ediv]
    have := Nat.div_pos hn (Nat.pow_pos (by omega))
    simp only [decide_eq_true_eq]
    omega
  clear hn
  go_enter Tryz.func59, Tryz.ntmps59
  go_wp2_with fail
  refine (size_calls b _).mono ?_
  rintro e w' ⟨rfl, rfl⟩
  rw [HB.out]
  go_wp2_with fail
  go_ret
  exact ⟨rfl, Below.refl _ _⟩

theorem put_any (n b : Int) (hn : n ≤ 9223372036854775807) (w : World) :
    Calls Tryz.prog 59 #[.int .i64 n, .int .i64 b] w fun e w' => e = .returned (.string (putF n b)) ∧ Below w.heap.size w w' := by
  unfold putF fitsB
  cases hb : sizeB b with
  | false => simpa using put_no_size n b hb w
  | true =>
    obtain ⟨h1, h2⟩ := sizeB_range hb
    obtain ⟨b, rfl⟩ := Int.eq_ofNat_of_zero_le (show 0 ≤ b by omega)
    by_cases h0 : n < 0
    · have e : decide (0 ≤ n) = false := by simp; omega
      rw [e]
      simpa using put_neg n b hb h0 w
    · obtain ⟨n, rfl⟩ := Int.eq_ofNat_of_zero_le (show 0 ≤ n by omega)
      by_cases h8 : b < 8
      · by_cases hl : n < 256 ^ b
        · have := put_calls n b hb (fun _ => hl) (by omega) w
          simpa [hl] using this
        · have := put_big n b hb h8 (by omega) w
          have e : decide ((8 : Int) ≤ b) = false := by simp; omega
          simpa [hl, e] using this
      · have := put_calls n b hb (fun h => absurd h h8) (by omega) w
        have e : decide ((8 : Int) ≤ b) = true := by simp; omega
        simpa [e] using this
end Go.Proofs.YtigihgbgdillpaaGreatDoor
namespace Go.Proofs.YtigihgbgdillpaaGreatDoor
open Go.RowKit

/-- The bytes of a string. -/
def ls (s : ByteArray) : List UInt8 := s.data.toList
theorem ls_length (s : ByteArray) : (ls s).length = s.size := rfl
def mkS (l : List UInt8) : ByteArray := ⟨l.toArray⟩
theorem ls_mkS (l : List UInt8) : ls (mkS l) = l := rfl
theorem mkS_ls (s : ByteArray) : mkS (ls s) = s := rfl

def thereB (s : ByteArray) (at_ n : Int) : Bool := decide (0 ≤ at_) && (decide (at_ ≤ (s.size : Int)) && decide (n ≤ (s.size : Int) - at_))

set_option maxHeartbeats 400000 in
theorem there_calls (s : ByteArray) (at_ n : Int) (hs : s.size ≤ maxLen) (w : World) :
    Calls Tryz.prog 142 #[.string s, .int .i64 at_, .int .i64 n] w fun e w' => e = .returned (.bool (thereB s at_ n)) ∧ w = w' := by
  unfold maxLen at hs
  unfold thereB
  by_cases h0 : 0 ≤ at_
  · by_cases h1 : at_ ≤ (s.size : Int)
    · have h0' : decide (0 ≤ at_) = true := by simpa using h0
      have h1' : decide (at_ ≤ (s.size : Int)) = true := by simpa using h1
      go_enter Tryz.func142, Tryz.ntmps142
      go_wp2
      go_ret
      exact ⟨by simp [h0', h1'], rfl⟩
    · have h0' : decide (0 ≤ at_) = true := by simpa using h0
      have h1' : decide (at_ ≤ (s.size : Int)) = false := by simpa using h1
      go_enter Tryz.func142, Tryz.ntmps142
      go_wp2
      go_ret
      exact ⟨by simp [h0', h1'], rfl⟩
  · have h0' : decide (0 ≤ at_) = false := by simpa using h0
    go_enter Tryz.func142, Tryz.ntmps142
    go_wp2
    go_ret
    exact ⟨by simp [h0'], rfl⟩

def bv (l : List UInt8) : Nat := l.foldl (fun a c => a * 256 + c.toNat) 0
theorem bv_snoc (l : List UInt8) (c : UInt8) : bv (l ++ [c]) = bv l * 256 + c.toNat := by simp [bv]
theorem bv_from (l : List UInt8) : ∀ a : Nat, l.foldl (fun a c => a * 256 + c.toNat) a = a * 256 ^ l.length + bv l := by
  induction l with
  | nil => intro a; simp [bv]
  | cons c l ih =>
    intro a
    have h1 := ih (a * 256 + c.toNat)
    have h2 := ih (0 * 256 + c.toNat)
    simp only [List.foldl_cons, bv, List.length_cons]
    rw [h1, h2, Nat.pow_succ, Nat.add_mul]
    simp only [Nat.zero_mul, Nat.zero_add, Nat.mul_assoc, Nat.mul_comm 256, Nat.add_assoc]
theorem bv_cons (c : UInt8) (l : List UInt8) : bv (c :: l) = c.toNat * 256 ^ l.length + bv l := by
  have := bv_from l c.toNat
  simpa [bv] using this
theorem bv_lt (l : List UInt8) : bv l < 256 ^ l.length := by
  induction l with
  | nil => simp [bv]
  | cons c l ih =>
    rw [bv_cons, List.length_cons, Nat.pow_succ]
    have := c.toNat_lt
    have h : c.toNat * 256 ^ l.length ≤ 255 * 256 ^ l.length := Nat.mul_le_mul_right _ (by omega)
    omega

def sub (s : ByteArray) (at_ n : Int) : List UInt8 := ((ls s).drop at_.toNat).take n.toNat
theorem sub_succ (s : ByteArray) (a k : Nat) (h : a + k < s.size) : sub s a ((k + 1 : Nat) : Int) = sub s a k ++ [s[a + k]] := by
  unfold sub
  simp only [Int.toNat_natCast]
  rw [List.take_succ_eq_append_getElem (by simp [ls_length]; omega)]
  simp [ls]
  rfl
theorem sub_length (s : ByteArray) (a k : Nat) (h : a + k ≤ s.size) : (sub s a k).length = k := by
  simp [sub, ls_length]; omega

theorem or_step (x c : Nat) (hx : x < 72057594037927936) (hc : c < 256) : bits .or .u64 (IntKind.u64.wrap ((x : Int) * 256)) (IntKind.u64.wrap (c : Int)) = ((x * 256 + c : Nat) : Int) := by
  have e1 : IntKind.u64.wrap ((x : Int) * 256) = ((x * 256 : Nat) : Int) := by
    simp only [IntKind.wrap, IntKind.signed, IntKind.bits]; simp; omega
  have e2 : IntKind.u64.wrap (c : Int) = ((c : Nat) : Int) := by
    simp only [IntKind.wrap, IntKind.signed, IntKind.bits]; simp; omega
  rw [e1, e2, bits_or_u64_nat _ _ (by omega) (by omega)]
  congr 1
  have := Nat.shiftLeft_add_eq_or_of_lt (i := 8) (b := c) (by simpa using hc) x
  rw [Nat.shiftLeft_eq] at this
  exact this.symm

theorem get_round (s : ByteArray) (a k b : Nat) (hk : k < b) (hb : b ≤ 8) (h : a + k < s.size) :
    bits .or .u64 (IntKind.u64.wrap ((bv (sub s a k) : Int) * 256)) (IntKind.u64.wrap (s[a + k].toNat : Int)) = (bv (sub s a ((k + 1 : Nat) : Int)) : Int) := by
  have hl := sub_length s a k (by omega)
  have hv := bv_lt (sub s a k)
  have : 256 ^ (sub s a k).length ≤ 256 ^ 7 := Nat.pow_le_pow_right (by omega) (by omega)
  rw [or_step _ _ (by omega) s[a + k].toNat_lt, sub_succ s a k h, bv_snoc]

theorem sizeB_le8 {b : Nat} (h : sizeB b = true) : b ≤ 8 := by have := sizeB_range h; omega
theorem wrap64_nat {x : Nat} (h : x < 9223372036854775808) : wrap64 (x : Int) = x := by unfold wrap64; omega
theorem top_no {x : Nat} (h : x < 9223372036854775808) : decide (0 < (x : Int) / 9223372036854775808) = false := by simp; omega
theorem top_yes {x : Nat} (h : 9223372036854775808 ≤ x) : decide (0 < (x : Int) / 9223372036854775808) = true := by simp; omega

set_option maxHeartbeats 400000 in
theorem get_yes (s : ByteArray) (a b : Nat) (hs : s.size ≤ maxLen) (hb : sizeB b = true) (ht : a + b ≤ s.size) (hv : bv (sub s a b) < 9223372036854775808) (w : World) :
    Calls Tryz.prog 112 #[.string s, .int .i64 a, .int .i64 b] w fun e w' => e = .returned (.tuple #[.int .i64 (bv (sub s a b)), .int .i64 (a + b), .bool true]) ∧ w = w' := by
  have hth : thereB s a b = true := by simp [thereB]; omega
  have hs' := hs
  unfold maxLen at hs
  have HB := Lib.hid hb
  have HT := Lib.hid hth
  have HV := Lib.hid hv
  clear hb hth hv
  go_enter Tryz.func112, Tryz.ntmps112
  go_wp2_with fail
  refine (size_calls b _).mono ?_
  rintro e w' ⟨rfl, rfl⟩
  rw [HB.out]
  go_wp2_with fail
  refine (there_calls s a b hs' _).mono ?_
  rintro e w' ⟨rfl, rfl⟩
  rw [HT.out]
  go_wp2_with fail
  go_loop [9, 22] (fun u i => ∃ k : Nat, k ≤ b ∧ i = .int .i64 k ∧ u = .int .u64 (bv (sub s a k))) (fun _ i => b - (intOf i).toNat)
  case atStart => exact ⟨0, by omega, rfl, rfl⟩
  case round =>
    obtain ⟨k, hk, rfl, rfl⟩ := hrel
    by_cases hlt : k < b
    · have hx : a + k < s.size := by omega
      go_wp2
      go_round
      case rel => exact ⟨k + 1, by omega, by go_num, by rw [get_round s a k b hlt (sizeB_le8 HB.out) hx]⟩
      case measure => simp [intOf]; omega
    · obtain rfl : k = b := by omega
      have hno : decide (0 < (bv (sub s a k) : Int) / 9223372036854775808) = false := top_no HV.out
      go_wp2
      go_ret3
      refine ⟨?_, rfl⟩
      show Ending.returned (.tuple #[.int .i64 (wrap64 (bv (sub s a k) : Int)), .int .i64 (a + k), .bool true]) = _
      rw [wrap64_nat HV.out]

set_option maxHeartbeats 400000 in
theorem get_top (s : ByteArray) (a b : Nat) (hs : s.size ≤ maxLen) (hb : sizeB b = true) (ht : a + b ≤ s.size) (hv : 9223372036854775808 ≤ bv (sub s a b)) (w : World) :
    Calls Tryz.prog 112 #[.string s, .int .i64 a, .int .i64 b] w fun e w' => e = .returned (.tuple #[.int .i64 0, .int .i64 0, .bool false]) ∧ w = w' := by
  have hth : thereB s a b = true := by simp [thereB]; omega
  have hs' := hs
  unfold maxLen at hs
  have HB := Lib.hid hb
  have HT := Lib.hid hth
  have HV := Lib.hid hv
  clear hb hth hv
  go_enter Tryz.func112, Tryz.ntmps112
  go_wp2_with fail
  refine (size_calls b _).mono ?_
  rintro e w' ⟨rfl, rfl⟩
  rw [HB.out]
  go_wp2_with fail
  refine (there_calls s a b hs' _).mono ?_
  rintro e w' ⟨rfl, rfl⟩
  rw [HT.out]
  go_wp2_with fail
  go_loop [9, 22] (fun u i => ∃ k : Nat, k ≤ b ∧ i = .int .i64 k ∧ u = .int .u64 (bv (sub s a k))) (fun _ i => b - (intOf i).toNat)
  case atStart => exact ⟨0, by omega, rfl, rfl⟩
  case round =>
    obtain ⟨k, hk, rfl, rfl⟩ := hrel
    by_cases hlt : k < b
    · have hx : a + k < s.size := by omega
      go_wp2
      go_round
      case rel => exact ⟨k + 1, by omega, by go_num, by rw [get_round s a k b hlt (sizeB_le8 HB.out) hx]⟩
      case measure => simp [intOf]; omega
    · obtain rfl : k = b := by omega
      have hno : decide (0 < (bv (sub s a k) : Int) / 9223372036854775808) = true := top_yes HV.out
      go_wp2
      go_ret3
      exact ⟨rfl, rfl⟩

set_option maxHeartbeats 400000 in
theorem get_no_size (s : ByteArray) (a b : Int) (hb : sizeB b = false) (w : World) :
    Calls Tryz.prog 112 #[.string s, .int .i64 a, .int .i64 b] w fun e w' => e = .returned (.tuple #[.int .i64 0, .int .i64 0, .bool false]) ∧ w = w' := by
  have HB := Lib.hid hb
  clear hb
  go_enter Tryz.func112, Tryz.ntmps112
  go_wp2_with fail
  refine (size_calls b _).mono ?_
  rintro e w' ⟨rfl, rfl⟩
  rw [HB.out]
  go_wp2
  go_ret3
  exact ⟨rfl, rfl⟩

set_option maxHeartbeats 400000 in
theorem get_not_there (s : ByteArray) (a b : Int) (hs : s.size ≤ maxLen) (hb : sizeB b = true) (hth : thereB s a b = false) (w : World) :
    Calls Tryz.prog 112 #[.string s, .int .i64 a, .int .i64 b] w fun e w' => e = .returned (.tuple #[.int .i64 0, .int .i64 0, .bool false]) ∧ w = w' := by
  have HB := Lib.hid hb
  have HT := Lib.hid hth
  clear hb hth
  go_enter Tryz.func112, Tryz.ntmps112
  go_wp2_with fail
  refine (size_calls b _).mono ?_
  rintro e w' ⟨rfl, rfl⟩
  rw [HB.out]
  go_wp2_with fail
  refine (there_calls s a b hs _).mono ?_
  rintro e w' ⟨rfl, rfl⟩
  rw [HT.out]
  go_wp2
  go_ret3
  exact ⟨rfl, rfl⟩

/-- What words.Get tells: the number and the place behind it, or nothing. -/
def getF (s : ByteArray) (a b : Int) : Option (Nat × Int) :=
  if sizeB b && thereB s a b then (if bv (sub s a b) < 9223372036854775808 then some (bv (sub s a b), a + b) else none) else none
def getV : Option (Nat × Int) → Value
  | some (n, next) => .tuple #[.int .i64 n, .int .i64 next, .bool true]
  | none => .tuple #[.int .i64 0, .int .i64 0, .bool false]

theorem get_any (s : ByteArray) (a b : Int) (hs : s.size ≤ maxLen) (w : World) :
    Calls Tryz.prog 112 #[.string s, .int .i64 a, .int .i64 b] w fun e w' => e = .returned (getV (getF s a b)) ∧ w = w' := by
  unfold getF
  cases hb : sizeB b with
  | false => simpa [getV] using get_no_size s a b hb w
  | true =>
    cases ht : thereB s a b with
    | false => simpa [getV] using get_not_there s a b hs hb ht w
    | true =>
      obtain ⟨h1, h2⟩ := sizeB_range hb
      obtain ⟨b, rfl⟩ := Int.eq_ofNat_of_zero_le (show 0 ≤ b by omega)
      have hth := ht
      simp [thereB] at ht
      obtain ⟨a, rfl⟩ := Int.eq_ofNat_of_zero_le ht.1
      by_cases hv : bv (sub s a b) < 9223372036854775808
      · simpa [hv, getV] using get_yes s a b hs hb (by omega) hv w
      · simpa [hv, getV] using get_top s a b hs hb (by omega) (by omega) w
end Go.Proofs.YtigihgbgdillpaaGreatDoor
namespace Go.Proofs.YtigihgbgdillpaaGreatDoor
open Go.RowKit

def putTextF (t : ByteArray) : Option (List UInt8) := if t.size ≤ 65535 then some (be 2 t.size ++ ls t) else none
def putTextV : Option (List UInt8) → Value
  | some l => .tuple #[.string (mkS l), .int .i64 0]
  | none => .tuple #[.string (mkS []), .int .i64 3]

theorem putF_size (n b : Int) : (putF n b).size ≤ 8 := by
  unfold putF
  split
  · rename_i h
    simp only [fitsB, Bool.and_eq_true] at h
    have := sizeB_range h.1
    simp [ByteArray.size, be_length]; omega
  · simp [ByteArray.size]
theorem ls_append (a b : ByteArray) : ls (a ++ b) = ls a ++ ls b := by simp [ls]
theorem eq_mkS {a : ByteArray} {l : List UInt8} (h : ls a = l) : a = mkS l := by subst h; rfl
theorem putF_of {n b : Nat} (h : fitsB n b = true) : putF n b = mkS (be b n) := by simp [putF, h, mkS]
theorem put_text_eq (t : ByteArray) (h : t.size ≤ 65535) : putF (t.size : Int) 2 ++ t = mkS (be 2 t.size ++ ls t) := by
  apply eq_mkS
  rw [ls_append]
  congr 1
  rw [show (2 : Int) = ((2 : Nat) : Int) from rfl, putF_of (by simp [fitsB, sizeB]; omega), ls_mkS]

set_option maxHeartbeats 400000 in
theorem put_text_calls (t : ByteArray) (ht : t.size ≤ maxLen) (w : World) :
    Calls Tryz.prog 101 #[.string t] w fun e w' => e = .returned (putTextV (putTextF t)) ∧ Below w.heap.size w w' := by
  unfold maxLen at ht
  unfold putTextF
  by_cases h : t.size ≤ 65535
  · have h' : decide ((65535 : Int) < (t.size : Int)) = false := by simp; omega
    have hle := putF_size (t.size : Int) 2
    have hcat : ¬ 9223372036854775807 < (putF (t.size : Int) 2).size + t.size := by omega
    rw [if_pos h]
    go_enter Tryz.func101, Tryz.ntmps101
    go_wp2_with fail
    refine (put_any _ _ (by omega) _).mono ?_
    rintro e w' ⟨rfl, hb⟩
    go_wp2_with fail
    go_ret2
    exact ⟨by rw [put_text_eq t h]; rfl, hb⟩
  · have h' : decide ((65535 : Int) < (t.size : Int)) = true := by simp; omega
    rw [if_neg h]
    go_enter Tryz.func101, Tryz.ntmps101
    go_wp2
    go_ret2
    exact ⟨rfl, Below.refl _ _⟩

def getTextF (s : ByteArray) (a : Int) : Option (List UInt8 × Int) :=
  match getF s a 2 with
  | some (n, next) => if next + n ≤ s.size then some (sub s next n, next + n) else none
  | none => none
def getTextV : Option (List UInt8 × Int) → Value
  | some (l, next) => .tuple #[.string (mkS l), .int .i64 next, .bool true]
  | none => .tuple #[.string (mkS []), .int .i64 0, .bool false]

theorem getF_le {s : ByteArray} {a b : Int} {n : Nat} {next : Int} (h : getF s a b = some (n, next)) : 0 ≤ a ∧ next = a + b ∧ next ≤ s.size ∧ sizeB b = true ∧ n = bv (sub s a b) ∧ n < 256 ^ b.toNat ∧ n < 9223372036854775808 := by
  unfold getF at h
  split at h
  · rename_i h1
    split at h
    · simp at h
      obtain ⟨rfl, rfl⟩ := h
      simp [thereB] at h1
      obtain ⟨h2, h3, h4, h5⟩ := h1
      obtain ⟨h6, h7⟩ := sizeB_range h2
      obtain ⟨b, rfl⟩ := Int.eq_ofNat_of_zero_le (show 0 ≤ b by omega)
      obtain ⟨a, rfl⟩ := Int.eq_ofNat_of_zero_le h3
      have hl := bv_lt (sub s a b)
      rw [sub_length s a b (by omega)] at hl
      exact ⟨by omega, rfl, by omega, h2, rfl, by simpa using hl, by assumption⟩
    · simp at h
  · simp at h

theorem text_extract (s : ByteArray) (a n : Nat) : s.extract a (a + n) = mkS (sub s a n) := by
  apply eq_mkS
  simp [ls, sub, ByteArray.data_extract]

set_option maxHeartbeats 400000 in
theorem get_text_calls (s : ByteArray) (a : Int) (hs : s.size ≤ maxLen) (w : World) :
    Calls Tryz.prog 113 #[.string s, .int .i64 a] w fun e w' => e = .returned (getTextV (getTextF s a)) ∧ w = w' := by
  have hs' := hs
  unfold maxLen at hs
  unfold getTextF
  cases hg : getF s a 2 with
  | none =>
    have HG := Lib.hid hg
    clear hg
    go_enter Tryz.func113, Tryz.ntmps113
    go_wp2_with fail
    refine (get_any _ _ _ hs' _).mono ?_
    rintro e w' ⟨rfl, rfl⟩
    rw [HG.out]
    unfold getV
    go_wp2
    go_ret3
    exact ⟨rfl, rfl⟩
  | some p =>
    obtain ⟨n, next⟩ := p
    obtain ⟨h0, h1, h2, hx1, hx2, hn, hx3⟩ := getF_le hg
    have hn' : n < 65536 := by simpa using hn
    obtain ⟨next, rfl⟩ := Int.eq_ofNat_of_zero_le (show 0 ≤ next by omega)
    have HG := Lib.hid hg
    clear hg hn h1 hx1 hx2 hx3
    by_cases hle : (next : Int) + n ≤ s.size
    · have hth : thereB s next n = true := by simp [thereB]; omega
      have HT := Lib.hid hth
      clear hth
      simp only [hle, if_true]
      go_enter Tryz.func113, Tryz.ntmps113
      go_wp2_with fail
      refine (get_any _ _ _ hs' _).mono ?_
      rintro e w' ⟨rfl, rfl⟩
      rw [HG.out]
      simp only [getV]
      go_wp2_with fail
      refine (there_calls s next n hs' _).mono ?_
      rintro e w' ⟨rfl, rfl⟩
      rw [HT.out]
      go_wp2
      go_ret3
      exact ⟨by rw [getTextV, ← text_extract s next n]; rfl, rfl⟩
    · have hth : thereB s next n = false := by simp [thereB]; omega
      have HT := Lib.hid hth
      clear hth
      simp only [hle, if_false]
      go_enter Tryz.func113, Tryz.ntmps113
      go_wp2_with fail
      refine (get_any _ _ _ hs' _).mono ?_
      rintro e w' ⟨rfl, rfl⟩
      rw [HG.out]
      simp only [getV]
      go_wp2_with fail
      refine (there_calls s next n hs' _).mono ?_
      rintro e w' ⟨rfl, rfl⟩
      rw [HT.out]
      go_wp2
      go_ret3
      exact ⟨rfl, rfl⟩
end Go.Proofs.YtigihgbgdillpaaGreatDoor
namespace Go.Proofs.YtigihgbgdillpaaGreatDoor
open Go.RowKit

/-- The worlds that have at most new blocks. -/
def Ix (w : World) : Type := {x : World // Below w.heap.size w x}
instance ixNonempty (w : World) : Nonempty (Ix w) := ⟨⟨w, Below.refl _ _⟩⟩

theorem wp_region_below_lit {P : Program} {id : Nat} {Q : Exit → Act → World → Prop} {a : Act} {w : World} {l : List Oper} (hm : P.follows .mixedOrders = true) (hB : Region.lexB .any l.toArray = true)
    (h : wpQuiet P l.toArray (fun w' => ∃ n : Ix w, w' = n.1) (fun a' => ∀ w', (∃ n : Ix w, w' = n.1) → Q .normal a' w') l a) : (Code.region id l.toArray true).wp P Q a w :=
  wp_region_quiet (C := fun w' => ∃ n : Ix w, w' = n.1) hm hB ⟨⟨w.drew, (Below.refl _ _).drew⟩, rfl⟩ (by simpa using h)

/-- A callee's contract, met in such a world. -/
theorem Calls.below_of {P : Program} {f : FuncId} {args : Array Value} {w : World} {n : Ix w} {v : Value}
    (h : Calls P f args n.1 fun e w' => e = .returned v ∧ Below n.1.heap.size n.1 w') : Calls P f args n.1 fun e w'' => e = .returned v ∧ ∃ m : Ix w, w'' = m.1 :=
  h.mono fun _ w' ⟨he, hb⟩ => ⟨he, ⟨w', n.2.trans (hb.mono n.2.size)⟩, rfl⟩
theorem Calls.below_of_same {P : Program} {f : FuncId} {args : Array Value} {w : World} {n : Ix w} {v : Value}
    (h : Calls P f args n.1 fun e w' => e = .returned v ∧ n.1 = w') : Calls P f args n.1 fun e w'' => e = .returned v ∧ ∃ m : Ix w, w'' = m.1 :=
  h.mono fun _ w' ⟨he, hb⟩ => ⟨he, n, hb.symm⟩
end Go.Proofs.YtigihgbgdillpaaGreatDoor
