/- Numbers of 32 bits: what the program's operations make of them. -/
import Derived.Test.YtigihgbgdillpaaGreatDoorP15
set_option linter.unusedVariables false
set_option linter.unusedSimpArgs false
set_option maxRecDepth 100000
namespace Go.Proofs.YtigihgbgdillpaaGreatDoor
open Go.RowKit

structure W32 where
  val : Nat
  lt : val < 4294967296
namespace W32
def xor (x y : W32) : W32 := ⟨x.val ^^^ y.val, Nat.xor_lt_two_pow (n := 32) x.lt y.lt⟩
def and (x y : W32) : W32 := ⟨x.val &&& y.val, Nat.lt_of_le_of_lt Nat.and_le_left x.lt⟩
def or (x y : W32) : W32 := ⟨x.val ||| y.val, Nat.or_lt_two_pow (n := 32) x.lt y.lt⟩
def add (x y : W32) : W32 := ⟨(x.val + y.val) % 4294967296, Nat.mod_lt _ (by decide)⟩
def shr (x : W32) (n : Nat) : W32 := ⟨x.val / 2 ^ n, Nat.lt_of_le_of_lt (Nat.div_le_self _ _) x.lt⟩
def shl (x : W32) (n : Nat) : W32 := ⟨x.val * 2 ^ n % 4294967296, Nat.mod_lt _ (by decide)⟩
def rotr (x : W32) (n : Nat) : W32 := (x.shl (32 - n)).or (x.shr n)
end W32
abbrev v32 (x : W32) : Value := .int .u32 (x.val : Int)

theorem w32_xor (x y : W32) : bits .xor .u32 (x.val : Int) (y.val : Int) = ((x.xor y).val : Int) := u32_xor_nat _ _ x.lt y.lt
theorem w32_and (x y : W32) : bits .and .u32 (x.val : Int) (y.val : Int) = ((x.and y).val : Int) := u32_and_nat _ _ x.lt y.lt
theorem w32_or (x y : W32) : bits .or .u32 (x.val : Int) (y.val : Int) = ((x.or y).val : Int) := u32_or_nat _ _ x.lt y.lt
theorem w32_add (x y : W32) : ((x.val : Int) + (y.val : Int)) % 4294967296 = ((x.add y).val : Int) := by
  simp only [W32.add]; omega
theorem w32_shr (x : W32) (n : Nat) : (x.val : Int) / 2 ^ n = ((x.shr n).val : Int) := by
  simp only [W32.shr]
  rw [Int.natCast_ediv, Int.natCast_pow]; rfl
theorem w32_shl (x : W32) (n : Nat) : (x.val : Int) * 2 ^ n % 4294967296 = ((x.shl n).val : Int) := by
  simp only [W32.shl]
  rw [Int.natCast_emod, Int.natCast_mul, Int.natCast_pow]; rfl

set_option maxHeartbeats 1000000 in
theorem rot_calls (x : W32) (n m : Nat) (hm : n + m = 32) (hn : 0 < n) (hmm : 0 < m) (e : bits .and .u64 (IntKind.u64.wrap (-(n : Int))) 31 = (m : Int)) (w : World) :
    Calls Tryz.prog 166 #[v32 x, .int .i64 (-(n : Int))] w fun e w' => e = .returned (v32 (x.rotr n)) ∧ w = w' := by
  have hx := x.lt
  go_enter Tryz.func166, Tryz.ntmps166
  go_wp2_with fail
  go_ret
  refine ⟨?_, rfl⟩
  show Ending.returned (.int .u32 (bits .or .u32 ((x.val : Int) * 2 ^ m % 4294967296) ((x.val : Int) / 2 ^ (32 - m)))) = _
  rw [w32_shl, w32_shr, w32_or, show 32 - m = n by omega]
  unfold W32.rotr
  rw [show 32 - n = m by omega]

/-! ### Operations as they run -/
def wb (c : UInt8) : W32 := ⟨c.toNat, by have := c.toNat_lt; omega⟩
theorem run_xor32 (T : TypeId) (x y : W32) (w : World) : (binOp .xor T (v32 x) (v32 y)).run Tryz.prog w = .ok (v32 (x.xor y)) w := by rw [binOp_xor, intBits_xor, w32_xor]; rfl
theorem run_and32 (T : TypeId) (x y : W32) (w : World) : (binOp .and T (v32 x) (v32 y)).run Tryz.prog w = .ok (v32 (x.and y)) w := by rw [binOp_and, intBits_and, w32_and]; rfl
theorem run_or32 (T : TypeId) (x y : W32) (w : World) : (binOp .or T (v32 x) (v32 y)).run Tryz.prog w = .ok (v32 (x.or y)) w := by rw [binOp_or, intBits_or, w32_or]; rfl
theorem run_add32 (T : TypeId) (x y : W32) (w : World) : (binOp .add T (v32 x) (v32 y)).run Tryz.prog w = .ok (v32 (x.add y)) w := by
  rw [binOp_add]
  unfold Op.intArith
  have e : IntKind.u32.wrap ((x.val : Int) + (y.val : Int)) = ((x.add y).val : Int) := by
    rw [← w32_add]
    simp [IntKind.wrap, IntKind.signed, IntKind.bits]
  simp [e]
theorem run_shr32 (T : TypeId) (x : W32) (n : Nat) (hn : n ≤ 32) (w : World) : (binOp .shr T (v32 x) (.int .u64 n)).run Tryz.prog w = .ok (v32 (x.shr n)) w := by
  rw [binOp_shr, shift_shr .u32 .u64 _ _ (by omega) (by show (n : Int) ≤ 32; omega)]
  simp only [Int.toNat_natCast, w32_shr]
  rfl
theorem run_shl32 (T : TypeId) (x : W32) (n : Nat) (hn : n ≤ 32) (w : World) : (binOp .shl T (v32 x) (.int .u64 n)).run Tryz.prog w = .ok (v32 (x.shl n)) w := by
  rw [binOp_shl, shift_shl .u32 .u64 _ _ (by omega) (by show (n : Int) ≤ 32; omega)]
  have e : IntKind.u32.wrap ((x.val : Int) * 2 ^ n) = ((x.shl n).val : Int) := by
    rw [← w32_shl]
    simp [IntKind.wrap, IntKind.signed, IntKind.bits]
  simp only [Int.toNat_natCast, e]
  rfl
theorem run_conv32 (c : UInt8) (w : World) : (convert 5 195 (.int .u8 c.toNat)).run Tryz.prog w = .ok (v32 (wb c)) w := by
  rw [run_convert_int w 5 195 .u8 c.toNat (by rw [Tryz.underlying5]; rfl) Tryz.underlying195, show Tryz.prog.intKind 195 = .u32 by kernel_rfl]
  have := c.toNat_lt
  have e : IntKind.u32.wrap (c.toNat : Int) = (c.toNat : Int) := by
    simp only [IntKind.wrap, IntKind.signed, IntKind.bits]
    simp
    omega
  rw [e]
  rfl
/-- The numbers of bits by which the program turns. -/
def turnsL : List Nat := [7, 18, 17, 19, 6, 11, 25, 2, 13, 22]
theorem turns_ok : ∀ n ∈ turnsL, 0 < n ∧ n < 32 ∧ bits .and .u64 (IntKind.u64.wrap (-(n : Int))) 31 = ((32 - n : Nat) : Int) := by decide
set_option maxHeartbeats 1000000 in
theorem turn_calls (x : W32) (n : Nat) (hn : n ∈ turnsL) (w : World) :
    Calls Tryz.prog 155 #[v32 x, .int .i64 n] w fun e w' => e = .returned (v32 (x.rotr n)) ∧ w = w' := by
  obtain ⟨h1, h2, h3⟩ := turns_ok n hn
  have HR := Lib.hid (rot_calls x n (32 - n) (by omega) h1 (by omega) h3)
  clear h3 hn
  go_enter Tryz.func155, Tryz.ntmps155
  go_wp2_with fail
  refine (HR.out _).mono ?_
  rintro e w' ⟨rfl, rfl⟩
  go_wp2_with fail
  go_ret
  exact ⟨rfl, rfl⟩
end Go.Proofs.YtigihgbgdillpaaGreatDoor
