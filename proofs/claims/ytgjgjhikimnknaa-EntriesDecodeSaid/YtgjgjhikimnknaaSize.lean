/- The contract of words.size: it tells whether its argument is 1, 2, 4 or 8. -/
import Derived.Test.YtgjgjhikimnknaaProg
import Derived.WalkKit
import Derived.KernelRfl
import Derived.RowKit3
import Derived.Below
import Derived.Lib.Hide
import Derived.Outline
namespace Go.Proofs.Ytgjgjhikimnknaa
open Go.RowKit

def sizeB (n : Int) : Bool := n == 1 || n == 2 || n == 4 || n == 8
def sizeAt (k : Nat) : Int := if k = 0 then 1 else if k = 1 then 2 else if k = 2 then 4 else 8
def noneTo (n : Int) (k : Nat) : Prop := ∀ j, j < k → sizeAt j ≠ n

theorem sizeB_false {n : Int} (h : noneTo n 4) : sizeB n = false := by
  have h0 := h 0 (by omega); have h1 := h 1 (by omega); have h2 := h 2 (by omega); have h3 := h 3 (by omega)
  simp [sizeAt] at h0 h1 h2 h3
  simp [sizeB]; omega
theorem sizeB_true {n : Int} {k : Nat} (h : sizeAt k = n) : sizeB n = true := by
  subst h; unfold sizeAt; split <;> (try split) <;> (try split) <;> rfl
theorem noneTo_zero (n : Int) : noneTo n 0 := fun j h => by omega
theorem noneTo_succ {n : Int} {k : Nat} (h : noneTo n k) (h' : sizeAt k ≠ n) : noneTo n (k + 1) := fun j hj => by
  rcases Nat.lt_succ_iff_lt_or_eq.mp hj with h1 | rfl
  · exact h j h1
  · exact h'
theorem size_index (k : Nat) (hk : k < 4) (w : World) : (Instr.index 89 (.agg #[.int .i64 1, .int .i64 2, .int .i64 4, .int .i64 8]) (.int .i64 k)).run Try.prog w = .ok (.int .i64 (sizeAt k)) w := by
  rcases (by omega : k = 0 ∨ k = 1 ∨ k = 2 ∨ k = 3) with rfl | rfl | rfl | rfl <;> kernel_rfl

set_option maxHeartbeats 400000 in
theorem size_calls (n : Int) (w : World) :
    Calls Try.prog 39 #[.int .i64 n] w fun e w' => e = .returned (.bool (sizeB n)) ∧ w = w' := by
  go_enter Try.func39, Try.ntmps39
  go_wp2
  go_loop [6] (fun i => ∃ k : Nat, k ≤ 4 ∧ i = .int .i64 k ∧ noneTo n k) (fun i => 4 - (intOf i).toNat)
  case atStart => exact ⟨0, by omega, rfl, noneTo_zero n⟩
  case round =>
    obtain ⟨k, hk, rfl, hno⟩ := hrel
    by_cases hlt : k < 4
    · have hi := size_index k hlt w
      go_wp2
      · go_ret
        rename_i h _
        exact ⟨by rw [sizeB_true (k := k) (by simpa using h)]; rfl, rfl⟩
      · go_round
        case rel => exact ⟨k + 1, by omega, by go_num, noneTo_succ hno (by simpa using (show (sizeAt k == n) = false by assumption))⟩
        case measure => simp [intOf]; omega
    · obtain rfl : k = 4 := by omega
      go_wp2
      go_ret
      exact ⟨by rw [sizeB_false hno]; rfl, rfl⟩
end Go.Proofs.Ytgjgjhikimnknaa
