/- The contracts of entries.within, most, fields. -/
import Derived.Test.YtgjgjhikimnknaaEnt
set_option linter.unusedVariables false
set_option linter.unusedSimpArgs false
namespace Go.Proofs.Ytgjgjhikimnknaa
open Go.RowKit

def withinB (n m : Int) : Bool := decide (0 ≤ n) && decide (n ≤ m)
set_option maxHeartbeats 1000000 in
theorem within_calls (n m : Int) (w : World) :
    Calls Try.prog 27 #[.int .i64 n, .int .i64 m] w fun e w' => e = .returned (.bool (withinB n m)) ∧ w = w' := by
  unfold withinB
  by_cases h1 : 0 ≤ n
  · have f1 : decide (0 ≤ n) = true := by simpa using h1
    rw [f1]
    by_cases h2 : n ≤ m
    · have f2 : decide (n ≤ m) = true := by simpa using h2
      rw [f2]
      clear h1 h2
      go_enter Try.func27, Try.ntmps27
      go_wp2
      go_ret
      exact ⟨rfl, rfl⟩
    · have f2 : decide (n ≤ m) = false := by simpa using h2
      rw [f2]
      clear h1 h2
      go_enter Try.func27, Try.ntmps27
      go_wp2
      go_ret
      exact ⟨rfl, rfl⟩
  · have f1 : decide (0 ≤ n) = false := by simpa using h1
    rw [f1, Bool.false_and]
    clear h1
    go_enter Try.func27, Try.ntmps27
    go_wp2
    go_ret
    exact ⟨rfl, rfl⟩

def mostN (k : Int) : Int := if k = 6 then 63 else 1073741824
set_option maxHeartbeats 1000000 in
theorem most_calls (k : Int) (w : World) :
    Calls Try.prog 28 #[.int .i64 k] w fun e w' => e = .returned (.int .i64 (mostN k)) ∧ w = w' := by
  by_cases h : k = 6
  · subst h
    go_enter Try.func28, Try.ntmps28
    go_wp2
    go_ret
    exact ⟨rfl, rfl⟩
  · have f : (k == 6) = false := by simpa using h
    have e : mostN k = 1073741824 := by simp [mostN, h]
    rw [e]
    clear h e
    go_enter Try.func28, Try.ntmps28
    go_wp2
    go_ret
    exact ⟨rfl, rfl⟩

/-- The fields of a kind. -/
def fieldsL (k : Int) : List Int := if k = 1 then [2] else if k = 2 then [0, 1, 3] else if k = 3 ∨ k = 6 then [0, 1] else if k = 4 ∨ k = 5 then [0, 2] else []
/-- A slice of fields: none, or a block of its own. -/
def FSl (w : World) (v : Value) (l : List Int) (w' : World) : Prop :=
  (l = [] ∧ v = .slice none 0 0) ∨ (l ≠ [] ∧ ∃ b, v = .slice (some ⟨b, 0, none⟩) l.length l.length ∧ w.heap.size ≤ b ∧ w'.heap[b]? = some (.cells (l.map (Value.int .i64)).toArray 58 (0, 0)))
theorem kind_cases (k : Int) : k = 1 ∨ k = 2 ∨ k = 3 ∨ k = 4 ∨ k = 5 ∨ k = 6 ∨ (k ≠ 1 ∧ k ≠ 2 ∧ k ≠ 3 ∧ k ≠ 4 ∧ k ≠ 5 ∧ k ≠ 6) := by omega

set_option maxHeartbeats 1000000 in
theorem fields_calls (k : Int) (w : World) :
    Calls Try.prog 22 #[.int .i64 k] w fun e w' => (∃ v, e = .returned v ∧ FSl w v (fieldsL k) w') ∧ Below w.heap.size w w' := by
  rcases kind_cases k with rfl | rfl | rfl | rfl | rfl | rfl | ⟨h1, h2, h3, h4, h5, h6⟩
  · go_enter Try.func22, Try.ntmps22
    go_wp2
    go_ret
    exact ⟨⟨_, rfl, Or.inr ⟨by decide, _, rfl, Nat.le_refl _, alloc_at _ _⟩⟩, (Below.refl _ _).alloc (Nat.le_refl _) _⟩
  · go_enter Try.func22, Try.ntmps22
    go_wp2
    go_ret
    exact ⟨⟨_, rfl, Or.inr ⟨by decide, _, rfl, Nat.le_refl _, alloc_at _ _⟩⟩, (Below.refl _ _).alloc (Nat.le_refl _) _⟩
  · go_enter Try.func22, Try.ntmps22
    go_wp2
    go_ret
    exact ⟨⟨_, rfl, Or.inr ⟨by decide, _, rfl, Nat.le_refl _, alloc_at _ _⟩⟩, (Below.refl _ _).alloc (Nat.le_refl _) _⟩
  · go_enter Try.func22, Try.ntmps22
    go_wp2
    go_ret
    exact ⟨⟨_, rfl, Or.inr ⟨by decide, _, rfl, Nat.le_refl _, alloc_at _ _⟩⟩, (Below.refl _ _).alloc (Nat.le_refl _) _⟩
  · go_enter Try.func22, Try.ntmps22
    go_wp2
    go_ret
    exact ⟨⟨_, rfl, Or.inr ⟨by decide, _, rfl, Nat.le_refl _, alloc_at _ _⟩⟩, (Below.refl _ _).alloc (Nat.le_refl _) _⟩
  · go_enter Try.func22, Try.ntmps22
    go_wp2
    go_ret
    exact ⟨⟨_, rfl, Or.inr ⟨by decide, _, rfl, Nat.le_refl _, alloc_at _ _⟩⟩, (Below.refl _ _).alloc (Nat.le_refl _) _⟩
  · have e : fieldsL k = [] := by unfold fieldsL; simp [h1, h2, h3, h4, h5, h6]
    have f1 : (k == 1) = false := by simpa using h1
    have f2 : (k == 2) = false := by simpa using h2
    have f3 : (k == 3) = false := by simpa using h3
    have f4 : (k == 4) = false := by simpa using h4
    have f5 : (k == 5) = false := by simpa using h5
    have f6 : (k == 6) = false := by simpa using h6
    rw [e]
    clear h1 h2 h3 h4 h5 h6 e
    go_enter Try.func22, Try.ntmps22
    go_wp2
    go_ret
    exact ⟨⟨_, rfl, Or.inl ⟨rfl, rfl⟩⟩, Below.refl _ _⟩
theorem eql_nilF (a : Addr) (n c : Nat) (w : World) : (binOp .eql 56 (.slice (some a) n c) (.slice none 0 0)).run Try.prog w = .ok (.bool false) w := by kernel_rfl
theorem eql_nilT (w : World) : (binOp .eql 56 (.slice none 0 0) (.slice none 0 0)).run Try.prog w = .ok (.bool true) w := by kernel_rfl
end Go.Proofs.Ytgjgjhikimnknaa
