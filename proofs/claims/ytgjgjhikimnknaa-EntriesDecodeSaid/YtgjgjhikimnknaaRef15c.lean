/- The contract of the reference's May: it tells what entries.Check tells. -/
import Derived.Test.YtgjgjhikimnknaaRef15b
set_option linter.unusedVariables false
set_option linter.unusedSimpArgs false
namespace Go.Proofs.Ytgjgjhikimnknaa
open Go.RowKit

def mayK (e : Ent) : Bool := if e.kind = 2 then withinB e.n 1073741824 && (withinB e.len 300 && runB e.start e.count) else if e.kind = 3 then withinB e.n 1073741824 else if e.kind = 6 then withinB e.n 63 else nameOk e.name
theorem h32_zeros : h32 (zeros 32) = zeros 32 := rfl
theorem within_zero : withinB 0 7 = true := rfl
theorem noS_ok : nameOk noS = false := rfl
theorem may_eq (e : Ent) (he : e.hash.length = 32) : checkB e = (decide (1 ≤ e.kind) && (decide (e.kind ≤ 6) && (entEq (bareE e) e && (withinB e.stream 7 && mayK e)))) := by
  have hh := h32_of _ he
  obtain ⟨k, s, n, l, nm, hs, st, c⟩ := e
  simp only at he hh
  rcases kind_cases k with rfl | rfl | rfl | rfl | rfl | rfl | ⟨a, b, c', d, e', f⟩
  · have e1 : checkB ⟨1, s, n, l, nm, hs, st, c⟩ = (((nameOk nm && true) && true) && entEq ⟨0, s, n, l, noS, hs, st, c⟩ ent0) := rfl
    have e2 : bareE ⟨1, s, n, l, nm, hs, st, c⟩ = ⟨1, 0, 0, 0, nm, zeros 32, 0, 0⟩ := rfl
    have e3 : mayK ⟨1, s, n, l, nm, hs, st, c⟩ = nameOk nm := rfl
    rw [e1, e2, e3, Bool.eq_iff_iff]
    simp only [entEq, ent0, Bool.and_eq_true, beq_iff_eq, hh, h32_zeros, show h32 [] = zeros 32 from rfl, decide_eq_true_eq, and_true, true_and]
    grind [within_zero]
  · have e1 : checkB ⟨2, s, n, l, nm, hs, st, c⟩ = (((withinB s 7 && (withinB n (mostN 2) && ((withinB l 300 && (withinB st 512 && (decide (0 < c) && withinB c (512 - st)))) && true))) && true) && entEq ⟨0, 0, 0, 0, nm, [], 0, 0⟩ ent0) := rfl
    have e2 : bareE ⟨2, s, n, l, nm, hs, st, c⟩ = ⟨2, s, n, l, noS, hs, st, c⟩ := rfl
    have e3 : mayK ⟨2, s, n, l, nm, hs, st, c⟩ = (withinB n 1073741824 && (withinB l 300 && runB st c)) := rfl
    rw [e1, e2, e3, Bool.eq_iff_iff]
    simp only [entEq, ent0, runB, show mostN 2 = 1073741824 from rfl, Bool.and_eq_true, beq_iff_eq, hh, h32_zeros, show h32 [] = zeros 32 from rfl, decide_eq_true_eq, and_true, true_and]
    grind
  · have e1 : checkB ⟨3, s, n, l, nm, hs, st, c⟩ = (((withinB s 7 && (withinB n (mostN 3) && true)) && true) && entEq ⟨0, 0, 0, l, nm, hs, st, c⟩ ent0) := rfl
    have e2 : bareE ⟨3, s, n, l, nm, hs, st, c⟩ = ⟨3, s, n, 0, noS, zeros 32, 0, 0⟩ := rfl
    have e3 : mayK ⟨3, s, n, l, nm, hs, st, c⟩ = withinB n 1073741824 := rfl
    rw [e1, e2, e3, Bool.eq_iff_iff]
    simp only [entEq, ent0, show mostN 3 = 1073741824 from rfl, Bool.and_eq_true, beq_iff_eq, hh, h32_zeros, show h32 [] = zeros 32 from rfl, decide_eq_true_eq, and_true, true_and]
    grind
  · have e1 : checkB ⟨4, s, n, l, nm, hs, st, c⟩ = (((withinB s 7 && (nameOk nm && true)) && true) && entEq ⟨0, 0, n, l, noS, hs, st, c⟩ ent0) := rfl
    have e2 : bareE ⟨4, s, n, l, nm, hs, st, c⟩ = ⟨4, s, 0, 0, nm, zeros 32, 0, 0⟩ := rfl
    have e3 : mayK ⟨4, s, n, l, nm, hs, st, c⟩ = nameOk nm := rfl
    rw [e1, e2, e3, Bool.eq_iff_iff]
    simp only [entEq, ent0, Bool.and_eq_true, beq_iff_eq, hh, h32_zeros, show h32 [] = zeros 32 from rfl, decide_eq_true_eq, and_true, true_and]
    grind
  · have e1 : checkB ⟨5, s, n, l, nm, hs, st, c⟩ = (((withinB s 7 && (nameOk nm && true)) && true) && entEq ⟨0, 0, n, l, noS, hs, st, c⟩ ent0) := rfl
    have e2 : bareE ⟨5, s, n, l, nm, hs, st, c⟩ = ⟨5, s, 0, 0, nm, zeros 32, 0, 0⟩ := rfl
    have e3 : mayK ⟨5, s, n, l, nm, hs, st, c⟩ = nameOk nm := rfl
    rw [e1, e2, e3, Bool.eq_iff_iff]
    simp only [entEq, ent0, Bool.and_eq_true, beq_iff_eq, hh, h32_zeros, show h32 [] = zeros 32 from rfl, decide_eq_true_eq, and_true, true_and]
    grind
  · have e1 : checkB ⟨6, s, n, l, nm, hs, st, c⟩ = (((withinB s 7 && (withinB n (mostN 6) && true)) && true) && entEq ⟨0, 0, 0, l, nm, hs, st, c⟩ ent0) := rfl
    have e2 : bareE ⟨6, s, n, l, nm, hs, st, c⟩ = ⟨6, s, n, 0, noS, zeros 32, 0, 0⟩ := rfl
    have e3 : mayK ⟨6, s, n, l, nm, hs, st, c⟩ = withinB n 63 := rfl
    rw [e1, e2, e3, Bool.eq_iff_iff]
    simp only [entEq, ent0, show mostN 6 = 63 from rfl, Bool.and_eq_true, beq_iff_eq, hh, h32_zeros, show h32 [] = zeros 32 from rfl, decide_eq_true_eq, and_true, true_and]
    grind
  · have h0 : fieldsL k = [] := by unfold fieldsL; simp [a, b, c', d, e', f]
    have e1 : checkB ⟨k, s, n, l, nm, hs, st, c⟩ = false := by
      rw [← Bool.not_eq_true]
      intro h
      exact (check_parts h).2.1 h0
    rw [e1]
    symm
    simp only [Bool.and_eq_false_iff, decide_eq_false_iff_not]
    omega
end Go.Proofs.Ytgjgjhikimnknaa
