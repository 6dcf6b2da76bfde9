/- The walk of WordsPut: the law returns true. -/
import Derived.Test.YtbbokdnkabbmfaaRefGet
import Derived.Test.YtbbokdnkabbmfaaDoes01
import Derived.OpenShut
set_option linter.unusedVariables false
set_option linter.unusedSimpArgs false
namespace Go.Proofs.Ytbbokdnkabbmfaa
open Go.RowKit

set_option maxHeartbeats 1000000 in
theorem wordsPut_walk (a0 a1 : Int) (a2 : ByteArray) (w0 : (Lit.int .i64 a0).wf = true) (w1 : (Lit.int .i64 a1).wf = true) (w2 : a2.size ≤ 140737488351232) (w : World) :
    Calls Try.prog 3 #[.int .i64 a0, .int .i64 a1, .string a2] w fun e w' => e = .returned (.bool true) ∧ Below w.heap.size w w' := by
  have hb0 := (bounds_i64 w0).2
  have hm : a2.size ≤ maxLen := by unfold maxLen; omega
  clear w0 w1
  by_cases h : a2.size ≤ 70000
  · have h' : decide ((70000 : Int) < (a2.size : Int)) = false := by simp; omega
    go_enter Try.func3, Try.ntmps3
    go_wp2_with fail
    refine (put_text_calls _ hm _).mono ?_
    rintro e w1 ⟨rfl, hb1⟩
    obtain ⟨l, c, hl⟩ : ∃ l c, putTextV (putTextF a2) = .tuple #[.string l, .int .i64 c] := by
      unfold putTextV; split <;> exact ⟨_, _, rfl⟩
    rw [hl]
    have HL := Lib.hid hl
    clear hl
    go_wp2_with fail
    refine (ref_put_text_calls _ hm _).mono ?_
    rintro e w2 ⟨rfl, hb2⟩
    rw [HL.out]
    go_wp2_with fail
    refine (put_any _ _ hb0 _).mono ?_
    rintro e w3 ⟨rfl, hb3⟩
    go_wp2_with fail
    refine (ref_put_any _ _ hb0 _).mono ?_
    rintro e w4 ⟨rfl, hb4⟩
    go_wp2_with fail
    refine (does_calls _).mono ?_
    rintro e w5 ⟨rfl, hb5⟩
    go_wp2_with fail
    go_ret
    exact ⟨rfl, (((hb1.trans (hb2.mono hb1.size)).trans (hb3.mono (Nat.le_trans hb1.size hb2.size))).trans (hb4.mono (Nat.le_trans hb1.size (Nat.le_trans hb2.size hb3.size)))).trans (hb5.mono (Nat.le_trans hb1.size (Nat.le_trans hb2.size (Nat.le_trans hb3.size hb4.size))))⟩
  · have h' : decide ((70000 : Int) < (a2.size : Int)) = true := by simp; omega
    go_enter Try.func3, Try.ntmps3
    go_wp2
    go_ret
    exact ⟨rfl, Below.refl _ _⟩
end Go.Proofs.Ytbbokdnkabbmfaa
