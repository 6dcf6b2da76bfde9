/- The chapter's examples (does of sealingwaxlaw01) come out true. -/
import Derived.Test.YtbbokdnkabbmfaaText
set_option linter.unusedVariables false
set_option linter.unusedSimpArgs false
namespace Go.Proofs.Ytbbokdnkabbmfaa
open Go.RowKit

set_option maxHeartbeats 1000000 in
theorem does_calls (w : World) :
    Calls Try.prog 16 #[] w fun e w' => e = .returned (.bool true) ∧ Below w.heap.size w w' := by
  go_enter Try.func16, Try.ntmps16
  go_wp2_with fail
  refine (get_any _ _ _ (by decide) _).mono ?_
  rintro e w' ⟨rfl, rfl⟩
  rw [show getF ⟨#[9, 1, 2, 7]⟩ 1 2 = some (258, 3) from by kernel_rfl]
  simp only [getV]
  go_wp2_with fail
  refine (get_any _ _ _ (by decide) _).mono ?_
  rintro e w' ⟨rfl, rfl⟩
  rw [show getF ⟨#[9, 1, 2, 7]⟩ 3 2 = none from by kernel_rfl]
  simp only [getV]
  go_wp2_with fail
  refine (put_text_calls _ (by decide) _).mono ?_
  rintro e w1 ⟨rfl, hb1⟩
  rw [show putTextV (putTextF ⟨#[97, 98]⟩) = .tuple #[.string ⟨#[0, 2, 97, 98]⟩, .int .i64 0] from by kernel_rfl]
  go_wp2_with fail
  refine (get_text_calls _ _ (by decide) _).mono ?_
  rintro e w' ⟨rfl, rfl⟩
  rw [show getTextV (getTextF ⟨#[0, 2, 97, 98, 99]⟩ 0) = .tuple #[.string ⟨#[97, 98]⟩, .int .i64 4, .bool true] from by kernel_rfl]
  go_wp2_with fail
  refine (put_any _ _ (by omega) _).mono ?_
  rintro e w2 ⟨rfl, hb2⟩
  rw [show putF 258 2 = ⟨#[1, 2]⟩ from by kernel_rfl]
  go_wp2_with fail
  refine (put_any _ _ (by omega) _).mono ?_
  rintro e w3 ⟨rfl, hb3⟩
  rw [show putF 258 1 = ⟨#[]⟩ from by kernel_rfl]
  go_wp2_with fail
  refine (put_any _ _ (by omega) _).mono ?_
  rintro e w4 ⟨rfl, hb4⟩
  rw [show putF 5 3 = ⟨#[]⟩ from by kernel_rfl]
  go_wp2_with fail
  refine (put_any _ _ (by omega) _).mono ?_
  rintro e w5 ⟨rfl, hb5⟩
  rw [show putF 1 4 = ⟨#[0, 0, 0, 1]⟩ from by kernel_rfl]
  go_wp2_with fail
  go_ret
  exact ⟨rfl, (((hb1.trans (hb2.mono hb1.size)).trans (hb3.mono (Nat.le_trans hb1.size hb2.size))).trans (hb4.mono (Nat.le_trans hb1.size (Nat.le_trans hb2.size hb3.size)))).trans (hb5.mono (Nat.le_trans hb1.size (Nat.le_trans hb2.size (Nat.le_trans hb3.size hb4.size))))⟩
end Go.Proofs.Ytbbokdnkabbmfaa
