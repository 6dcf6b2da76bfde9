/- The contracts of sealingwaxlaw19.Beyond, sealingwaxlaw21.Beyond. -/
import Derived.Test.YtigihgbgdillpaaGreatDoorP46
set_option linter.unusedVariables false
set_option linter.unusedSimpArgs false
set_option maxRecDepth 100000
namespace Go.Proofs.YtigihgbgdillpaaGreatDoor
open Go.RowKit

def beyP (x : Pu) : Bool := decide ((400 : Int) < x.text.size) || decide ((100 : Int) < x.e.name.size)
def bey19 (l : List Pu) (m : Int) : Bool := decide (m < (l.length : Int)) || l.any beyP
instance fldEn4 : Fx.FldT 87 4 4 := ⟨fun ad w => by kernel_rfl⟩
instance puc4 (p : Pu) : CellAt (puC p) 4 (.string p.e.name) := ⟨rfl⟩
set_option maxHeartbeats 2000000 in
theorem bey19_calls {D : Dat} {p : Option Addr} {c : Nat} {l : List Pu} (m : Int) (hr : (l.length : Int) ≤ m → RowAt D 89 40 puL p c l) (w : World) (hD : Holds D w) :
    Calls Tryz.prog 11 #[.slice p l.length c, .int .i64 m] w (Ret (.bool (bey19 l m)) w) := by
  have hst := Sx.start0 w hD
  by_cases hm : m < (l.length : Int)
  · have HB : Hid (bey19 l m = true) := Lib.hid (by unfold bey19; rw [decide_eq_true hm]; rfl)
    go_enter Tryz.func11, Tryz.ntmps11
    go_wp2_with (first | (with_reducible (refine xval rfl 9 rfl (.bool true) (fun w => Fx.e_gtr rfl rfl rfl (decide_eq_true hm) w) ?_)) | fail)
    go_ret
    exact ⟨by rw [HB.out]; rfl, hst.end⟩
  · replace hr := hr (by omega)
    have hcap := hr.cap
    have hbg := hr.big
    have HB : Hid (bey19 l m = l.any beyP) := Lib.hid (by unfold bey19; rw [decide_eq_false hm]; rfl)
    go_enter Tryz.func11, Tryz.ntmps11
    go_wp2_with (first | (with_reducible (refine xval rfl 9 rfl (.bool false) (fun w => Fx.e_gtr rfl rfl rfl (decide_eq_false hm) w) ?_)) | fail)
    clear hm
    go_loopw [5] (fun iv wr => ∃ k : Nat, k ≤ l.length ∧ iv = .int .i64 k ∧ Hid ((l.take k).any beyP = false) ∧ Sx [] w wr [] D []) (fun iv _ => l.length - (intOf iv).toNat)
    case atStart => exact ⟨0, Nat.zero_le _, by go_num, Lib.hid (by simp), hst⟩
    case round =>
      clear hst
      obtain ⟨k, hk, rfl, HK, hst⟩ := hrel
      by_cases hlt : k < l.length
      · obtain ⟨g, off, rfl⟩ := hr.at_some hlt
        have e1 : LdD D 9 ⟨g, off + k * 40 + 39, none⟩ (.string l[k].text) := hr.ldf hlt 39 rfl rfl
        have e2 : LdD D 9 ⟨g, off + k * 40 + 4, none⟩ (.string l[k].e.name) := hr.ldf hlt 4 rfl rfl
        have HR : beyP l[k] = true → Hid (bey19 l m = true) := fun h1 => Lib.hid (by rw [HB.out]; exact List.any_eq_true.2 ⟨_, List.getElem_mem hlt, h1⟩)
        have HN : beyP l[k] = false → Hid ((l.take (k + 1)).any beyP = false) := fun h1 => Lib.hid (by rw [List.take_succ_eq_append_getElem hlt, List.any_append, HK.out, List.any_cons, h1]; rfl)
        generalize l[k] = x at *
        by_cases ht : (400 : Int) < x.text.size
        · have HR := HR (by unfold beyP; rw [decide_eq_true ht]; rfl)
          have HT := Lib.hid (decide_eq_true ht)
          clear ht HN
          go_wp2_with (first | (with_reducible (refine xval rfl 22 rfl (.bool true) (fun w => Fx.e_gtr rfl rfl rfl HT.out w) ?_)) | (with_reducible refine xd rfl rfl rfl hst ?_))
          go_ret
          exact ⟨by rw [HR.out]; rfl, hst.end⟩
        · by_cases hn : (100 : Int) < x.e.name.size
          · have HR := HR (by unfold beyP; rw [decide_eq_true hn]; simp)
            have HT := Lib.hid (decide_eq_false ht)
            have HU := Lib.hid (decide_eq_true hn)
            clear ht hn HN
            go_wp2_with (first | (with_reducible (refine xval rfl 22 rfl (.bool false) (fun w => Fx.e_gtr rfl rfl rfl HT.out w) ?_)) | (with_reducible (refine xval rfl 31 rfl (.bool true) (fun w => Fx.e_gtr rfl rfl rfl HU.out w) ?_)) | (with_reducible refine xd rfl rfl rfl hst ?_))
            go_ret
            exact ⟨by rw [HR.out]; rfl, hst.end⟩
          · have HN := HN (by unfold beyP; rw [decide_eq_false ht, decide_eq_false hn]; rfl)
            have HT := Lib.hid (decide_eq_false ht)
            have HU := Lib.hid (decide_eq_false hn)
            clear ht hn HR
            go_wp2_with (first | (with_reducible (refine xval rfl 22 rfl (.bool false) (fun w => Fx.e_gtr rfl rfl rfl HT.out w) ?_)) | (with_reducible (refine xval rfl 31 rfl (.bool false) (fun w => Fx.e_gtr rfl rfl rfl HU.out w) ?_)) | (with_reducible refine xd rfl rfl rfl hst ?_))
            go_roundw
            case rel => exact ⟨k + 1, by omega, by go_num, HN, hst⟩
            case measure => simp [intOf]; omega
      · obtain rfl : k = l.length := by omega
        go_wp2_with fail
        go_ret
        have := HK.out
        rw [List.take_length] at this
        exact ⟨by rw [HB.out, this]; rfl, hst.end⟩
/-! Rows of rows. -/
structure Rw where
  p : Option Addr
  c : Nat
  l : List Pu
def rwL (r : Rw) : List Value := [.slice r.p r.l.length r.c]
instance encRw : Enc rwL 1 := ⟨fun _ => rfl, fun x v hv => by simp [rwL] at hv; subst hv; rfl⟩
instance eltRw : Elt 43 1 := ⟨.slice none 0 0, 24, by kernel_rfl, rfl, by decide, by decide⟩
instance sltRw : SlT 22 43 := ⟨Tryz.underlying22⟩
instance oneRw : OneT 43 := ⟨fun w => by kernel_rfl, by kernel_rfl⟩
def bey21 (l : List Rw) : Bool := decide ((6 : Int) < (l.length : Int)) || l.any fun r => bey19 r.l 5
set_option maxHeartbeats 2000000 in
theorem bey21_calls {D : Dat} {p : Option Addr} {c : Nat} {l : List Rw} (hr : l.length ≤ 6 → RowAt D 43 1 rwL p c l) (hrs : ∀ r ∈ l, r.l.length ≤ 5 → RowAt D 89 40 puL r.p r.c r.l) (w : World) (hD : Holds D w) :
    Calls Tryz.prog 4 #[.slice p l.length c] w (Ret (.bool (bey21 l)) w) := by
  have hst := Sx.start0 w hD
  by_cases hm : (6 : Int) < (l.length : Int)
  · have HB : Hid (bey21 l = true) := Lib.hid (by unfold bey21; rw [decide_eq_true hm]; rfl)
    go_enter Tryz.func4, Tryz.ntmps4
    go_wp2_with (first | (with_reducible (refine xval rfl 6 rfl (.bool true) (fun w => Fx.e_gtr rfl rfl rfl (decide_eq_true hm) w) ?_)) | fail)
    go_ret
    exact ⟨by rw [HB.out]; rfl, hst.end⟩
  · replace hr := hr (by omega)
    have hcap := hr.cap
    have hbg := hr.big
    have HB : Hid (bey21 l = l.any fun r => bey19 r.l 5) := Lib.hid (by unfold bey21; rw [decide_eq_false hm]; rfl)
    go_enter Tryz.func4, Tryz.ntmps4
    go_wp2_with (first | (with_reducible (refine xval rfl 6 rfl (.bool false) (fun w => Fx.e_gtr rfl rfl rfl (decide_eq_false hm) w) ?_)) | fail)
    clear hm
    go_loopw [3] (fun iv wr => ∃ k : Nat, k ≤ l.length ∧ iv = .int .i64 k ∧ Hid (((l.take k).any fun r => bey19 r.l 5) = false) ∧ Sx [] w wr [] D []) (fun iv _ => l.length - (intOf iv).toNat)
    case atStart => exact ⟨0, Nat.zero_le _, by go_num, Lib.hid (by simp), hst⟩
    case round =>
      clear hst
      obtain ⟨k, hk, rfl, HK, hst⟩ := hrel
      by_cases hlt : k < l.length
      · obtain ⟨g, off, rfl⟩ := hr.at_some hlt
        have hld := hr.ld1 hlt rfl
        have hrx := hrs _ (List.getElem_mem hlt)
        have HR : bey19 l[k].l 5 = true → Hid (bey21 l = true) := fun h1 => Lib.hid (by rw [HB.out]; exact List.any_eq_true.2 ⟨_, List.getElem_mem hlt, h1⟩)
        have HN : bey19 l[k].l 5 = false → Hid (((l.take (k + 1)).any fun r => bey19 r.l 5) = false) := fun h1 => Lib.hid (by rw [List.take_succ_eq_append_getElem hlt, List.any_append, HK.out, List.any_cons, h1]; rfl)
        generalize l[k] = x at *
        have HC := Lib.hid (fun w hD => bey19_calls 5 (fun h => hrx (by omega)) w hD)
        generalize bey19 x.l 5 = b at *
        cases b with
        | true =>
          have HR2 := HR rfl
          clear HN HR
          go_wp2_with (first | (with_reducible refine xd rfl rfl rfl hst ?_) | (with_reducible (refine callB (HC.out _ hst.data) hst ?_; clear hst; intro w' hst)))
          go_ret
          exact ⟨by rw [HR2.out]; rfl, hst.end⟩
        | false =>
          have HN2 := HN rfl
          clear HR HN
          go_wp2_with (first | (with_reducible refine xd rfl rfl rfl hst ?_) | (with_reducible (refine callB (HC.out _ hst.data) hst ?_; clear hst; intro w' hst)))
          go_roundw
          case rel => exact ⟨k + 1, by omega, by go_num, HN2, hst⟩
          case measure => simp [intOf]; omega
      · obtain rfl : k = l.length := by omega
        go_wp2_with fail
        go_ret
        have := HK.out
        rw [List.take_length] at this
        exact ⟨by rw [HB.out, this]; rfl, hst.end⟩
end Go.Proofs.YtigihgbgdillpaaGreatDoor
