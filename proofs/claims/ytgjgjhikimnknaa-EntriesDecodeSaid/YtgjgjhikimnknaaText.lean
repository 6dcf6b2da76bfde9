/- The contracts of words.PutText and words.GetText. -/
import Derived.Test.YtgjgjhikimnknaaGet
import Derived.Laws.DeepStrings4
import Derived.Laws.Strings3
set_option linter.unusedVariables false
set_option linter.unusedSimpArgs false
namespace Go.Proofs.Ytgjgjhikimnknaa
open Go.RowKit

def putTextF (t : ByteArray) : Option (List UInt8) := if t.size ≤ 65535 then some (be 2 t.size ++ ls t) else none
def putTextV : Option (List UInt8) → Value
  | some l => .tuple #[.string (mkS l), .int .i64 0]
  | none => .tuple #[.string (mkS []), .int .i64 3]

theorem putF_size (n b : Int) : (putF n b).size ≤ 8 := by
  unfold putF
  split
  · rename_i h
    simp only [fitsB, Bool.and_eq_true] at h
    have := sizeB_range h.1
    simp [ByteArray.size, be_length]; omega
  · simp [ByteArray.size]
theorem ls_append (a b : ByteArray) : ls (a ++ b) = ls a ++ ls b := by simp [ls]
theorem eq_mkS {a : ByteArray} {l : List UInt8} (h : ls a = l) : a = mkS l := by subst h; rfl
theorem putF_of {n b : Nat} (h : fitsB n b = true) : putF n b = mkS (be b n) := by simp [putF, h, mkS]
theorem put_text_eq (t : ByteArray) (h : t.size ≤ 65535) : putF (t.size : Int) 2 ++ t = mkS (be 2 t.size ++ ls t) := by
  apply eq_mkS
  rw [ls_append]
  congr 1
  rw [show (2 : Int) = ((2 : Nat) : Int) from rfl, putF_of (by simp [fitsB, sizeB]; omega), ls_mkS]

set_option maxHeartbeats 400000 in
theorem put_text_calls (t : ByteArray) (ht : t.size ≤ maxLen) (w : World) :
    Calls Try.prog 40 #[.string t] w fun e w' => e = .returned (putTextV (putTextF t)) ∧ Below w.heap.size w w' := by
  unfold maxLen at ht
  unfold putTextF
  by_cases h : t.size ≤ 65535
  · have h' : decide ((65535 : Int) < (t.size : Int)) = false := by simp; omega
    have hle := putF_size (t.size : Int) 2
    have hcat : ¬ 9223372036854775807 < (putF (t.size : Int) 2).size + t.size := by omega
    rw [if_pos h]
    go_enter Try.func40, Try.ntmps40
    go_wp2_with fail
    refine (put_any _ _ (by omega) _).mono ?_
    rintro e w' ⟨rfl, hb⟩
    go_wp2_with fail
    go_ret2
    exact ⟨by rw [put_text_eq t h]; rfl, hb⟩
  · have h' : decide ((65535 : Int) < (t.size : Int)) = true := by simp; omega
    rw [if_neg h]
    go_enter Try.func40, Try.ntmps40
    go_wp2
    go_ret2
    exact ⟨rfl, Below.refl _ _⟩

def getTextF (s : ByteArray) (a : Int) : Option (List UInt8 × Int) :=
  match getF s a 2 with
  | some (n, next) => if next + n ≤ s.size then some (sub s next n, next + n) else none
  | none => none
def getTextV : Option (List UInt8 × Int) → Value
  | some (l, next) => .tuple #[.string (mkS l), .int .i64 next, .bool true]
  | none => .tuple #[.string (mkS []), .int .i64 0, .bool false]

theorem getF_le {s : ByteArray} {a b : Int} {n : Nat} {next : Int} (h : getF s a b = some (n, next)) : 0 ≤ a ∧ next = a + b ∧ next ≤ s.size ∧ sizeB b = true ∧ n = bv (sub s a b) ∧ n < 256 ^ b.toNat ∧ n < 9223372036854775808 := by
  unfold getF at h
  split at h
  · rename_i h1
    split at h
    · simp at h
      obtain ⟨rfl, rfl⟩ := h
      simp [thereB] at h1
      obtain ⟨h2, h3, h4, h5⟩ := h1
      obtain ⟨h6, h7⟩ := sizeB_range h2
      obtain ⟨b, rfl⟩ := Int.eq_ofNat_of_zero_le (show 0 ≤ b by omega)
      obtain ⟨a, rfl⟩ := Int.eq_ofNat_of_zero_le h3
      have hl := bv_lt (sub s a b)
      rw [sub_length s a b (by omega)] at hl
      exact ⟨by omega, rfl, by omega, h2, rfl, by simpa using hl, by assumption⟩
    · simp at h
  · simp at h

theorem text_extract (s : ByteArray) (a n : Nat) : s.extract a (a + n) = mkS (sub s a n) := by
  apply eq_mkS
  simp [ls, sub, ByteArray.data_extract]

set_option maxHeartbeats 400000 in
theorem get_text_calls (s : ByteArray) (a : Int) (hs : s.size ≤ maxLen) (w : World) :
    Calls Try.prog 48 #[.string s, .int .i64 a] w fun e w' => e = .returned (getTextV (getTextF s a)) ∧ w = w' := by
  have hs' := hs
  unfold maxLen at hs
  unfold getTextF
  cases hg : getF s a 2 with
  | none =>
    have HG := Lib.hid hg
    clear hg
    go_enter Try.func48, Try.ntmps48
    go_wp2_with fail
    refine (get_any _ _ _ hs' _).mono ?_
    rintro e w' ⟨rfl, rfl⟩
    rw [HG.out]
    unfold getV
    go_wp2
    go_ret3
    exact ⟨rfl, rfl⟩
  | some p =>
    obtain ⟨n, next⟩ := p
    obtain ⟨h0, h1, h2, hx1, hx2, hn, hx3⟩ := getF_le hg
    have hn' : n < 65536 := by simpa using hn
    obtain ⟨next, rfl⟩ := Int.eq_ofNat_of_zero_le (show 0 ≤ next by omega)
    have HG := Lib.hid hg
    clear hg hn h1 hx1 hx2 hx3
    by_cases hle : (next : Int) + n ≤ s.size
    · have hth : thereB s next n = true := by simp [thereB]; omega
      have HT := Lib.hid hth
      clear hth
      simp only [hle, if_true]
      go_enter Try.func48, Try.ntmps48
      go_wp2_with fail
      refine (get_any _ _ _ hs' _).mono ?_
      rintro e w' ⟨rfl, rfl⟩
      rw [HG.out]
      simp only [getV]
      go_wp2_with fail
      refine (there_calls s next n hs' _).mono ?_
      rintro e w' ⟨rfl, rfl⟩
      rw [HT.out]
      go_wp2
      go_ret3
      exact ⟨by rw [getTextV, ← text_extract s next n]; rfl, rfl⟩
    · have hth : thereB s next n = false := by simp [thereB]; omega
      have HT := Lib.hid hth
      clear hth
      simp only [hle, if_false]
      go_enter Try.func48, Try.ntmps48
      go_wp2_with fail
      refine (get_any _ _ _ hs' _).mono ?_
      rintro e w' ⟨rfl, rfl⟩
      rw [HG.out]
      simp only [getV]
      go_wp2_with fail
      refine (there_calls s next n hs' _).mono ?_
      rintro e w' ⟨rfl, rfl⟩
      rw [HT.out]
      go_wp2
      go_ret3
      exact ⟨rfl, rfl⟩
end Go.Proofs.Ytgjgjhikimnknaa
