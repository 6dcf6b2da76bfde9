/- Plain facts: what was written is read, whatever stands ahead of it and behind. -/
import Derived.Test.YtgjgjhikimnknaaFitPlain
import Derived.Test.YtgjgjhikimnknaaHash
set_option linter.unusedVariables false
set_option linter.unusedSimpArgs false
namespace Go.Proofs.Ytgjgjhikimnknaa
open Go.RowKit

theorem size_mkS (l : List UInt8) : (mkS l).size = l.length := rfl
theorem sub_mid (A M C : List UInt8) : sub (mkS (A ++ (M ++ C))) A.length M.length = M := by
  unfold sub
  rw [ls_mkS]
  simp only [Int.toNat_natCast]
  rw [List.drop_left, List.take_left]
theorem bv_be (n : Nat) : ∀ b : Nat, n < 256 ^ b → bv (be b n) = n
  | 0, h => by simp at h; subst h; rfl
  | b + 1, h => by
    have hp : 0 < 256 ^ b := Nat.pow_pos (by omega)
    have h1 : n / 256 ^ b < 256 := Nat.div_lt_of_lt_mul (by rw [Nat.pow_succ] at h; omega)
    have ih := bv_be (n % 256 ^ b) b (Nat.mod_lt _ hp)
    rw [be_mod n b b (Nat.le_refl _)] at ih
    simp only [be]
    rw [bv_cons, be_length, ih]
    have : (UInt8.ofNat (n / 256 ^ b)).toNat = n / 256 ^ b := by simp [Nat.mod_eq_of_lt h1]
    rw [this, Nat.mul_comm]
    exact Nat.div_add_mod n _

theorem get_back (A C : List UInt8) (n b : Nat) (hb : sizeB b = true) (hn : n < 256 ^ b) (h63 : n < 9223372036854775808) :
    getF (mkS (A ++ (be b n ++ C))) A.length b = some (n, (A.length : Int) + b) := by
  have hs : sub (mkS (A ++ (be b n ++ C))) A.length b = be b n := by
    have := sub_mid A (be b n) C
    rwa [be_length] at this
  have ht : thereB (mkS (A ++ (be b n ++ C))) A.length b = true := by
    simp [thereB, size_mkS, be_length]; omega
  unfold getF
  rw [hb, ht, hs, bv_be n b hn]
  simp [h63]

theorem text_back (A T C : List UInt8) (hT : T.length ≤ 65535) :
    getTextF (mkS (A ++ (be 2 T.length ++ (T ++ C)))) A.length = some (T, (A.length : Int) + 2 + T.length) := by
  have h := get_back A (T ++ C) T.length 2 rfl (by omega) (by omega)
  have h' : getF (mkS (A ++ (be 2 T.length ++ (T ++ C)))) A.length 2 = some (T.length, (A.length : Int) + 2) := h
  unfold getTextF
  rw [h']
  have hsz : (mkS (A ++ (be 2 T.length ++ (T ++ C)))).size = A.length + 2 + T.length + C.length := by simp [size_mkS, be_length]; omega
  have hs : sub (mkS (A ++ (be 2 T.length ++ (T ++ C)))) ((A.length : Int) + 2) T.length = T := by
    have := sub_mid (A ++ be 2 T.length) T C
    rw [List.append_assoc, List.length_append, be_length] at this
    exact this
  simp only [hsz, hs]
  rw [if_pos (by omega)]

theorem hash_back' (A H C : List UInt8) (hH : H.length = 32) :
    getHashV (mkS (A ++ (H ++ C))) A.length = .tuple #[arr H, .int .i64 ((A.length : Int) + 32), .bool true] := by
  have ht : thereB (mkS (A ++ (H ++ C))) A.length 32 = true := by
    simp [thereB, size_mkS]; omega
  have hs : sub (mkS (A ++ (H ++ C))) A.length 32 = H := by
    have := sub_mid A H C
    rw [hH] at this
    exact this
  unfold getHashV
  rw [ht, hs]
  rfl

/-- Texts, one behind the other. -/
def textsL (l : List ByteArray) : List UInt8 := l.flatMap fun t => be 2 t.size ++ ls t
theorem textsL_take_succ (ss : List ByteArray) (k : Nat) (h : k < ss.length) : textsL (ss.take (k + 1)) = textsL (ss.take k) ++ (be 2 ss[k].size ++ ls ss[k]) := by
  rw [List.take_succ_eq_append_getElem h]
  unfold textsL
  rw [List.flatMap_append]
  simp only [List.flatMap_cons, List.flatMap_nil, List.append_nil]
theorem textsL_split (ss : List ByteArray) (k : Nat) (h : k < ss.length) : textsL ss = textsL (ss.take k) ++ (be 2 ss[k].size ++ (ls ss[k] ++ textsL (ss.drop (k + 1)))) := by
  conv => lhs; rw [← List.take_append_drop (k + 1) ss]
  have : textsL (ss.take (k + 1) ++ ss.drop (k + 1)) = textsL (ss.take (k + 1)) ++ textsL (ss.drop (k + 1)) := by unfold textsL; rw [List.flatMap_append]
  rw [this, textsL_take_succ ss k h]
  simp
theorem texts_read (ss : List ByteArray) (k : Nat) (h : k < ss.length) (hs : ss[k].size ≤ 65535) :
    getTextF (mkS (textsL ss)) (textsL (ss.take k)).length = some (ls ss[k], ((textsL (ss.take (k + 1))).length : Int)) := by
  have := text_back (textsL (ss.take k)) (ls ss[k]) (textsL (ss.drop (k + 1))) hs
  rw [textsL_split ss k h, textsL_take_succ ss k h]
  rw [ls_length] at this
  rw [this]
  simp [be_length, ls_length]
  omega
theorem textsL_le (ss : List ByteArray) (B : Nat) (h : ∀ s ∈ ss, s.size ≤ B) : (textsL ss).length ≤ ss.length * (B + 2) := by
  induction ss with
  | nil => simp [textsL]
  | cons s ss ih =>
    have h1 := h s (by simp)
    have h2 := ih (fun x hx => h x (by simp [hx]))
    have : textsL (s :: ss) = (be 2 s.size ++ ls s) ++ textsL ss := by simp [textsL]
    rw [this]
    simp [be_length, ls_length, Nat.add_mul] at *
    omega
end Go.Proofs.Ytgjgjhikimnknaa
