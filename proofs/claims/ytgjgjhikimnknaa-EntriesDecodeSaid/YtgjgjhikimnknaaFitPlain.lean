/- Plain facts on a number's bytes: they rise as the numbers do, and are none just if the number does not fit. -/
import Derived.Test.YtgjgjhikimnknaaText
import Derived.WalkLawsBesides
set_option linter.unusedVariables false
set_option linter.unusedSimpArgs false
namespace Go.Proofs.Ytgjgjhikimnknaa
open Go.RowKit

theorem toList_ls (s : ByteArray) : s.toList = ls s := ByteArray.toList_eq s

theorem be_lt_aux (n m k : Nat) (hn : n < 256 ^ (k + 1)) (hm : m < 256 ^ (k + 1)) :
    n / 256 ^ k < 256 ∧ m / 256 ^ k < 256 ∧ n = (n / 256 ^ k) * 256 ^ k + n % 256 ^ k ∧ m = (m / 256 ^ k) * 256 ^ k + m % 256 ^ k ∧ n % 256 ^ k < 256 ^ k ∧ m % 256 ^ k < 256 ^ k := by
  have hp : 0 < 256 ^ k := Nat.pow_pos (by omega)
  rw [Nat.pow_succ] at hn hm
  refine ⟨Nat.div_lt_of_lt_mul (by rw [Nat.mul_comm]; omega), Nat.div_lt_of_lt_mul (by rw [Nat.mul_comm]; omega), ?_, ?_, Nat.mod_lt _ hp, Nat.mod_lt _ hp⟩
  · rw [Nat.mul_comm]; exact (Nat.div_add_mod n _).symm
  · rw [Nat.mul_comm]; exact (Nat.div_add_mod m _).symm

theorem be_mod (n : Nat) : ∀ k K : Nat, k ≤ K → be k (n % 256 ^ K) = be k n
  | 0, _, _ => rfl
  | k + 1, K, h => by
    simp only [be]
    rw [be_mod n k K (by omega)]
    congr 1
    obtain ⟨d, rfl⟩ : ∃ d, K = k + 1 + d := ⟨K - (k + 1), by omega⟩
    have e1 : 256 ^ (k + 1 + d) = 256 ^ k * (256 * 256 ^ d) := by rw [Nat.pow_add, Nat.pow_succ, Nat.mul_assoc]
    have : n % 256 ^ (k + 1 + d) / 256 ^ k % 256 = n / 256 ^ k % 256 := by
      rw [e1, Nat.mod_mul_right_div_self, Nat.mod_mul_right_mod]
    apply UInt8.toNat_inj.mp
    simpa using this

theorem be_inj {n m : Nat} : ∀ {k : Nat}, n < 256 ^ k → m < 256 ^ k → be k n = be k m → n = m
  | 0, hn, hm, _ => by simp at hn hm; omega
  | k + 1, hn, hm, h => by
    obtain ⟨a1, a2, a3, a4, a5, a6⟩ := be_lt_aux n m k hn hm
    simp only [be, List.cons.injEq] at h
    have h1 : n / 256 ^ k = m / 256 ^ k := by
      have := congrArg UInt8.toNat h.1
      simpa [Nat.mod_eq_of_lt a1, Nat.mod_eq_of_lt a2] using this
    have h2 : n % 256 ^ k = m % 256 ^ k := be_inj a5 a6 (by rw [be_mod n k k (Nat.le_refl _), be_mod m k k (Nat.le_refl _)]; exact h.2)
    rw [a3, a4, h1, h2]

theorem be_less {n m : Nat} : ∀ {k : Nat}, n < 256 ^ k → m < 256 ^ k → Op.bytesLess (be k n) (be k m) = decide (n < m)
  | 0, hn, hm => by simp at hn hm; subst hn hm; rfl
  | k + 1, hn, hm => by
    obtain ⟨a1, a2, a3, a4, a5, a6⟩ := be_lt_aux n m k hn hm
    have ih := be_less (k := k) a5 a6
    rw [be_mod n k k (Nat.le_refl _), be_mod m k k (Nat.le_refl _)] at ih
    simp only [be, Op.bytesLess, ih]
    have e1 : (UInt8.ofNat (n / 256 ^ k) < UInt8.ofNat (m / 256 ^ k)) ↔ n / 256 ^ k < m / 256 ^ k := by
      rw [UInt8.lt_iff_toNat_lt]; simp [Nat.mod_eq_of_lt a1, Nat.mod_eq_of_lt a2]
    have e2 : (UInt8.ofNat (n / 256 ^ k) = UInt8.ofNat (m / 256 ^ k)) ↔ n / 256 ^ k = m / 256 ^ k := by
      rw [← UInt8.toNat_inj]; simp [Nat.mod_eq_of_lt a1, Nat.mod_eq_of_lt a2]
    generalize n / 256 ^ k = p at *
    generalize m / 256 ^ k = q at *
    generalize n % 256 ^ k = r at *
    generalize m % 256 ^ k = t at *
    generalize 256 ^ k = B at *
    rw [Bool.eq_iff_iff]
    simp only [Bool.or_eq_true, decide_eq_true_eq, e1, Bool.and_eq_true, beq_iff_eq, e2]
    constructor
    · rintro (h | ⟨h1, h2⟩)
      · have : (p + 1) * B ≤ q * B := Nat.mul_le_mul_right _ h
        rw [Nat.add_mul] at this
        omega
      · subst h1; omega
    · intro h
      rcases Nat.lt_trichotomy p q with h1 | h1 | h1
      · exact Or.inl h1
      · subst h1; exact Or.inr ⟨rfl, by omega⟩
      · have : (q + 1) * B ≤ p * B := Nat.mul_le_mul_right _ h1
        rw [Nat.add_mul] at this
        omega

/-- What the law asks of the bytes of two numbers of one size b below 8; B: what so many bytes say. -/
structure Fits (n m : Int) (b : Nat) (B : Int) (sa sb : ByteArray) : Prop where
  neg : n < 0 → sa.toList = []
  emp : 0 ≤ n → sa.toList.isEmpty = !decide (n < B)
  len : 0 ≤ n → n < B → sa.size = b
  none : 0 ≤ n → ¬ n < B → sa.toList = []
  empb : ¬ sb.toList = [] → 0 ≤ m ∧ m < B
  less : 0 ≤ n → n < B → ¬ sb.toList = [] → Op.bytesLess sa.toList sb.toList = decide (n < m)
  same : 0 ≤ n → n < B → ¬ sb.toList = [] → (sa.toList == sb.toList) = (n == m)

theorem putF_list (n : Int) (b : Nat) : (putF n b).toList = if fitsB n b then be b n.toNat else [] := by
  rw [toList_ls]; unfold putF; split <;> rfl
theorem be_ne {b n : Nat} (h : 1 ≤ b) : be b n ≠ [] := by
  intro h'; have := congrArg List.length h'; rw [be_length] at this; simp at this; omega

theorem fits_of (n m : Int) (b : Nat) (B : Int) (hb : sizeB b = true) (h8 : b < 8) (hB : B = ((256 ^ b : Nat) : Int)) : Fits n m b B (putF n b) (putF m b) := by
  have hr := sizeB_range hb
  have hf : ∀ x : Int, fitsB x b = (decide (0 ≤ x) && decide (x < B)) := by
    intro x
    have e : decide ((8 : Int) ≤ b) = false := by simp; omega
    subst hB
    by_cases h0 : 0 ≤ x
    · obtain ⟨x, rfl⟩ := Int.eq_ofNat_of_zero_le h0
      have : ((x : Int) < ((256 ^ b : Nat) : Int)) ↔ x < 256 ^ b := by omega
      simp only [fitsB, hb, e, h0, Int.toNat_natCast, this, decide_true, Bool.true_and, Bool.false_or]
    · have : decide (0 ≤ x) = false := by simpa using h0
      simp [fitsB, this]
  have hlt : ∀ x : Int, 0 ≤ x → x < B → x.toNat < 256 ^ b := fun x h0 h1 => by omega
  have hne : ∀ x : Int, ¬ (putF x b).toList = [] → 0 ≤ x ∧ x < B := fun x h => by
    rw [putF_list, hf] at h
    by_cases h1 : decide (0 ≤ x) && decide (x < B)
    · simpa using h1
    · simp [h1] at h
  have hyes : ∀ x : Int, 0 ≤ x → x < B → (putF x b).toList = be b x.toNat := fun x h0 h1 => by
    rw [putF_list, hf]; simp [h0, h1]
  have hno : ∀ x : Int, ¬ (0 ≤ x ∧ x < B) → (putF x b).toList = [] := fun x h => by
    rw [putF_list, hf]
    have : (decide (0 ≤ x) && decide (x < B)) = false := by simp; omega
    rw [this]; rfl
  refine ⟨fun h => hno n (by omega), fun h => ?_, fun h0 h1 => ?_, fun h0 h1 => hno n (by omega), hne m, fun h0 h1 h2 => ?_, fun h0 h1 h2 => ?_⟩
  · by_cases h1 : n < B
    · rw [hyes n h h1]
      have := be_ne (b := b) (n := n.toNat) (by omega)
      simp [h1, this]
    · rw [hno n (by omega)]; simp [h1]
  · have e : (putF n b).size = (putF n b).toList.length := by rw [toList_ls, ls_length]
    rw [e, hyes n h0 h1, be_length]
  · obtain ⟨h3, h4⟩ := hne m h2
    rw [hyes n h0 h1, hyes m h3 h4, be_less (hlt n h0 h1) (hlt m h3 h4)]
    congr 1
    simp; omega
  · obtain ⟨h3, h4⟩ := hne m h2
    rw [hyes n h0 h1, hyes m h3 h4, Bool.eq_iff_iff]
    simp only [beq_iff_eq]
    constructor
    · intro h; have := be_inj (hlt n h0 h1) (hlt m h3 h4) h; omega
    · rintro rfl; rfl
end Go.Proofs.Ytgjgjhikimnknaa
