/- Plain facts on entries: when two are the same; what stands at a place of a text, and what a reader reads there; what is encoded is decoded, what is decoded is encoded. -/
import Derived.Test.YtgjgjhikimnknaaRowKit
set_option linter.unusedVariables false
set_option linter.unusedSimpArgs false
namespace Go.Proofs.Ytgjgjhikimnknaa
open Go.RowKit

theorem be_bv (l : List UInt8) : be l.length (bv l) = l := by
  induction l with
  | nil => rfl
  | cons c l ih =>
    have h := bv_lt l
    have hp : 0 < 256 ^ l.length := Nat.pow_pos (by omega)
    have h1 : bv (c :: l) / 256 ^ l.length = c.toNat := by
      rw [bv_cons, Nat.mul_comm, Nat.mul_add_div hp, Nat.div_eq_of_lt h]; omega
    have h2 : bv (c :: l) % 256 ^ l.length = bv l := by
      rw [bv_cons, Nat.mul_comm, Nat.mul_add_mod, Nat.mod_eq_of_lt h]
    simp only [List.length_cons, be, h1]
    rw [← be_mod (bv (c :: l)) l.length l.length (Nat.le_refl _), h2, ih]
    simp

/-! ### The same -/
theorem toList_inj {a b : ByteArray} (h : a.toList = b.toList) : a = b := by
  rw [toList_ls, toList_ls] at h
  rw [← mkS_ls a, ← mkS_ls b, h]
theorem entEq_iff {e f : Ent} (he : e.hash.length = 32) (hf : f.hash.length = 32) : entEq e f = true ↔ e = f := by
  constructor
  · intro h
    simp only [entEq, Bool.and_eq_true, beq_iff_eq, h32_of _ he, h32_of _ hf] at h
    obtain ⟨h1, h2, h3, h4, h5, h6, h7, _⟩ := h
    cases e; cases f
    simp only at *
    obtain rfl := toList_inj h5
    obtain ⟨h8, h9, _⟩ := h7
    subst h1 h2 h3 h4 h6 h8 h9
    rfl
  · rintro rfl
    simp [entEq]
theorem entEq_zero {e : Ent} (he : e.hash.length = 32) : entEq e ent0 = true ↔ e = { ent0 with hash := zeros 32 } := by
  have h0 : entEq e ent0 = entEq e { ent0 with hash := zeros 32 } := rfl
  rw [h0, entEq_iff he rfl]
theorem sameB_iff : ∀ {l m : List Ent}, (∀ e ∈ l, e.hash.length = 32) → (∀ e ∈ m, e.hash.length = 32) → (sameB l m = true ↔ l = m)
  | [], [], _, _ => by simp [sameB]
  | [], _ :: _, _, _ => by simp [sameB]
  | _ :: _, [], _, _ => by simp [sameB]
  | e :: l, f :: m, h1, h2 => by
    have ih := sameB_iff (l := l) (m := m) (fun x hx => h1 x (by simp [hx])) (fun x hx => h2 x (by simp [hx]))
    unfold sameB
    rw [Bool.and_eq_true, entEq_iff (h1 e (by simp)) (h2 f (by simp)), ih, List.cons.injEq]
theorem sameB_self (l : List Ent) (h : ∀ e ∈ l, e.hash.length = 32) : sameB l l = true := (sameB_iff h h).2 rfl

/-! ### What stands at a place -/
structure Reads (s : ByteArray) (a : Int) (l : List UInt8) (x : Int) : Prop where
  lo : 0 ≤ a
  eq : x = a + l.length
  hi : x ≤ s.size
  bytes : sub s a l.length = l
theorem Reads.nil {s : ByteArray} {a : Int} (h0 : 0 ≤ a) (h1 : a ≤ s.size) : Reads s a [] a := ⟨h0, by simp, h1, by simp [sub]⟩
theorem sub_cat (s : ByteArray) (a n m : Nat) : sub s a ((n + m : Nat) : Int) = sub s a n ++ sub s ((a : Int) + n) m := by
  have e : ((a : Int) + n).toNat = a + n := by omega
  unfold sub
  rw [e]
  simp only [Int.toNat_natCast]
  rw [List.take_add, List.drop_drop]
theorem Reads.cat {s : ByteArray} {a x y : Int} {l m : List UInt8} (h : Reads s a l x) (k : Reads s x m y) : Reads s a (l ++ m) y := by
  obtain ⟨h1, rfl, h3, h4⟩ := h
  obtain ⟨k1, rfl, k3, k4⟩ := k
  obtain ⟨a, rfl⟩ := Int.eq_ofNat_of_zero_le h1
  refine ⟨h1, by rw [List.length_append]; omega, k3, ?_⟩
  rw [List.length_append, sub_cat, h4, k4]
theorem Reads.split {s : ByteArray} {a y : Int} {l m : List UInt8} (h : Reads s a (l ++ m) y) : Reads s a l (a + l.length) ∧ Reads s (a + l.length) m y := by
  obtain ⟨h1, h2, h3, h4⟩ := h
  obtain ⟨a, rfl⟩ := Int.eq_ofNat_of_zero_le h1
  rw [List.length_append] at h2 h4
  rw [sub_cat] at h4
  have hl : (sub s a l.length).length = l.length := sub_length s a _ (by omega)
  obtain ⟨e1, e2⟩ := List.append_inj h4 hl
  exact ⟨⟨h1, rfl, by omega, e1⟩, ⟨by omega, by omega, h3, e2⟩⟩
theorem Reads.inj {s : ByteArray} {a x : Int} {l m : List UInt8} (h : Reads s a l x) (k : Reads s a m x) : l = m := by
  have : (l.length : Int) = m.length := by have := h.eq; have := k.eq; omega
  rw [← h.bytes, ← k.bytes, this]
theorem Reads.mid (A M C : List UInt8) : Reads (mkS (A ++ (M ++ C))) A.length M ((A.length : Int) + M.length) :=
  ⟨by omega, rfl, by simp [size_mkS]; omega, sub_mid A M C⟩
theorem Reads.whole {s : ByteArray} {l : List UInt8} (h : Reads s 0 l s.size) : ls s = l := by
  have h2 := h.eq
  have h4 := h.bytes
  have e : (l.length : Int).toNat = (ls s).length := by rw [ls_length]; omega
  unfold sub at h4
  rw [e] at h4
  simpa using h4

/-! ### A number, a text, a hash -/
theorem putL_fits {n : Int} {b : Nat} (h : fitsB n b = true) : putL n b = be b n.toNat := by
  unfold putL putF
  rw [if_pos h]
  rfl
theorem num_reads {s : ByteArray} {a : Int} {b : Nat} (h : numOk s a b = true) : Reads s a (putL (numN s a b) b) (numA s a b) ∧ fitsB (numN s a b) b = true ∧ (putL (numN s a b) b).length = b := by
  unfold numOk at h
  unfold numN numA
  cases hg : getF s a b with
  | none => rw [hg] at h; cases h
  | some p =>
    obtain ⟨n, x⟩ := p
    obtain ⟨h0, h1, h2, h3, h4, h5, h6⟩ := getF_le hg
    have hf : fitsB (n : Int) b = true := by simp [fitsB, h3]; right; simpa using h5
    obtain ⟨a, rfl⟩ := Int.eq_ofNat_of_zero_le h0
    have hl := sub_length s a b (by omega)
    have hb := be_bv (sub s a b)
    rw [hl] at hb
    show Reads s a (putL n b) x ∧ fitsB (n : Int) b = true ∧ (putL n b).length = b
    have hp : putL (n : Int) b = be b n := by rw [putL_fits hf]; rfl
    rw [hp]
    refine ⟨⟨h0, by rw [be_length]; exact h1, h2, ?_⟩, hf, be_length _ _⟩
    rw [be_length, h4]
    exact hb.symm
theorem reads_num {s : ByteArray} {a n x : Int} {b : Nat} (hf : fitsB n b = true) (hn : n ≤ 9223372036854775807) (h : Reads s a (putL n b) x) : numOk s a b = true ∧ numN s a b = n ∧ numA s a b = x := by
  have hb : sizeB b = true := by simp only [fitsB, Bool.and_eq_true] at hf; exact hf.1
  have hfl : (decide ((8 : Int) ≤ b) || decide (n.toNat < 256 ^ (b : Int).toNat)) = true := by simp only [fitsB, Bool.and_eq_true] at hf; exact hf.2.2
  have h0 : 0 ≤ n := by simp only [fitsB, Bool.and_eq_true, decide_eq_true_eq] at hf; exact hf.2.1
  rw [putL_fits hf] at h
  obtain ⟨h1, h2, h3, h4⟩ := h
  rw [be_length] at h2 h4
  have hlt : n.toNat < 256 ^ b := by
    have hr := sizeB_range hb
    rcases Bool.or_eq_true _ _ ▸ hfl with h | h
    · have h8 : b = 8 := by have := of_decide_eq_true h; omega
      subst h8
      have : (256 : Nat) ^ 8 = 18446744073709551616 := by decide
      omega
    · simpa using of_decide_eq_true h
  have hbv : bv (be b n.toNat) = n.toNat := bv_be n.toNat b hlt
  have ht : thereB s a b = true := by simp [thereB]; omega
  have hg : getF s a b = some (n.toNat, a + b) := by
    unfold getF
    rw [hb, ht, h4, hbv, if_pos (by decide), if_pos (by omega)]
  unfold numOk numN numA
  rw [hg]
  exact ⟨rfl, by show ((n.toNat : Nat) : Int) = n; omega, h2.symm⟩
theorem textL_short {t : ByteArray} (h : t.size ≤ 65535) : textL t = be 2 t.size ++ ls t := by
  unfold textL putTextF
  rw [if_pos h]
theorem text_reads {s : ByteArray} {a : Int} (h : textOk s a = true) : Reads s a (textL (textN s a)) (textA s a) := by
  unfold textOk at h
  unfold textN textA
  cases hg : getTextF s a with
  | none => rw [hg] at h; cases h
  | some p =>
    obtain ⟨l, x⟩ := p
    unfold getTextF at hg
    cases hq : getF s a 2 with
    | none => rw [hq] at hg; cases hg
    | some q =>
      obtain ⟨n, y⟩ := q
      rw [hq] at hg
      simp only at hg
      split at hg
      · rename_i hle
        injection hg with hg
        injection hg with e1 e2
        have hok : numOk s a (2 : Nat) = true := by unfold numOk; rw [show ((2 : Nat) : Int) = 2 from rfl, hq]; rfl
        obtain ⟨r1, r2, r3⟩ := num_reads hok
        have eN : numN s a (2 : Nat) = n := by unfold numN; rw [show ((2 : Nat) : Int) = 2 from rfl, hq]
        have eA : numA s a (2 : Nat) = y := by unfold numA; rw [show ((2 : Nat) : Int) = 2 from rfl, hq]
        rw [eN, eA] at r1
        rw [eN] at r2
        have hy : 0 ≤ y := by have := r1.lo; have := r1.eq; omega
        obtain ⟨y', rfl⟩ := Int.eq_ofNat_of_zero_le hy
        have hll : l.length = n := by rw [← e1]; exact sub_length s y' n (by omega)
        have hn : n ≤ 65535 := by
          have := (getF_le hq).2.2.2.2.2.1
          simp at this
          omega
        show Reads s a (textL (mkS l)) x
        rw [textL_short (by rw [size_mkS]; omega), size_mkS, ls_mkS, hll]
        rw [putL_fits r2] at r1
        simp only [Int.toNat_natCast] at r1
        refine r1.cat ⟨hy, by rw [hll]; exact e2.symm, by omega, by rw [hll]; exact e1⟩
      · cases hg
theorem reads_text {s t : ByteArray} {a x : Int} (ht : t.size ≤ 65535) (h : Reads s a (textL t) x) : textOk s a = true ∧ textN s a = t ∧ textA s a = x := by
  rw [textL_short ht] at h
  obtain ⟨h1, h2⟩ := h.split
  rw [be_length] at h1 h2
  have hf : fitsB (t.size : Int) (2 : Nat) = true := by simp [fitsB, sizeB]; omega
  have hp : putL (t.size : Int) (2 : Nat) = be 2 t.size := by rw [putL_fits hf]; rfl
  rw [← hp] at h1
  obtain ⟨k1, k2, k3⟩ := reads_num hf (by omega) h1
  have hg : getF s a 2 = some (t.size, a + 2) := by
    unfold numOk at k1
    unfold numN at k2
    unfold numA at k3
    rw [show ((2 : Nat) : Int) = 2 from rfl] at k1 k2 k3
    cases hq : getF s a 2 with
    | none => rw [hq] at k1; cases k1
    | some q =>
      obtain ⟨n, y⟩ := q
      rw [hq] at k2 k3
      simp only at k2 k3
      rw [show n = t.size from by omega, k3]
  obtain ⟨g1, g2, g3, g4⟩ := h2
  rw [ls_length] at g2 g4
  have hg' : getTextF s a = some (ls t, x) := by
    unfold getTextF
    rw [hg]
    simp only
    rw [if_pos (by omega), show ((a : Int) + 2) = a + (2 : Nat) from rfl, g4, ← g2]
  unfold textOk textN textA
  rw [hg']
  exact ⟨rfl, mkS_ls t, rfl⟩
theorem hash_reads {s : ByteArray} {a : Int} (h : thereB s a 32 = true) : Reads s a (hashN s a) (hashA s a) := by
  have hl := hashN_length s a
  have h' := h
  simp [thereB] at h'
  refine ⟨by omega, ?_, ?_, ?_⟩
  · rw [hl]; unfold hashA; rw [if_pos h]; rfl
  · unfold hashA; rw [if_pos h]; omega
  · rw [hl]; unfold hashN; rw [if_pos h]; rfl
theorem reads_hash {s : ByteArray} {a x : Int} {l : List UInt8} (hl : l.length = 32) (h : Reads s a l x) : thereB s a 32 = true ∧ hashN s a = l ∧ hashA s a = x := by
  obtain ⟨h1, h2, h3, h4⟩ := h
  rw [hl] at h2 h4
  have ht : thereB s a 32 = true := by simp [thereB]; omega
  refine ⟨ht, ?_, ?_⟩
  · unfold hashN; rw [if_pos ht]; exact h4
  · unfold hashA; rw [if_pos ht, h2]; rfl
end Go.Proofs.Ytgjgjhikimnknaa
