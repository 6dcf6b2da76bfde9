/- What the reference's Decode tells is what entries.Decode tells: plain. -/
import Derived.Test.YtgjgjhikimnknaaRef15g
set_option linter.unusedVariables false
set_option linter.unusedSimpArgs false
namespace Go.Proofs.Ytgjgjhikimnknaa
open Go.RowKit

theorem numG_of {s : ByteArray} {a n x : Int} {b : Nat} (hf : fitsB n b = true) (hn : n ≤ 9223372036854775807) (h : Reads s a (putL n b) x) : numG s a b = n := by
  obtain ⟨h1, h2, _⟩ := reads_num hf hn h
  unfold numG
  rw [h1, if_pos rfl, h2]
theorem Reads.at {s : ByteArray} {a b x : Int} {l : List UInt8} (h : Reads s a l x) (e : a = b) : Reads s b l x := by subst e; exact h
theorem putL_len_of {n : Int} {b : Nat} (hf : fitsB n b = true) : (putL n b).length = b := by rw [putL_fits hf, be_length]
theorem readE_of {s : ByteArray} {e : Ent} {a y : Int} (he : e.hash.length = 32) (hc : checkB e = true) (h : Reads s a (entBytes e) y) : readE s a = e := by
  have hw := check_whole hc he
  have hp := (check_parts hc).1
  have hk := check_kind hc
  obtain ⟨h1, h2⟩ := h.split
  have hK := numG_of (b := 1) (fits1 (by omega) (by omega)) (by omega) h1
  rw [show ((1 : Nat) : Int) = 1 from rfl] at hK
  have l1 : (putL e.kind 1).length = 1 := putL_len_of (b := 1) (fits1 (by omega) (by omega))
  rw [l1] at h2
  unfold readE
  rw [hK]
  obtain ⟨k, st, n, l, nm, hs, sta, c⟩ := e
  simp only at he hk hp h2 hw
  -- the fields, one by one
  have stream : ∀ rest y, stepOk ⟨k, st, n, l, nm, hs, sta, c⟩ 0 = true → Reads s (a + (1 : Nat)) (putL st 1 ++ rest) y → numG s (a + 1) 1 = st ∧ Reads s (a + 2) rest y := fun rest y h0 hr => by
    obtain ⟨q0, q1⟩ := within_iff.1 (show withinB st 7 = true from h0)
    obtain ⟨r1, r2⟩ := hr.split
    have hf := fits1 (n := st) q0 (by omega)
    have := numG_of (b := 1) hf (by omega) r1
    rw [show (putL st 1).length = 1 from putL_len_of (b := 1) hf] at r2
    exact ⟨this, r2.at (by omega)⟩
  have number : ∀ rest y, stepOk ⟨k, st, n, l, nm, hs, sta, c⟩ 1 = true → Reads s (a + 2) (putL n 4 ++ rest) y → numG s (a + 2) 4 = n ∧ Reads s (a + 6) rest y := fun rest y h0 hr => by
    obtain ⟨q0, q1⟩ := within_iff.1 (show withinB n (mostN k) = true from h0)
    have q2 : n ≤ 1073741824 := by unfold mostN at q1; split at q1 <;> omega
    obtain ⟨r1, r2⟩ := hr.split
    have hf := fits4 (n := n) q0 (by omega)
    have := numG_of (b := 4) hf (by omega) r1
    rw [show (putL n 4).length = 4 from putL_len_of (b := 4) hf] at r2
    exact ⟨this, r2.at (by omega)⟩
  have name : ∀ b y, stepOk ⟨k, st, n, l, nm, hs, sta, c⟩ 2 = true → Reads s b (textL nm ++ []) y → textN s b = nm := fun b y h0 hr => by
    have h1 : nm.size ≤ 12 := by
      have : nameOk nm = true := h0
      simp [nameOk] at this
      omega
    rw [List.append_nil] at hr
    exact (reads_text (by omega) hr).2.1
  rcases kind_cases k with rfl | rfl | rfl | rfl | rfl | rfl | ⟨b1, b2, b3, b4, b5, b6⟩
  · have hn := name _ _ (hp 2 (by decide)) h2
    rw [if_pos rfl]
    rw [← hw]
    show (⟨1, 0, 0, 0, textN s (a + 1), zeros 32, 0, 0⟩ : Ent) = ⟨1, 0, 0, 0, nm, zeros 32, 0, 0⟩
    rw [show textN s (a + 1) = nm from hn]
  · obtain ⟨s1, r1⟩ := stream _ _ (hp 0 (by decide)) h2
    obtain ⟨s2, r2⟩ := number _ _ (hp 1 (by decide)) r1
    have h3 : (withinB l 300 && (withinB sta 512 && (decide (0 < c) && withinB c (512 - sta)))) = true := hp 3 (by decide)
    simp only [Bool.and_eq_true, within_iff] at h3
    obtain ⟨⟨a1, a2⟩, ⟨a3, a4⟩, a5, a6, a7⟩ := h3
    have r2 : Reads s (a + 6) ((((putL l 2 ++ hs) ++ putL sta 2) ++ putL c 2) ++ []) y := r2
    rw [List.append_nil] at r2
    obtain ⟨r5, r6⟩ := r2.split
    obtain ⟨r4, r5⟩ := r5.split
    obtain ⟨r3, r4⟩ := r4.split
    have f1 := fits2 (n := l) a1 (by omega)
    have f2 := fits2 (n := sta) a3 (by omega)
    have f3 := fits2 (n := c) (by omega) (by omega)
    have z1 : (putL l 2).length = 2 := putL_len_of (b := 2) f1
    have z2 : (putL sta 2).length = 2 := putL_len_of (b := 2) f2
    simp only [List.length_append, z1, z2, he] at r4 r5 r6
    have n1 := numG_of (b := 2) f1 (by omega) r3
    have n2 := (reads_hash he (r4.at (b := a + 8) (by omega))).2.1
    have n3 := numG_of (b := 2) f2 (by omega) (r5.at (b := a + 40) (by omega))
    have n4 := numG_of (b := 2) f3 (by omega) (r6.at (b := a + 42) (by omega))
    rw [show ((2 : Nat) : Int) = 2 from rfl] at n1 n3 n4
    rw [if_neg (by simp), if_neg (by simp), if_neg (by simp), if_pos rfl, s1, s2, n1, n2, n3, n4, ← hw]
    rfl
  · obtain ⟨s1, r1⟩ := stream _ _ (hp 0 (by decide)) h2
    obtain ⟨s2, r2⟩ := number _ _ (hp 1 (by decide)) r1
    rw [if_neg (by simp), if_neg (by simp), if_pos (by simp), s1, s2, ← hw]
    rfl
  · obtain ⟨s1, r1⟩ := stream _ _ (hp 0 (by decide)) h2
    have hn := name _ _ (hp 2 (by decide)) r1
    rw [if_neg (by simp), if_pos (by simp), s1, hn, ← hw]
    rfl
  · obtain ⟨s1, r1⟩ := stream _ _ (hp 0 (by decide)) h2
    have hn := name _ _ (hp 2 (by decide)) r1
    rw [if_neg (by simp), if_pos (by simp), s1, hn, ← hw]
    rfl
  · obtain ⟨s1, r1⟩ := stream _ _ (hp 0 (by decide)) h2
    obtain ⟨s2, r2⟩ := number _ _ (hp 1 (by decide)) r1
    rw [if_neg (by simp), if_neg (by simp), if_pos (by simp), s1, s2, ← hw]
    rfl
  · omega
def refL (s : ByteArray) : Nat → Int → Option (List Ent)
  | 0, _ => some []
  | n + 1, a => if checkB (readE s a) then (refL s n (a + (entBytes (readE s a)).length)).map fun l => readE s a :: l else none
def refDec (s : ByteArray) : Option (List Ent) :=
  if numG s 0 2 < 0 then none else match refL s (numG s 0 2).toNat 2 with
  | none => none
  | some l => if encF l = (ls s, 0) then some l else none
theorem readE_hash (s : ByteArray) (a : Int) : (readE s a).hash.length = 32 := by
  unfold readE
  repeat' split
  all_goals first | rfl | exact hashN_length _ _
theorem refL_hash {s : ByteArray} : ∀ (n : Nat) (a : Int) (l : List Ent), refL s n a = some l → ∀ e ∈ l, e.hash.length = 32
  | 0, a, l, h, e, he => by
    simp only [refL, Option.some.injEq] at h
    subst h
    simp at he
  | n + 1, a, l, h, e, he => by
    unfold refL at h
    split at h
    · cases hq : refL s n (a + (entBytes (readE s a)).length) with
      | none => rw [hq] at h; cases h
      | some m =>
        rw [hq] at h
        simp only [Option.map_some, Option.some.injEq] at h
        subst h
        rcases List.mem_cons.1 he with rfl | he
        · exact readE_hash s a
        · exact refL_hash n _ m hq e he
    · cases h
theorem refL_of {s : ByteArray} : ∀ (m : List Ent) {a y : Int}, (∀ e ∈ m, e.hash.length = 32) → m.all checkB = true → Reads s a (m.flatMap entBytes) y → refL s m.length a = some m
  | [], _, _, _, _, _ => rfl
  | e :: m, a, y, he, hc, h => by
    rw [List.flatMap_cons] at h
    obtain ⟨h1, h2⟩ := h.split
    rw [List.all_cons, Bool.and_eq_true] at hc
    have hr := readE_of (he e (by simp)) hc.1 h1
    rw [List.length_cons]
    unfold refL
    rw [hr, if_pos hc.1, refL_of m (fun x hx => he x (by simp [hx])) hc.2 h2]
    rfl
theorem refDec_eq (s : ByteArray) : refDec s = decF s := by
  cases hd : decF s with
  | some m =>
    have h1 := enc_dec hd
    have hh := dec_hash hd
    obtain ⟨c1, c2, c3⟩ := enc_ok h1
    have r := Reads.mid [] (encBytes m) []
    rw [List.nil_append, List.append_nil, ← c3, mkS_ls] at r
    rw [show (([] : List UInt8).length : Int) = 0 from rfl, c3] at r
    obtain ⟨r1, r2⟩ := r.split
    have hf := fits2 (n := (m.length : Int)) (by omega) (by omega)
    have hN := numG_of (b := 2) hf (by omega) r1
    rw [show ((2 : Nat) : Int) = 2 from rfl] at hN
    have l2 : (putL (m.length : Int) 2).length = 2 := putL_len_of (b := 2) hf
    rw [l2] at r2
    have hl := refL_of m hh c1 r2
    unfold refDec
    rw [hN, if_neg (by omega), show ((m.length : Int)).toNat = m.length from rfl]
    rw [show (0 : Int) + ((2 : Nat) : Int) = 2 from rfl] at hl
    rw [hl]
    simp only
    rw [if_pos h1]
  | none =>
    unfold refDec
    split
    · rfl
    · cases hq : refL s (numG s 0 2).toNat 2 with
      | none => rfl
      | some l =>
        simp only
        split
        · rename_i he
          have := dec_enc (more := []) he (refL_hash _ _ _ hq)
          rw [List.append_nil, if_pos rfl, mkS_ls] at this
          rw [this] at hd
          cases hd
        · rfl
end Go.Proofs.Ytgjgjhikimnknaa
