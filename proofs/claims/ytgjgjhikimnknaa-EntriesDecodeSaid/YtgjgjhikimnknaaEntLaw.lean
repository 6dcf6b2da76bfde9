/- What is encoded is decoded, what is decoded is encoded: entries, without the program. -/
import Derived.Test.YtgjgjhikimnknaaEntPlain
set_option linter.unusedVariables false
set_option linter.unusedSimpArgs false
namespace Go.Proofs.Ytgjgjhikimnknaa
open Go.RowKit

theorem entEq_ent0 {e : Ent} (h : entEq e ent0 = true) : e.kind = 0 ∧ e.stream = 0 ∧ e.n = 0 ∧ e.len = 0 ∧ e.name = noS ∧ h32 e.hash = zeros 32 ∧ e.start = 0 ∧ e.count = 0 := by
  simp only [entEq, Bool.and_eq_true, beq_iff_eq] at h
  obtain ⟨h1, h2, h3, h4, h5, h6, ⟨h7, h8, _⟩, _⟩ := h
  exact ⟨h1, h2, h3, h4, toList_inj h5, h6, h7, h8⟩
/-- With one field of another one. -/
def setF (e x : Ent) (f : Int) : Ent :=
  if f = 0 then { x with stream := e.stream } else if f = 1 then { x with n := e.n } else if f = 2 then { x with name := e.name } else { x with len := e.len, hash := e.hash, start := e.start, count := e.count }
theorem check_parts {e : Ent} (h : checkB e = true) : (∀ f ∈ fieldsL e.kind, stepOk e f = true) ∧ fieldsL e.kind ≠ [] ∧ entEq ((fieldsL e.kind).foldl strip { e with kind := 0 }) ent0 = true := by
  simp only [checkB, Bool.and_eq_true, List.all_eq_true] at h
  exact ⟨h.1.1, by have := h.1.2; intro h0; simp [h0] at this, h.2⟩
theorem check_kind {e : Ent} (h : checkB e = true) : 1 ≤ e.kind ∧ e.kind ≤ 6 := by
  have h1 := (check_parts h).2.1
  rcases kind_cases e.kind with h | h | h | h | h | h | ⟨a, b, c, d, e', f⟩
  all_goals first | omega | (exfalso; apply h1; unfold fieldsL; simp [a, b, c, d, e', f])
theorem check_whole {e : Ent} (h : checkB e = true) (he : e.hash.length = 32) : (fieldsL e.kind).foldl (setF e) (entK e.kind) = e := by
  have h2 := entEq_ent0 (check_parts h).2.2
  obtain ⟨k, s, n, l, nm, hs, st, c⟩ := e
  simp only at he
  rcases kind_cases k with rfl | rfl | rfl | rfl | rfl | rfl | ⟨a, b, c, d, e', f⟩
  · obtain ⟨_, h3, h4, h5, h6, h7, h8, h9⟩ := h2
    obtain rfl : s = 0 := h3
    obtain rfl : n = 0 := h4
    obtain rfl : l = 0 := h5
    obtain rfl : hs = zeros 32 := by rw [← h32_of hs he]; exact h7
    obtain rfl : st = 0 := h8
    obtain rfl : c = 0 := h9
    rfl
  · obtain ⟨_, h3, h4, h5, h6, h7, h8, h9⟩ := h2
    obtain rfl : nm = noS := h6
    rfl
  · obtain ⟨_, h3, h4, h5, h6, h7, h8, h9⟩ := h2
    obtain rfl : nm = noS := h6
    obtain rfl : l = 0 := h5
    obtain rfl : hs = zeros 32 := by rw [← h32_of hs he]; exact h7
    obtain rfl : st = 0 := h8
    obtain rfl : c = 0 := h9
    rfl
  · obtain ⟨_, h3, h4, h5, h6, h7, h8, h9⟩ := h2
    obtain rfl : n = 0 := h4
    obtain rfl : l = 0 := h5
    obtain rfl : hs = zeros 32 := by rw [← h32_of hs he]; exact h7
    obtain rfl : st = 0 := h8
    obtain rfl : c = 0 := h9
    rfl
  · obtain ⟨_, h3, h4, h5, h6, h7, h8, h9⟩ := h2
    obtain rfl : n = 0 := h4
    obtain rfl : l = 0 := h5
    obtain rfl : hs = zeros 32 := by rw [← h32_of hs he]; exact h7
    obtain rfl : st = 0 := h8
    obtain rfl : c = 0 := h9
    rfl
  · obtain ⟨_, h3, h4, h5, h6, h7, h8, h9⟩ := h2
    obtain rfl : nm = noS := h6
    obtain rfl : l = 0 := h5
    obtain rfl : hs = zeros 32 := by rw [← h32_of hs he]; exact h7
    obtain rfl : st = 0 := h8
    obtain rfl : c = 0 := h9
    rfl
  · exact absurd (by unfold fieldsL; simp [a, b, c, d, e', f]) (check_parts h).2.1

theorem fits1 {n : Int} (h0 : 0 ≤ n) (h : n ≤ 255) : fitsB n (1 : Nat) = true := by simp [fitsB, sizeB]; omega
theorem fits2 {n : Int} (h0 : 0 ≤ n) (h : n ≤ 65535) : fitsB n (2 : Nat) = true := by simp [fitsB, sizeB]; omega
theorem fits4 {n : Int} (h0 : 0 ≤ n) (h : n ≤ 4294967295) : fitsB n (4 : Nat) = true := by simp [fitsB, sizeB]; omega
theorem within_iff {n m : Int} : withinB n m = true ↔ 0 ≤ n ∧ n ≤ m := by simp [withinB]
theorem reads_field {s : ByteArray} {e : Ent} {f y : Int} {x : Rd} (he : e.hash.length = 32) (hf : f = 0 ∨ f = 1 ∨ f = 2 ∨ f = 3) (hok : stepOk e f = true) (hb : x.bad = false) (h : Reads s x.a (fieldBytes e f) y) : fieldR s x f = ⟨y, false, setF e x.e f⟩ := by
  rcases hf with rfl | rfl | rfl | rfl
  · obtain ⟨h0, h1⟩ := within_iff.1 (show withinB e.stream 7 = true from hok)
    obtain ⟨k1, k2, k3⟩ := reads_num (b := 1) (fits1 h0 (by omega)) (by omega) h
    unfold fieldR
    rw [if_pos rfl]
    rw [show ((1 : Nat) : Int) = 1 from rfl] at k1 k2 k3
    rw [k1, k2, k3, hb]
    rfl
  · obtain ⟨h0, h1⟩ := within_iff.1 (show withinB e.n (mostN e.kind) = true from hok)
    have h2 : e.n ≤ 1073741824 := by unfold mostN at h1; split at h1 <;> omega
    obtain ⟨k1, k2, k3⟩ := reads_num (b := 4) (fits4 h0 (by omega)) (by omega) h
    unfold fieldR
    rw [if_neg (by decide), if_pos rfl]
    rw [show ((4 : Nat) : Int) = 4 from rfl] at k1 k2 k3
    rw [k1, k2, k3, hb]
    rfl
  · have h1 : e.name.size ≤ 12 := by
      have : nameOk e.name = true := hok
      simp [nameOk] at this
      omega
    obtain ⟨k1, k2, k3⟩ := reads_text (by omega) (show Reads s x.a (textL e.name) y from h)
    unfold fieldR
    rw [if_neg (by decide), if_neg (by decide), if_pos rfl]
    rw [k1, k2, k3, hb]
    rfl
  · have h3 : (withinB e.len 300 && (withinB e.start 512 && (decide (0 < e.count) && withinB e.count (512 - e.start)))) = true := hok
    simp only [Bool.and_eq_true, within_iff] at h3
    obtain ⟨⟨a1, a2⟩, ⟨a3, a4⟩, a5, a6, a7⟩ := h3
    have h : Reads s x.a (((putL e.len 2 ++ e.hash) ++ putL e.start 2) ++ putL e.count 2) y := h
    obtain ⟨q3, q4⟩ := h.split
    obtain ⟨q2, q3⟩ := q3.split
    obtain ⟨q1, q2⟩ := q2.split
    obtain ⟨k1, k2, k3⟩ := reads_num (b := 2) (fits2 a1 (by omega)) (by omega) q1
    rw [← k3] at q2
    obtain ⟨l1, l2, l3⟩ := reads_hash he q2
    have q3' : Reads s (hashA s (numA s x.a 2)) (putL e.start 2) (x.a + ((putL e.len 2 ++ e.hash) ++ putL e.start 2).length) := by
      have hx := q2.eq
      have hy := q3
      rw [List.length_append] at hy
      rw [show hashA s (numA s x.a 2) = x.a + ((putL e.len 2).length + e.hash.length : Nat) from by
        rw [show (numA s x.a 2) = numA s x.a (2 : Nat) from rfl, l3]; simp]
      refine ⟨hy.lo, ?_, ?_, hy.bytes⟩
      · simp; omega
      · have := q4.lo; have := q4.hi; have := q4.eq; simp at *; omega
    obtain ⟨m1, m2, m3⟩ := reads_num (b := 2) (fits2 a3 (by omega)) (by omega) q3'
    rw [← m3] at q4
    obtain ⟨n1, n2, n3⟩ := reads_num (b := 2) (fits2 (by omega) (by omega)) (by omega) q4
    unfold fieldR
    rw [if_neg (by decide), if_neg (by decide), if_neg (by decide)]
    rw [show ((2 : Nat) : Int) = 2 from rfl] at *
    rw [k1, k2, l1, l2, m1, m2, n1, n2, n3, hb]
    rfl
theorem reads_fields {s : ByteArray} {e : Ent} (he : e.hash.length = 32) : ∀ (fs : List Int) {y : Int} {x : Rd}, (∀ f ∈ fs, f = 0 ∨ f = 1 ∨ f = 2 ∨ f = 3) → (∀ f ∈ fs, stepOk e f = true) → x.bad = false → Reads s x.a (fs.flatMap (fieldBytes e)) y →
    fs.foldl (fieldR s) x = ⟨y, false, fs.foldl (setF e) x.e⟩
  | [], y, x, _, _, hb, h => by
    have hy : y = x.a := by have := h.eq; simpa using this
    cases x; simp only at hb hy; subst hb hy; rfl
  | f :: fs, y, x, hf, hok, hb, h => by
    rw [List.flatMap_cons] at h
    obtain ⟨h1, h2⟩ := h.split
    rw [List.foldl_cons, reads_field he (hf f (by simp)) (hok f (by simp)) hb h1]
    exact reads_fields he fs (fun g hg => hf g (by simp [hg])) (fun g hg => hok g (by simp [hg])) rfl h2
theorem reads_ent {s : ByteArray} {e : Ent} {a y : Int} (he : e.hash.length = 32) (hc : checkB e = true) (h : Reads s a (entBytes e) y) : entR s a false = ⟨y, false, e⟩ := by
  obtain ⟨h1, h2⟩ := h.split
  have hk := check_kind hc
  obtain ⟨k1, k2, k3⟩ := reads_num (b := 1) (fits1 (by omega) (by omega)) (by omega) h1
  rw [show ((1 : Nat) : Int) = 1 from rfl] at k1 k2 k3
  unfold entR
  rw [k1, k2, k3, reads_fields he (fieldsL e.kind) (x := ⟨_, false || !true, _⟩) (fieldsL_range _) (check_parts hc).1 rfl h2, check_whole hc he]
theorem reads_ents {s : ByteArray} : ∀ (l : List Ent) {a y : Int}, (∀ e ∈ l, e.hash.length = 32) → (l.all checkB = true) → Reads s a (l.flatMap entBytes) y → decL s l.length a false = some (l, y, false)
  | [], a, y, _, _, h => by
    have hy : y = a := by have := h.eq; simpa using this
    subst hy; rfl
  | e :: l, a, y, he, hc, h => by
    rw [List.flatMap_cons] at h
    obtain ⟨h1, h2⟩ := h.split
    rw [List.all_cons, Bool.and_eq_true] at hc
    have hr := reads_ent (he e (by simp)) hc.1 h1
    rw [List.length_cons, decL_step s l.length a false (by rw [hr, hc.1]; rfl), hr]
    show Option.map _ (decL s l.length _ false) = _
    rw [reads_ents l (fun x hx => he x (by simp [hx])) hc.2 h2]
    rfl

/-! ### The other way -/
theorem field_reads {s : ByteArray} {f : Int} {x : Rd} (hf : f = 0 ∨ f = 1 ∨ f = 2 ∨ f = 3) (h : (fieldR s x f).bad = false) : x.bad = false ∧ Reads s x.a (fieldBytes (fieldR s x f).e f) (fieldR s x f).a := by
  rcases hf with rfl | rfl | rfl | rfl
  · have h1 : (x.bad || !numOk s x.a 1) = false := h
    simp only [Bool.or_eq_false_iff, Bool.not_eq_false'] at h1
    exact ⟨h1.1, (num_reads (b := 1) h1.2).1⟩
  · have h1 : (x.bad || !numOk s x.a 4) = false := h
    simp only [Bool.or_eq_false_iff, Bool.not_eq_false'] at h1
    exact ⟨h1.1, (num_reads (b := 4) h1.2).1⟩
  · have h1 : (x.bad || !textOk s x.a) = false := h
    simp only [Bool.or_eq_false_iff, Bool.not_eq_false'] at h1
    exact ⟨h1.1, text_reads h1.2⟩
  · have h1 : ((((x.bad || !numOk s x.a 2) || !thereB s (numA s x.a 2) 32) || !numOk s (hashA s (numA s x.a 2)) 2) || !numOk s (numA s (hashA s (numA s x.a 2)) 2) 2) = false := h
    simp only [Bool.or_eq_false_iff, Bool.not_eq_false'] at h1
    obtain ⟨⟨⟨⟨h1, h2⟩, h3⟩, h4⟩, h5⟩ := h1
    exact ⟨h1, (((num_reads (b := 2) h2).1.cat (hash_reads h3)).cat (num_reads (b := 2) h4).1).cat (num_reads (b := 2) h5).1⟩
theorem field_other {s : ByteArray} {f g : Int} {x : Rd} (hf : f = 0 ∨ f = 1 ∨ f = 2 ∨ f = 3) (hg : g = 0 ∨ g = 1 ∨ g = 2 ∨ g = 3) (hne : f ≠ g) : fieldBytes (fieldR s x g).e f = fieldBytes x.e f := by
  rcases hf with rfl | rfl | rfl | rfl <;> rcases hg with rfl | rfl | rfl | rfl <;> first | rfl | exact absurd rfl hne
theorem fields_other {s : ByteArray} {f : Int} (hf : f = 0 ∨ f = 1 ∨ f = 2 ∨ f = 3) : ∀ (fs : List Int) {x : Rd}, (∀ g ∈ fs, g = 0 ∨ g = 1 ∨ g = 2 ∨ g = 3) → f ∉ fs → fieldBytes (fs.foldl (fieldR s) x).e f = fieldBytes x.e f
  | [], _, _, _ => rfl
  | g :: fs, x, hg, hn => by
    simp only [List.mem_cons, not_or] at hn
    rw [List.foldl_cons, fields_other hf fs (fun k hk => hg k (by simp [hk])) hn.2, field_other hf (hg g (by simp)) hn.1]
theorem field_kind {s : ByteArray} {f : Int} {x : Rd} : (fieldR s x f).e.kind = x.e.kind := by
  unfold fieldR
  repeat' split
  all_goals rfl
theorem fields_kind {s : ByteArray} : ∀ (fs : List Int) {x : Rd}, (fs.foldl (fieldR s) x).e.kind = x.e.kind
  | [], _ => rfl
  | f :: fs, x => by rw [List.foldl_cons, fields_kind fs, field_kind]
theorem fields_reads {s : ByteArray} : ∀ (fs : List Int) {x : Rd}, (∀ f ∈ fs, f = 0 ∨ f = 1 ∨ f = 2 ∨ f = 3) → fs.Nodup → (fs.foldl (fieldR s) x).bad = false → (x.bad = false → 0 ≤ x.a ∧ x.a ≤ s.size) →
    x.bad = false ∧ Reads s x.a (fs.flatMap (fieldBytes (fs.foldl (fieldR s) x).e)) (fs.foldl (fieldR s) x).a
  | [], x, _, _, hb, h0 => ⟨hb, Reads.nil (h0 hb).1 (h0 hb).2⟩
  | f :: fs, x, hf, hn, hb, h0 => by
    rw [List.nodup_cons] at hn
    rw [List.foldl_cons] at hb ⊢
    have hff := hf f (by simp)
    have key : (fieldR s x f).bad = false → 0 ≤ (fieldR s x f).a ∧ (fieldR s x f).a ≤ s.size := fun h => by
      have := (field_reads hff h).2
      have h1 := this.eq
      have h2 := this.lo
      have h3 := this.hi
      omega
    obtain ⟨h1, h2⟩ := fields_reads fs (x := fieldR s x f) (fun g hg => hf g (by simp [hg])) hn.2 hb key
    obtain ⟨h3, h4⟩ := field_reads hff h1
    refine ⟨h3, ?_⟩
    rw [List.flatMap_cons, fields_other hff fs (fun g hg => hf g (by simp [hg])) hn.1]
    exact h4.cat h2
theorem fieldsL_nodup (k : Int) : (fieldsL k).Nodup := by
  unfold fieldsL
  repeat' split
  all_goals decide
theorem ent_reads {s : ByteArray} {a : Int} {bad : Bool} (h : (entR s a bad).bad = false) : bad = false ∧ Reads s a (entBytes (entR s a bad).e) (entR s a bad).a := by
  have key : (bad || !numOk s a 1) = false → 0 ≤ numA s a 1 ∧ numA s a 1 ≤ s.size := fun h => by
    simp only [Bool.or_eq_false_iff, Bool.not_eq_false'] at h
    have := (num_reads (b := 1) h.2).1
    have h1 := this.eq
    have h2 := this.lo
    have h3 := this.hi
    rw [show ((1 : Nat) : Int) = 1 from rfl] at *
    omega
  obtain ⟨h1, h2⟩ := fields_reads (fieldsL (numN s a 1)) (x := ⟨numA s a 1, bad || !numOk s a 1, entK (numN s a 1)⟩) (fieldsL_range _) (fieldsL_nodup _) h key
  simp only [Bool.or_eq_false_iff, Bool.not_eq_false'] at h1
  refine ⟨h1.1, ?_⟩
  have hk : (entR s a bad).e.kind = numN s a 1 := fields_kind _
  unfold entBytes
  rw [hk]
  exact (num_reads (b := 1) h1.2).1.cat h2
theorem ents_reads {s : ByteArray} : ∀ (n : Nat) {a y : Int} {bad : Bool} {l : List Ent}, decL s n a bad = some (l, y, false) → (bad = false → 0 ≤ a ∧ a ≤ s.size) → bad = false ∧ l.length = n ∧ l.all checkB = true ∧ Reads s a (l.flatMap entBytes) y
  | 0, a, y, bad, l, h, h0 => by
    simp only [decL, Option.some.injEq, Prod.mk.injEq] at h
    obtain ⟨rfl, rfl, rfl⟩ := h
    exact ⟨rfl, rfl, rfl, Reads.nil (h0 rfl).1 (h0 rfl).2⟩
  | n + 1, a, y, bad, l, h, h0 => by
    by_cases hc : ((entR s a bad).bad || !checkB (entR s a bad).e) = true
    · rw [decL_stop s n a bad hc] at h; cases h
    · have hc' : ((entR s a bad).bad || !checkB (entR s a bad).e) = false := by simpa using hc
      rw [decL_step s n a bad hc'] at h
      simp only [Bool.or_eq_false_iff, Bool.not_eq_false'] at hc'
      obtain ⟨h1, h2⟩ := ent_reads hc'.1
      cases hd : decL s n (entR s a bad).a (entR s a bad).bad with
      | none => rw [hd] at h; cases h
      | some r =>
        obtain ⟨m, z, b⟩ := r
        rw [hd] at h
        simp only [Option.map_some, Option.some.injEq, Prod.mk.injEq] at h
        obtain ⟨rfl, rfl, rfl⟩ := h
        obtain ⟨_, h4, h5, h6⟩ := ents_reads n hd (fun _ => by
          have e1 := h2.eq
          have e2 := h2.lo
          have e3 := h2.hi
          omega)
        refine ⟨h1, by simp [h4], by simp [hc'.2, h5], ?_⟩
        rw [List.flatMap_cons]
        exact h2.cat h6

/-! ### Lists -/
theorem enc_ok {m : List Ent} {l : List UInt8} (h : encF m = (l, 0)) : m.all checkB = true ∧ m.length ≤ 200 ∧ l = encBytes m := by
  unfold encF at h
  split at h
  · split at h
    · rename_i h1 h2
      simp only [Prod.mk.injEq] at h
      exact ⟨h1, h2, h.1.symm⟩
    · simp at h
  · simp at h
theorem enc_of {m : List Ent} (h1 : m.all checkB = true) (h2 : m.length ≤ 200) : encF m = (encBytes m, 0) := by
  unfold encF
  rw [if_pos h1, if_pos h2]
theorem enc_err {m : List Ent} (h : (encF m).2 ≠ 0) : (encF m).1 = [] := by
  unfold encF at *
  split
  · split
    · simp_all
    · rfl
  · rfl
theorem dec_enc {m : List Ent} {l more : List UInt8} (h : encF m = (l, 0)) (he : ∀ e ∈ m, e.hash.length = 32) : decF (mkS (l ++ more)) = if more = [] then some m else none := by
  obtain ⟨h1, h2, rfl⟩ := enc_ok h
  have r := Reads.mid [] (encBytes m) more
  rw [List.nil_append] at r
  obtain ⟨r1, r2⟩ := r.split
  rw [show (([] : List UInt8).length : Int) = 0 from rfl] at r1 r2
  obtain ⟨k1, k2, k3⟩ := reads_num (b := 2) (fits2 (by omega) (by omega)) (by omega) r1
  rw [show ((2 : Nat) : Int) = 2 from rfl] at k1 k2 k3
  rw [← k3] at r2
  have hd := reads_ents m he h1 r2
  have hN : decN (mkS (encBytes m ++ more)) = m.length := by unfold decN; rw [k2]; omega
  unfold decF
  rw [hN, k1, k2]
  simp only [Bool.not_true, hd, Bool.false_or, Int.zero_add]
  have h200 : decide (200 < (m.length : Int)) = false := by simp; omega
  rw [h200, Bool.false_or]
  by_cases hm : more = []
  · subst hm
    have : decide (((encBytes m).length : Int) < ((mkS (encBytes m ++ [])).size : Int)) = false := by simp [size_mkS]
    rw [this]; rfl
  · have : decide (((encBytes m).length : Int) < ((mkS (encBytes m ++ more)).size : Int)) = true := by
      have : 0 < more.length := List.length_pos_iff.2 hm
      simp [size_mkS]; omega
    rw [this, if_neg hm]; rfl
theorem enc_dec {s : ByteArray} {m : List Ent} (h : decF s = some m) : encF m = (ls s, 0) := by
  unfold decF at h
  cases hd : decL s (decN s) (numA s 0 2) (!numOk s 0 2) with
  | none => rw [hd] at h; cases h
  | some r =>
    obtain ⟨l, a, bad⟩ := r
    rw [hd] at h
    simp only at h
    split at h
    · cases h
    · rename_i hc
      injection h with h
      subst h
      simp only [Bool.or_eq_true, decide_eq_true_eq, not_or] at hc
      obtain ⟨hb, h2, h3⟩ := hc
      obtain rfl : bad = false := by simpa using hb
      obtain ⟨h4, h5, h6, h7⟩ := ents_reads _ hd (fun h => by
        simp only [Bool.not_eq_false'] at h
        have := (num_reads (b := 2) h).1
        have e1 := this.eq
        have e2 := this.lo
        have e3 := this.hi
        rw [show ((2 : Nat) : Int) = 2 from rfl] at *
        omega)
      simp only [Bool.not_eq_false'] at h4
      have hn := numN_range s 0 2
      have hlen : (l.length : Int) = numN s 0 2 := by rw [h5]; unfold decN; omega
      have hr := (num_reads (b := 2) h4).1.cat h7
      rw [show ((2 : Nat) : Int) = 2 from rfl, ← hlen] at hr
      have ha : a = s.size := by have := hr.hi; omega
      rw [ha] at hr
      rw [enc_of h6 (by omega), show encBytes l = ls s from hr.whole.symm]
/-- What is decoded has hashes of 32 bytes. -/
theorem fieldR_hash {s : ByteArray} {x : Rd} {f : Int} (h : x.e.hash.length = 32) : (fieldR s x f).e.hash.length = 32 := by
  unfold fieldR
  split
  · exact h
  · split
    · exact h
    · split
      · exact h
      · exact hashN_length _ _
theorem foldR_hash {s : ByteArray} : ∀ (l : List Int) (x : Rd), x.e.hash.length = 32 → (l.foldl (fieldR s) x).e.hash.length = 32
  | [], x, h => h
  | f :: l, x, h => foldR_hash l _ (fieldR_hash h)
theorem decL_hash {s : ByteArray} : ∀ (n : Nat) (a : Int) (bad : Bool) (r : List Ent × Int × Bool), decL s n a bad = some r → ∀ e ∈ r.1, e.hash.length = 32
  | 0, a, bad, r, h, e, he => by
    simp only [decL, Option.some.injEq] at h
    subst h
    simp at he
  | n + 1, a, bad, r, h, e, he => by
    by_cases hc : ((entR s a bad).bad || !checkB (entR s a bad).e) = true
    · rw [decL_stop s n a bad hc] at h; cases h
    · rw [decL_step s n a bad (by simpa using hc)] at h
      cases hd : decL s n (entR s a bad).a (entR s a bad).bad with
      | none => rw [hd] at h; cases h
      | some q =>
        rw [hd] at h
        simp only [Option.map_some, Option.some.injEq] at h
        subst h
        rcases List.mem_cons.1 he with rfl | he
        · exact foldR_hash _ _ rfl
        · exact decL_hash n _ _ q hd e he
theorem dec_hash {s : ByteArray} {m : List Ent} (h : decF s = some m) : ∀ e ∈ m, e.hash.length = 32 := by
  unfold decF at h
  cases hd : decL s (decN s) (numA s 0 2) (!numOk s 0 2) with
  | none => rw [hd] at h; cases h
  | some r =>
    obtain ⟨l, a, bad⟩ := r
    rw [hd] at h
    simp only at h
    split at h
    · cases h
    · injection h with h
      subst h
      exact decL_hash _ _ _ _ hd
theorem dec_wf32 {s : ByteArray} {m : List Ent} (h : decF s = some m) : m.length ≤ 200 := (enc_ok (enc_dec h)).2.1
end Go.Proofs.Ytgjgjhikimnknaa
