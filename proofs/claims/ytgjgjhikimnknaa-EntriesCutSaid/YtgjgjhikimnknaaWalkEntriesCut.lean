/- The walk of EntriesCut: the law returns true. -/
import Derived.Test.YtgjgjhikimnknaaEntLaw
import Derived.Test.YtgjgjhikimnknaaDoes15
import Derived.OpenShut
set_option linter.unusedVariables false
set_option linter.unusedSimpArgs false
namespace Go.Proofs.Ytgjgjhikimnknaa
open Go.RowKit

theorem cut_none {m : List Ent} {t : List UInt8} {k : Nat} (h : encF m = (t, 0)) (he : ∀ e ∈ m, e.hash.length = 32) (hk : k < t.length) : decF (mkS (t.take k)) = none := by
  cases hd : decF (mkS (t.take k)) with
  | none => rfl
  | some q =>
    have h1 := enc_dec hd
    rw [ls_mkS] at h1
    have h2 := dec_enc (more := t.drop k) h1 (fun e hq => (by
      exact (dec_hash hd) e hq))
    rw [List.take_append_drop, if_neg (by intro h; have := congrArg List.length h; simp at this; omega)] at h2
    have h3 := dec_enc (more := []) h he
    rw [List.append_nil, h2] at h3
    cases h3
theorem enc_two {n : Nat} (h : n ≤ 65535) : (putL (n : Int) 2).length = 2 := by
  have := putL_fits (b := 2) (fits2 (n := (n : Int)) (by omega) (by omega))
  rw [show ((2 : Nat) : Int) = 2 from rfl] at this
  rw [this, be_length]
theorem cut_str (t : List UInt8) (c : Nat) : (mkS t).extract 0 (c % t.length) = mkS (t.take (c % t.length)) := by
  have := text_extract (mkS t) 0 (c % t.length)
  rw [Nat.zero_add] at this
  rw [this]
  rfl
theorem cut_size (t : List UInt8) (c : Nat) : ((mkS t).extract 0 (c % t.length)).size ≤ t.length := by
  rw [cut_str, size_mkS, List.length_take]
  omega
theorem cat_str (t : List UInt8) (more : ByteArray) : mkS t ++ more = mkS (t ++ ls more) := by
  apply eq_mkS
  rw [ls_append, ls_mkS]
theorem take_ne {t : List UInt8} (h : t ≠ []) : ¬ (mkS t).toList = [] := by
  rw [toList_ls, ls_mkS]; exact h

set_option maxHeartbeats 4000000 in
set_option maxRecDepth 100000 in
theorem entriesCut_walk (v : Value) (l : List Ent) (cut : Int) (more : ByteArray) (hcut : (Lit.int .u16 cut).wf = true) (hs : more.size ≤ 140737488351232) (w : World) (hr : EntRow w v l) :
    Calls Try.prog 6 #[v, .int .u16 cut, .string more] w fun e w' => e = .returned (.bool true) ∧ Below w.heap.size w w' := by
  have HR := Lib.hid hr
  obtain ⟨a, cap, rfl, hwf, hml, _⟩ := hr
  have HW := Lib.hid hwf
  clear hwf
  unfold maxLen at hml
  obtain ⟨c0, c1⟩ := bounds_u16 hcut
  obtain ⟨c, rfl⟩ := Int.eq_ofNat_of_zero_le c0
  clear hcut
  by_cases hbig : 200 < l.length
  · have f1 : decide ((200 : Int) < (l.length : Int)) = true := by simp; omega
    go_enter Try.func6, Try.ntmps6
    go_wp2
    go_ret
    exact ⟨rfl, Below.refl _ _⟩
  have f1 : decide ((200 : Int) < (l.length : Int)) = false := by simp; omega
  by_cases hbig2 : 100 < more.size
  · have f2 : decide ((100 : Int) < (more.size : Int)) = true := by simp; omega
    go_enter Try.func6, Try.ntmps6
    go_wp2
    go_ret
    exact ⟨rfl, Below.refl _ _⟩
  have f2 : decide ((100 : Int) < (more.size : Int)) = false := by simp; omega
  go_enter Try.func6, Try.ntmps6
  go_wp2_with fail
  refine (encode_calls _ l _ HR.out (by omega)).mono ?_
  rintro e w1 ⟨rfl, hb1⟩
  have hel := enc_len l (by omega) (fun e he => (HW.out e he).hash)
  rcases henc : encF l with ⟨t, e⟩
  rw [henc] at hel
  dsimp only at hel ⊢
  by_cases he : e = 0
  · subst he
    have hdx := dec_enc (more := ls more) henc (fun e he => (HW.out e he).hash)
    have HDX := Lib.hid hdx
    have h2t : 2 ≤ t.length := by
      obtain ⟨_, _, rfl⟩ := enc_ok henc
      unfold encBytes
      rw [List.length_append, enc_two (by omega)]
      omega
    have HC := Lib.hid (cut_none (k := c % t.length) henc (fun e he => (HW.out e he).hash) (Nat.mod_lt _ (by omega)))
    have g1 := take_ne (t := t) (by intro h; simp [h] at h2t)
    have g2 : (mkS t).toList.isEmpty = false := by simpa using g1
    have hsz : (mkS t).size = t.length := size_mkS t
    clear henc hdx
    have hp : 0 < (t.length : Int) := by omega
    have g3 : 0 ≤ (c : Int) % (t.length : Int) := Int.emod_nonneg _ (by omega)
    have g4 : (c : Int) % (t.length : Int) ≤ (t.length : Int) := Int.le_of_lt (Int.emod_lt_of_pos _ hp)
    have f4 : ¬ 9223372036854775807 < t.length + more.size := by omega
    have f5 : t.length + more.size ≤ 9223372036854775807 := by omega
    have HX := Lib.hid (cut_str t c)
    have HY := Lib.hid (cat_str t more)
    clear hp
    go_wp2_with fail
    refine (decode_calls _ (by have := cut_size t c; omega) _).mono ?_
    rintro e w2 ⟨hp, hb2⟩
    unfold DecPost at hp
    rw [HX.out, HC.out] at hp
    obtain rfl := hp
    have h2 := belw hb1 hb2
    clear hb1 hb2
    go_wp2_with fail
    refine (decode_calls _ (by rw [ByteArray.size_append, hsz]; omega) _).mono ?_
    rintro e w3 ⟨hp, hb3⟩
    unfold DecPost at hp
    rw [HY.out, HDX.out] at hp
    have h3 := belw h2 hb3
    clear h2 hb3
    by_cases hm : ls more = []
    · rw [if_pos hm] at hp
      obtain ⟨u, rfl, hown, _⟩ := hp
      have q1 : more.toList = [] := by rw [toList_ls]; exact hm
      have q2 : more.toList.isEmpty = true := by rw [q1]; rfl
      clear hown hm
      go_wp2_with fail
      refine (does_calls _).mono ?_
      rintro e w4 ⟨rfl, hb4⟩
      have h4 := belw h3 hb4
      clear h3 hb4
      go_wp2_with fail
      go_ret
      exact ⟨rfl, h4⟩
    · rw [if_neg hm] at hp
      obtain rfl := hp
      have q1 : ¬ more.toList = [] := by rw [toList_ls]; exact hm
      have q2 : more.toList.isEmpty = false := by simpa using q1
      clear hm
      go_wp2_with fail
      refine (does_calls _).mono ?_
      rintro e w4 ⟨rfl, hb4⟩
      have h4 := belw h3 hb4
      clear h3 hb4
      go_wp2_with fail
      go_ret
      exact ⟨rfl, h4⟩
  · have f3 : (e == 0) = false := by simpa using he
    have f3' : (e != 0) = true := by simpa using he
    clear he henc
    go_wp2_with fail
    refine (does_calls _).mono ?_
    rintro e w4 ⟨rfl, hb4⟩
    have h4 := belw hb1 hb4
    clear hb1 hb4
    go_wp2_with fail
    go_ret
    exact ⟨rfl, h4⟩
end Go.Proofs.Ytgjgjhikimnknaa
