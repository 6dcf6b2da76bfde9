/- The walk of EntriesBack: the law returns true. -/
import Derived.Test.YtgjgjhikimnknaaEntLaw
import Derived.Test.YtgjgjhikimnknaaDoes15
set_option linter.unusedVariables false
set_option linter.unusedSimpArgs false
namespace Go.Proofs.Ytgjgjhikimnknaa
open Go.RowKit

set_option maxHeartbeats 4000000 in
set_option maxRecDepth 100000 in
theorem entriesBack_walk (v : Value) (l : List Ent) (s : ByteArray) (hs : s.size ≤ 140737488351232) (w : World) (hr : EntRow w v l) :
    Calls Try.prog 5 #[v, .string s] w fun e w' => e = .returned (.bool true) ∧ Below w.heap.size w w' := by
  have HR := Lib.hid hr
  obtain ⟨a, cap, rfl, hwf, hml, _⟩ := hr
  have HW := Lib.hid hwf
  clear hwf
  unfold maxLen at hml
  by_cases hbig : 200 < l.length
  · have f1 : decide ((200 : Int) < (l.length : Int)) = true := by simp; omega
    go_enter Try.func5, Try.ntmps5
    go_wp2
    go_ret
    exact ⟨rfl, Below.refl _ _⟩
  have f1 : decide ((200 : Int) < (l.length : Int)) = false := by simp; omega
  by_cases hbig2 : 5000 < s.size
  · have f2 : decide ((5000 : Int) < (s.size : Int)) = true := by simp; omega
    go_enter Try.func5, Try.ntmps5
    go_wp2
    go_ret
    exact ⟨rfl, Below.refl _ _⟩
  have f2 : decide ((5000 : Int) < (s.size : Int)) = false := by simp; omega
  go_enter Try.func5, Try.ntmps5
  go_wp2_with fail
  refine (encode_calls _ l _ HR.out (by omega)).mono ?_
  rintro e w1 ⟨rfl, hb1⟩
  have HR1 := Lib.hid (HR.out.old hb1)
  have hel := enc_len l (by omega) (fun e he => (HW.out e he).hash)
  rcases henc : encF l with ⟨t, e⟩
  rw [henc] at hel
  dsimp only at hel ⊢
  by_cases he : e = 0
  · subst he
    have hdx := dec_enc (more := []) henc (fun e he => (HW.out e he).hash)
    rw [List.append_nil, if_pos rfl] at hdx
    have HDX := Lib.hid hdx
    clear henc hdx
    go_wp2_with fail
    refine (decode_calls (mkS t) (by rw [size_mkS]; omega) _).mono ?_
    rintro e w2 ⟨hp, hb2⟩
    unfold DecPost at hp
    rw [HDX.out] at hp
    obtain ⟨u, rfl, hown, hwm⟩ := hp
    have HRM := Lib.hid (entRow_owns hown hwm (by unfold maxLen; omega))
    have HR2 := Lib.hid (HR1.out.old hb2)
    have h2 := belw hb1 hb2
    clear hb1 hb2 hown hwm HDX
    go_wp2_with fail
    refine (same_calls _ _ l l _ HRM.out HR2.out).mono ?_
    rintro e w3 ⟨rfl, hb3⟩
    rw [sameB_self l (fun e he => (HW.out e he).hash)]
    have hbel := belw h2 hb3
    clear h2 hb3
    have hd := Lib.hid (decode_calls s hs)
    go_wp2_with fail
    refine (hd.out _).mono ?_
    rintro e w4 ⟨hp, hb4⟩
    clear hd
    unfold DecPost at hp
    cases hds : decF s with
    | none =>
      rw [hds] at hp
      obtain rfl := hp
      have h4 := belw hbel hb4
      clear hb4 hbel hds
      go_wp2_with fail
      refine (does_calls _).mono ?_
      rintro e w5 ⟨rfl, hb5⟩
      have h5 := belw h4 hb5
      clear h4 hb5
      go_wp2_with fail
      go_ret
      exact ⟨rfl, h5⟩
    | some m =>
      rw [hds] at hp
      obtain ⟨u, rfl, hown, hwm⟩ := hp
      have hm2 := dec_wf32 hds
      have HRM := Lib.hid (entRow_owns hown hwm (by unfold maxLen; omega))
      have HEM := Lib.hid (enc_dec hds)
      have h4 := belw hbel hb4
      clear hb4 hbel hds hown hwm
      go_wp2_with fail
      refine (encode_calls _ m _ HRM.out (by omega)).mono ?_
      rintro e w5 ⟨rfl, hb5⟩
      rw [HEM.out]
      dsimp only
      rw [mkS_ls]
      have h5 := belw h4 hb5
      clear h4 hb5
      go_wp2_with fail
      refine (does_calls _).mono ?_
      rintro e w6 ⟨rfl, hb6⟩
      have h6 := belw h5 hb6
      clear h5 hb6
      go_wp2_with fail
      go_ret
      exact ⟨rfl, h6⟩

  · have f3 : (e == 0) = false := by simpa using he
    have hbel := hb1
    clear hb1 he henc
    have hd := Lib.hid (decode_calls s hs)
    go_wp2_with fail
    refine (hd.out _).mono ?_
    rintro e w4 ⟨hp, hb4⟩
    clear hd
    unfold DecPost at hp
    cases hds : decF s with
    | none =>
      rw [hds] at hp
      obtain rfl := hp
      have h4 := belw hbel hb4
      clear hb4 hbel hds
      go_wp2_with fail
      refine (does_calls _).mono ?_
      rintro e w5 ⟨rfl, hb5⟩
      have h5 := belw h4 hb5
      clear h4 hb5
      go_wp2_with fail
      go_ret
      exact ⟨rfl, h5⟩
    | some m =>
      rw [hds] at hp
      obtain ⟨u, rfl, hown, hwm⟩ := hp
      have hm2 := dec_wf32 hds
      have HRM := Lib.hid (entRow_owns hown hwm (by unfold maxLen; omega))
      have HEM := Lib.hid (enc_dec hds)
      have h4 := belw hbel hb4
      clear hb4 hbel hds hown hwm
      go_wp2_with fail
      refine (encode_calls _ m _ HRM.out (by omega)).mono ?_
      rintro e w5 ⟨rfl, hb5⟩
      rw [HEM.out]
      dsimp only
      rw [mkS_ls]
      have h5 := belw h4 hb5
      clear h4 hb5
      go_wp2_with fail
      refine (does_calls _).mono ?_
      rintro e w6 ⟨rfl, hb6⟩
      have h6 := belw h5 hb6
      clear h5 hb6
      go_wp2_with fail
      go_ret
      exact ⟨rfl, h6⟩

end Go.Proofs.Ytgjgjhikimnknaa
