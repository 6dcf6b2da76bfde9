/- The contracts of device.of, New. (its Clone is printed by gen_devnew.py). -/
import Derived.Test.YtigihgbgdillpaaGreatDoorP27
set_option linter.unusedVariables false
set_option linter.unusedSimpArgs false
set_option maxRecDepth 100000
namespace Go.Proofs.YtigihgbgdillpaaGreatDoor
open Go.RowKit

/-- slices.Clone at device.block. -/
theorem cloneBk_calls {D : Dat} {p : Option Addr} {c : Nat} {l : List Bk} (h : RowAt D 74 2 bkL p c l) (w : World) (hD : Holds D w) : Calls Tryz.prog 55 #[.slice p l.length c] w fun e w' => ∃ v Lo, e = .returned v ∧ OwnR 74 2 bkL Lo v l ∧ St [] w w' Lo := by
  have hbig := h.big
  cases p with
  | none =>
    obtain rfl : l = [] := h.nil_of rfl
    go_enter Tryz.func55, Tryz.ntmps55
    go_wp2_with (refine xval rfl 4 rfl (.bool true) (fun w => by kernel_rfl) ?_)
    go_ret
    exact ⟨_, [], rfl, OwnR.none _, (Sx.startN w).st⟩
  | some ad =>
    have hst := Sx.start0 w hD
    have hsrc : ∀ w', Holds D w' → Src w' bkL (.slice (some ad) l.length c) l := fun w' hw => RowD.src ⟨_, _, rfl, h⟩ hw (by decide)
    go_enter Tryz.func55, Tryz.ntmps55
    go_wp2_with (first | (with_reducible refine xval rfl 4 rfl (.bool false) (fun w => by kernel_rfl) ?_) | (with_reducible refine xmk rfl 5 rfl hst #[] 74 (fun b => .slice (some ⟨b, 0, none⟩) 0 0) (fun w => by kernel_rfl) ?_; clear hst; intro b w' hst) | (with_reducible refine xap0 (T := 74) (TS := 61) rfl rfl rfl hst (hsrc _ hst.data) rfl hbig ?_; clear hst; intro p2 c2 w2 Lo hown hst))
    go_ret
    exact ⟨_, Lo, rfl, hown, hst.takeL.st⟩
theorem madeRows {α : Type} {enc : α → List Value} {k : Nat} [e : Enc enc k] (hk : 0 < k) (x : α) (z : Value) (hz : z.cells = (enc x).toArray) (n : Nat) : madeCells z.cells (n * k) = ((List.replicate n x).flatMap enc).toArray := by
  apply Array.ext
  · rw [size_madeCells, List.size_toArray, rows_length (k := k), List.length_replicate]
  · intro j h1 h2
    rw [size_madeCells] at h1
    have hq : j / k < n := Nat.div_lt_of_lt_mul (by rw [Nat.mul_comm]; exact h1)
    have hr : j % k < k := Nat.mod_lt _ hk
    have hjk : j / k * k + j % k = j := Nat.div_add_mod' j k
    have := rows_at (enc := enc) (List.replicate n x) (j / k) (by simpa using hq) (j % k) hr
    rw [hjk] at this
    have h3 : ((List.replicate n x).flatMap enc)[j]? = some (((List.replicate n x).flatMap enc).toArray[j]'h2) := by simp
    have hl : (enc x).length = k := e.len x
    rw [h3, List.getElem_replicate, List.getElem?_eq_getElem (by omega)] at this
    injection this with this
    rw [this]
    simp only [madeCells, Array.getElem_map, Array.getElem_range, hz, List.size_toArray, hl]
    rw [getElem!_pos _ _ (by simp [hl, hr])]
    simp
section
variable {ops : Array Oper} {rest : List Oper} {o : Oper} {a : Act} {w : World} {Q : Exit → Act → World → Prop} {S : List Nat} {w0 : World} {L : List Blk} {D : Dat} {F : List Nat} {α : Type} {enc : α → List Value} {k : Nat} {T TS : TypeId}
/-- make([]T, n). -/
theorem xmake (hw : Region.wanted o (yielded ops a.tmps) = true) {x y : Operand} (ho : o.op = .makeSlice TS x y) {n : Nat} (hx : a.eval x = .int .i64 (n : Int)) (hy : a.eval y = .int .i64 (n : Int)) (h : Sx S w0 w L D F) [sl : SlT TS T] [e : Elt T k] [en : Enc enc k] (hn : n ≤ 1000000000) (x0 : α) (hz : ∀ i z, Tryz.prog.info? T = some i → i.zero = some z → z.cells = (enc x0).toArray)
    (hk : ∀ (b : Nat) (w' : World), Sx S w0 w' ((b, ((List.replicate n x0).flatMap enc).toArray, T) :: L) D F → wpList Tryz.prog ops Q rest (a.put o.dst (.slice (some ⟨b, 0, none⟩) n n)) w') : wpList Tryz.prog ops Q (o :: rest) a w :=
  BigFrame.wpList_want hw fun K hK => by
    obtain ⟨i, z, hi, hzz, hs, hb, hzs, hk0⟩ := elt_info T k
    have hbn : i.bytes * n ≤ 10000 * 1000000000 := Nat.mul_le_mul hb hn
    have hbi : (i.bytes : Int) * (n : Int) ≤ 281474976710656 := by
      have h1 : ((i.bytes * n : Nat) : Int) ≤ 281474976710656 := by omega
      rwa [Int.natCast_mul] at h1
    have hr := run_make (P := Tryz.prog) w TS T i z sl.under hi hzz .i64 .i64 n n (by omega) (by omega) hbi (by omega)
    rw [hs, show ((n : Int)).toNat = n from rfl, madeRows (enc := enc) hk0 x0 z (hz i z hi hzz)] at hr
    unfold Oper.wp execOp
    simp only [ho, hx, hy, Sem.run_bind, hr, Result.andThen_ok]
    exact hK _ _ (hk _ _ (h.alloc _ _))
end
/-- A new device. -/
def NewDev (D : Dat) (d : Dv) (w : World) (e : Ending) (w' : World) : Prop := ∃ g F, e = .returned (.pointer (some ⟨g, 0, none⟩)) ∧ DevW D F w' g d ∧ Below w.heap.size w w' ∧ ∀ x ∈ F, w.heap.size ≤ x
def dvOf (l : List Bk) : Dv := ⟨l, l, [], false, 0, -1, []⟩
set_option maxHeartbeats 1000000 in
theorem devof_calls {D : Dat} {p : Option Addr} {c : Nat} {l : List Bk} (h : RowAt D 74 2 bkL p c l) (h4 : 4 ≤ l.length) (h5 : l.length ≤ 512) (hok : ∀ b ∈ l, b.Ok) (w : World) (hD : Holds D w) : Calls Tryz.prog 27 #[.slice p l.length c] w (NewDev D (dvOf l) w) := by
  have hst := Sx.start0 w hD
  have HC := Lib.hid (fun w hD => cloneBk_calls h w hD)
  go_enter Tryz.func27, Tryz.ntmps27
  go_wp2_with fail
  refine (HC.out _ hst.data).mono ?_
  rintro e w1 ⟨v1, L1, rfl, hown1, hs1⟩
  have hst := hst.take hs1
  clear hs1
  go_wp2_with fail
  refine (HC.out _ hst.data).mono ?_
  rintro e w2 ⟨v2, L2, rfl, hown2, hs2⟩
  have hst := hst.take hs2
  clear hs2
  rcases hown1 with ⟨_, _, h0⟩ | ⟨gs, cs, Cs, rfl, rfl, s1, s2, s3, s4⟩
  · rw [h0] at h4; simp at h4
  rcases hown2 with ⟨_, _, h0⟩ | ⟨gn, cn, Cn, rfl, rfl, n1, n2, n3, n4⟩
  · rw [h0] at h4; simp at h4
  simp only [List.cons_append, List.nil_append] at hst
  go_wp2_with (first | (with_reducible (refine xba rfl rfl hst rfl ?_;clear hst;intro bb w' hst)) | (with_reducible refine xval rfl 7 rfl (.agg #[.slice (some ⟨gs, 0, none⟩) l.length cs, .slice (some ⟨gn, 0, none⟩) l.length cn, .slice none 0 0, .bool false, .int .i64 0, .int .i64 (-1), .slice none 0 0]) (fun w => by kernel_rfl) ?_))
  go_ret
  have hst := hst.perm ((List.Perm.swap _ _ _).cons _)
  obtain ⟨F', h1, h2, h3⟩ := Sx.closeDev0 (g := bb) (d := dvOf l) (q := ⟨gs, cs, Cs, gn, cn, Cn, .slice none 0 0, [], .slice none 0 0⟩) hst
    ⟨⟨rfl, h4, h5, fun a ha => by simp [dvOf] at ha, fun a ha => by simp [dvOf] at ha, hok, hok, by unfold I64 dvOf; simp only; omega, fun x hx => by simp [dvOf] at hx⟩, s1, s3, s4, n1, n3, n4, OwnR.none _, by simp [dvOf], RowD.nil ..⟩ rfl
  exact ⟨bb, F', rfl, h1, hst.end, fun x hx => by rcases h3 x hx with h | h; simp at h; exact h⟩
theorem dnew_bad (n : Int) (hn : n < 4 ∨ 512 < n) (w : World) : Calls Tryz.prog 12 #[.int .i64 n] w (Ret (.tuple #[.pointer none, .int .i64 2]) w) := by
  have hst := Sx.startN w
  go_enter Tryz.func12, Tryz.ntmps12
  go_wp2_with fail
  all_goals first
    | (go_ret2; exact ⟨rfl, hst.end⟩)
    | omega
/-- A new device, and no error. -/
def NewDev2 (D : Dat) (d : Dv) (w : World) (e : Ending) (w' : World) : Prop := ∃ g F, e = .returned (.tuple #[.pointer (some ⟨g, 0, none⟩), .int .i64 0]) ∧ DevW D F w' g d ∧ Below w.heap.size w w' ∧ ∀ x ∈ F, w.heap.size ≤ x
set_option maxHeartbeats 1000000 in
theorem dnew_calls {D : Dat} (n : Nat) (h4 : 4 ≤ n) (h5 : n ≤ 512) (w : World) (hD : Holds D w) : Calls Tryz.prog 12 #[.int .i64 n] w (NewDev2 D (dvOf (List.replicate n b0)) w) := by
  have hst := Sx.start0 w hD
  have HZ : Hid (∀ i z, Tryz.prog.info? 74 = some i → i.zero = some z → z.cells = (bkL b0).toArray) := Lib.hid (fun i z hi hz => by
    obtain ⟨i', h1, h2, _⟩ := info_parts (P := Tryz.prog) (e := 74) (z := .agg #[.int .i64 0, .string ⟨#[]⟩]) (size := 2) (bytes := 24) (by kernel_rfl)
    rw [hi] at h1
    cases h1
    rw [hz] at h2
    cases h2
    rfl)
  have h1 : (4 : Int) ≤ (n : Int) := by omega
  have h2 : (n : Int) ≤ 512 := by omega
  go_enter Tryz.func12, Tryz.ntmps12
  go_wp2_with (first | fail | (with_reducible refine xmake (T := 74) (enc := bkL) rfl rfl rfl rfl hst (by omega) b0 HZ.out ?_; clear hst; intro b w' hst))
  have hsz := hst.size
  have hst := Sx.lay (L1 := [(b, ((List.replicate n b0).flatMap bkL).toArray, 74)]) (L2 := []) hst
  have hrow : RowAt (fun p => D p ∨ p ∈ [(b, ((List.replicate n b0).flatMap bkL).toArray, 74)]) 74 2 bkL (some ⟨b, 0, none⟩) n (List.replicate n b0) := RowAt.ofBlock (C := ((List.replicate n b0).flatMap bkL).toArray) (Or.inr (by simp)) (by simp) (by simp; omega) (by rw [List.take_of_length_le (by simp [rows_length (k := 2)])])
  have hl : (List.replicate n b0).length = n := List.length_replicate
  have HC := Lib.hid (devof_calls hrow (by omega) (by omega) (fun b hb => by rw [List.eq_of_mem_replicate hb]; exact ⟨Or.inl rfl, by decide⟩) w' hst.data)
  rw [hl] at HC
  refine HC.out.mono ?_
  rintro e w2 ⟨g, F', rfl, hd, hb, hF⟩
  have hst := hst.below hb
  go_wp2_with fail
  go_ret2
  obtain ⟨q, m, e1, e2, e3⟩ := hd.mem
  obtain ⟨pk, ck, hvk, _⟩ := m.kp
  exact ⟨g, F', rfl, ⟨fun p hp => hd.data p (Or.inl hp), fun x hx p hp => hd.apart x hx p (Or.inl hp), q, ⟨m.ok, m.sl, m.ss, m.st, m.nl, m.ns, m.nt, m.ac, m.al, by rw [hvk]; exact RowD.nil ..⟩, e1, e2, e3⟩, hst.end, fun x hx => Nat.le_trans hsz (hF x hx)⟩
end Go.Proofs.YtigihgbgdillpaaGreatDoor
