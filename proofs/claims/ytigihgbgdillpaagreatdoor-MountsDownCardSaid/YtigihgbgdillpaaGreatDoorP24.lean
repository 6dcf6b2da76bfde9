/- The contracts of slices.Clip, runs.Free · A device: in memory; the contracts of what reads it · The contracts of a device's on, Up, block, Read, States. -/
import Derived.Test.YtigihgbgdillpaaGreatDoorP23
set_option linter.unusedVariables false
set_option linter.unusedSimpArgs false
set_option maxRecDepth 100000
namespace Go.Proofs.YtigihgbgdillpaaGreatDoor
open Go.RowKit

/-- It returns a row of new memory. -/
def OwnRet (T : TypeId) (k : Nat) {α : Type} (enc : α → List Value) (l : List α) (w : World) (e : Ending) (w' : World) : Prop := ∃ v Lo, e = .returned v ∧ OwnR T k enc Lo v l ∧ St [] w w' Lo
abbrev inL (x : Int) : List Value := [.int .i64 x]
instance encInt : Enc inL 1 := ⟨fun _ => rfl, fun x v hv => by simp at hv; subst hv; rfl⟩
instance eltInt : Elt 3 1 := ⟨.int .i64 0, 8, by kernel_rfl, rfl, by decide, by decide⟩
instance sltInt : SlT 59 3 := ⟨Tryz.underlying59⟩
section
variable {w : World} {S : List Nat} {w0 : World} {L : List Blk} {D : Dat} {F : List Nat} {α : Type} {enc : α → List Value} {k : Nat} {T TS : TypeId}
/-- An append to data without room makes a row of one's own. -/
theorem append_full (ty : TypeId) {p : Option Addr} {u : Value} {l m : List α} (h : Sx S w0 w L D F) (hr : RowAt D T k enc p l.length l) [sl : SlT TS T] [e : Elt T k] [en : Enc enc k] (hs : Src w enc u m) (hm : m ≠ []) (hl : l.length + m.length ≤ 1000000000) :
    ∃ p' c' w' Lo, (Builtin.append_ #[TS, TS] ty #[.slice p l.length l.length, u]).run Tryz.prog w = .ok (.slice p' (l.length + m.length) c') w' ∧ OwnR T k enc Lo (.slice p' (l.length + m.length) c') (l ++ m) ∧ Sx S w0 w' (Lo ++ L) D F := by
  obtain ⟨i, z, hi, hz, hsz, hby, hzs, hk⟩ := elt_info T k
  obtain ⟨pa, cu, rfl, hc⟩ := hs
  obtain ⟨ad, rfl, hcells⟩ := hc hm
  have hm0 : 0 < m.length := List.length_pos_iff.2 hm
  have hlm : (m.flatMap enc).length = m.length * i.size := by rw [rows_length (k := k), hsz]
  have hby2 : (l.length + m.length) * i.bytes ≤ 140737488355328 := Nat.le_trans (Nat.mul_le_mul hl hby) (by omega)
  have key : (Builtin.append_ #[TS, TS] ty #[.slice p l.length l.length, .slice (some ad) m.length cu]).run Tryz.prog w = .ok (.slice (some ⟨w.heap.size, 0, none⟩) (l.length + m.length) (grownCap w (l.length + m.length) l.length T)) (w.drew.alloc (.cells ((l.flatMap enc).toArray ++ (m.flatMap enc).toArray ++ Builtin.zeroCells z.cells (grownCap w (l.length + m.length) l.length T - (l.length + m.length))) T)) := by
    by_cases hne : l = []
    · subst hne
      cases p with
      | none =>
        have := run_append_nil (P := Tryz.prog) w TS ty T i z sl.under hi hz ad m.length cu (m.flatMap enc) hlm hcells hm0 (by omega) (by rw [List.length_nil, Nat.zero_add] at hby2; omega)
        simpa using this
      | some b =>
        have := run_append_grow (P := Tryz.prog) w TS ty T i z sl.under hi hz b 0 0 [] (by simp) (by simp) ad m.length cu (m.flatMap enc) hlm hcells (by omega) (by omega) (growslice_fits (by omega) (by simpa using hby2))
        simpa using this
    · obtain ⟨ad0, rfl, hold⟩ := hr.cells h.data hk hne
      exact run_append_grow (P := Tryz.prog) w TS ty T i z sl.under hi hz ad0 l.length l.length (l.flatMap enc) (by rw [rows_length (k := k), hsz]) hold ad m.length cu (m.flatMap enc) hlm hcells (by omega) (by omega) (growslice_fits (by omega) hby2)
  have hge := grownCap_ge w (l.length + m.length) l.length T
  have hcm := grownCap_le_maxLen w (l.length + m.length) l.length T (by unfold maxLen; omega)
  refine ⟨_, _, _, _, key, Or.inr ⟨w.heap.size, _, _, rfl, by rw [List.length_append], by rw [List.length_append]; exact hge, hcm, ?_, ?_⟩, h.takeNew (Below.drew (Below.refl _ _) |>.alloc (Nat.le_refl _) _) (Nat.le_refl _) (heap_alloc_new w.drew _)⟩
  · simp only [Array.size_append, List.size_toArray, size_zeroCells, hzs, rows_length (k := k), ← Nat.add_mul]
    congr 1
    omega
  · simp only [Array.toList_append, List.flatMap_append, List.length_append]
    rw [List.take_left' (by simp [rows_length (k := k), ← Nat.add_mul])]
variable {ops : Array Oper} {rest : List Oper} {o : Oper} {a : Act} {Q : Exit → Act → World → Prop}
/-- The same in the walk, of one element, in a block of its own at the list's head, which is let go. -/
theorem xapF (hw : Region.wanted o (yielded ops a.tmps) = true) {x y : Operand} (ho : o.op = .call { callee := .builtin .append, args := #[x, y], argTypes := #[TS, TS] }) {p : Option Addr} {b cc n nn : Nat} {C : Array Value} {T' : TypeId} {l : List α} (hr : RowAt D T k enc p l.length l) (el : α) (hx : a.eval x = .slice p n nn) (hy : a.eval y = .slice (some ⟨b, 0, none⟩) 1 cc) (hn : n = l.length) (hnn : nn = l.length) (h : Sx S w0 w ((b, C, T') :: L) D F)
    [sl : SlT TS T] [e : Elt T k] [en : Enc enc k] (hC : C = (enc el).toArray) (hl : l.length + 1 ≤ 1000000000)
    (hk : ∀ p c w' Lo (m : List α), Hid (m = l ++ [el]) → OwnR T k enc Lo (.slice p m.length c) m → Sx S w0 w' (Lo ++ L) D F → wpList Tryz.prog ops Q rest (a.put o.dst (.slice p m.length c)) w') : wpList Tryz.prog ops Q (o :: rest) a w :=
  BigFrame.wpList_want hw fun K hK => by
    subst hC hn hnn
    have hb := h.st.blk (b, (enc el).toArray, T') (by simp)
    have hs : Src w enc (.slice (some ⟨b, 0, none⟩) [el].length cc) [el] := src_block (T := T') (by simpa using hb)
    obtain ⟨p', c', w', Lo, hr, h1, h2⟩ := append_full (TS := TS) o.type h.drop hr hs (by simp) (by simpa using hl)
    unfold Oper.wp execOp
    have hy' : a.eval y = .slice (some ⟨b, 0, none⟩) [el].length cc := hy
    simp only [ho, resolve, invoke, builtin, Sem.run_bind, Sem.run_pure, Result.andThen_ok, List.map_toArray, List.map_cons, List.map_nil, hx, hy', hr]
    have e1 : l.length + [el].length = (l ++ [el]).length := by simp
    rw [e1] at h1 ⊢
    exact hK _ _ (hk _ _ _ _ _ (Lib.hid rfl) h1 h2)
end
theorem OwnR.rowAt {T : TypeId} {k : Nat} {α : Type} {enc : α → List Value} {Lo : List Blk} {p : Option Addr} {n c : Nat} {l : List α} [Enc enc k] (h : OwnR T k enc Lo (.slice p n c) l) (hb : l.length ≤ 1000000000) {D : Dat} (hD : ∀ p ∈ Lo, D p) : RowAt D T k enc p c l := by
  obtain ⟨p', c', e, hr⟩ := h.row hb hD
  injection e with e1 e2 e3
  subst e1 e3
  exact hr
theorem clip_calls (p : Option Addr) (n c : Nat) (hc : n ≤ c) (w : World) : Calls Tryz.prog 69 #[.slice p n c] w (Ret (.slice p n n) w) := by
  have hst := Sx.startN w
  have h0 : (0 : Int) ≤ (n : Int) := by omega
  go_enter Tryz.func69, Tryz.ntmps69
  go_wp2_with fail
  go_ret
  exact ⟨rfl, hst.end⟩
def freeGo : Nat → Int → List Int → List Rn → List Rn
  | _, _, [], out => out
  | i, f, s :: l, out => if s = 0 ∧ f < 0 then freeGo (i + 1) i l out else if s ≠ 0 ∧ 0 ≤ f then freeGo (i + 1) (-1) l (out ++ [⟨f, i - f⟩]) else freeGo (i + 1) f l out
def rFree (l : List Int) : List Rn := freeGo 0 (-1) (l ++ [1]) []
set_option maxHeartbeats 1000000 in
theorem free_calls {D : Dat} {p : Option Addr} {c : Nat} {l : List Int} (h : RowAt D 3 1 inL p c l) (hl : l.length ≤ 100000000) (w : World) (hD : Holds D w) : Calls Tryz.prog 34 #[.slice p l.length c] w (OwnRet 36 2 rnL (rFree l) w) := by
  have hst := Sx.start0 w hD
  have hcap := h.cap
  have hr : RowAt D 3 1 inL p l.length l := ⟨Nat.le_refl _, h.big, h.at_⟩
  go_enter Tryz.func34, Tryz.ntmps34
  go_wp2_with (first | fail | (with_reducible (refine callB (clip_calls p _ _ hcap _) hst ?_; clear hst; intro w' hst)) | (with_reducible refine xmk rfl 9 rfl hst #[.int .i64 1] 3 (fun b => .slice (some ⟨b, 0, none⟩) 1 1) (fun w => by kernel_rfl) ?_; clear hst; intro b w' hst) | (with_reducible refine xapF (T := 3) rfl rfl hr 1 rfl rfl rfl rfl hst rfl (by omega) ?_; clear hst; intro p2 c2 w2 Lo m hm hown hst))
  have hst := hst.lay
  have hml : m.length = l.length + 1 := by rw [hm.out]; simp
  have hm2 := hown.rowAt (by omega) (D := fun p => D p ∨ p ∈ Lo) (fun p hp => Or.inr hp)
  have HM : Hid (m.length ≤ 100000001) := Lib.hid (by omega)
  have HF : Hid (freeGo 0 (-1) (m.drop 0) [] = rFree l) := Lib.hid (by rw [hm.out]; rfl)
  clear hown hm hr hcap hl hml
  generalize (fun p => D p ∨ p ∈ Lo) = D2 at *
  go_loopw [3, 4, 12] (fun ov fv iv wr => ∃ (k : Nat) (f : Int) (out : List Rn) (Lo : List Blk), k ≤ m.length ∧ iv = .int .i64 k ∧ fv = .int .i64 f ∧ Hid (f ≤ k ∧ -1 ≤ f ∧ out.length ≤ k) ∧ Sx [] w wr (Lo ++ []) D2 [] ∧ OwnR 36 2 rnL Lo ov out ∧ Hid (freeGo k f (m.drop k) out = rFree l)) (fun _ _ iv _ => m.length - (intOf iv).toNat)
  case atStart => exact ⟨0, -1, [], [], by omega, rfl, rfl, Lib.hid (by simp), hst, OwnR.none _, HF⟩
  case round =>
    obtain ⟨k, f, out, Lo2, hk, rfl, rfl, HB, hst, hown, HF⟩ := hrel
    have hB := HB.out
    have hMM := HM.out
    obtain ⟨p3, c3, rfl⟩ := hown.slice
    by_cases hlt : k < m.length
    · obtain ⟨g, off, rfl⟩ := hm2.at_some hlt
      have hld := hm2.ld1 hlt rfl
      rw [List.drop_eq_getElem_cons hlt] at HF
      generalize m[k] = s at *
      go_wp2_with (first | (with_reducible refine xd rfl rfl rfl hst ?_) | (with_reducible refine xmk rfl 38 rfl hst (rnL ⟨f, k - f⟩).toArray 36 (fun b => .slice (some ⟨b, 0, none⟩) 1 1) (fun w => by kernel_rfl) ?_; clear hst; intro b w' hst) | (with_reducible refine xap1 (T := 36) rfl _ _ rfl ⟨f, k - f⟩ rfl rfl rfl hst hown rfl (by omega) ?_; clear hst; intro p4 c4 w4 Lo4 hown4 hst))
      · go_roundw
        case rel => exact ⟨k + 1, k, out, Lo2, by omega, by go_num, rfl, Lib.hid (by omega), hst, hown, Lib.hid (by rw [← HF.out]; simp [freeGo, *])⟩
        case measure => simp [intOf]; omega
      · go_roundw
        case rel => exact ⟨k + 1, f, out, Lo2, by omega, by go_num, rfl, Lib.hid (by omega), hst, hown, Lib.hid (by
          have hf : ¬ f < 0 := by omega
          rw [← HF.out]; simp [freeGo, *])⟩
        case measure => simp [intOf]; omega
      · have hs : ¬ s = 0 ∧ 0 ≤ f := by simp_all
        have hl : (out ++ [(⟨f, k - f⟩ : Rn)]).length = out.length + 1 := by simp
        have HN : Hid (freeGo (k + 1) (-1) (m.drop (k + 1)) (out ++ [⟨f, k - f⟩]) = rFree l) := Lib.hid (by rw [← HF.out]; simp [freeGo, hs])
        have HL : Hid ((-1 : Int) ≤ (k + 1 : Nat) ∧ (-1 : Int) ≤ -1 ∧ (out ++ [(⟨f, k - f⟩ : Rn)]).length ≤ k + 1) := Lib.hid (by omega)
        clear hl
        go_roundw
        case rel => exact ⟨k + 1, -1, _, Lo4, by omega, by go_num, rfl, HL, hst, hown4, HN⟩
        case measure => simp [intOf]; omega
      · have hs : ¬ s = 0 := by assumption
        have hf : f < 0 := by
          rename_i h
          rcases h with h | h
          · simp [hs] at h
          · exact h
        go_roundw
        case rel => exact ⟨k + 1, f, out, Lo2, by omega, by go_num, rfl, Lib.hid (by omega), hst, hown, Lib.hid (by
          have hf2 : ¬ 0 ≤ f := by omega
          rw [← HF.out]; simp [freeGo, hs, hf, hf2])⟩
        case measure => simp [intOf]; omega
    · obtain rfl : k = m.length := by omega
      rw [List.drop_length] at HF
      have HO : Hid (out = rFree l) := Lib.hid HF.out
      go_wp2_with fail
      go_ret
      rw [HO.out] at hown
      exact ⟨_, Lo2, rfl, by rw [HO.out]; exact hown, hst.takeL.st⟩
end Go.Proofs.YtigihgbgdillpaaGreatDoor
namespace Go.Proofs.YtigihgbgdillpaaGreatDoor
open Go.RowKit

structure Bk where
  st : Int
  data : ByteArray
abbrev bkL (b : Bk) : List Value := [.int .i64 b.st, .string b.data]
inductive Ac
  | write (at_ : Int) (data : ByteArray)
  | erase (at_ : Int)
def Ac.at_ : Ac → Int
  | .write a _ => a
  | .erase a => a
def acV : Ac → Value
  | .write a d => .iface 114 (.agg #[.int .i64 a, .string d])
  | .erase a => .iface 184 (.int .i64 a)
abbrev acL (a : Ac) : List Value := [acV a]
structure Dv where
  sure : List Bk
  now : List Bk
  acts : List Ac
  off : Bool
  starts : Int
  left : Int
  keep : List Int
def Bk.Ok (b : Bk) : Prop := (b.st = 0 ∨ b.st = 1 ∨ b.st = 2) ∧ b.data.size ≤ 1000
structure Dv.Ok (d : Dv) : Prop where
  same : d.sure.length = d.now.length
  min : 4 ≤ d.now.length
  max : d.now.length ≤ 512
  acts : ∀ a ∈ d.acts, ∃ k : Nat, a.at_ = k ∧ k < d.now.length
  adat : ∀ a ∈ d.acts, ∀ x s, a = .write x s → s.size ≤ 1000
  bsure : ∀ b ∈ d.sure, b.Ok
  bnow : ∀ b ∈ d.now, b.Ok
  left : I64 d.left
  keep : ∀ k ∈ d.keep, I64 k
def b0 : Bk := ⟨0, noS⟩
instance encBk : Enc bkL 2 := ⟨fun _ => rfl, fun x v hv => by simp at hv; rcases hv with rfl | rfl <;> rfl⟩
instance eltBk : Elt 74 2 := ⟨.agg #[.int .i64 0, .string ⟨#[]⟩], 24, by kernel_rfl, rfl, by decide, by decide⟩
instance sltBk : SlT 61 74 := ⟨Tryz.underlying61⟩
instance aggBk : AggT 74 2 := ⟨fun w => by kernel_rfl, by kernel_rfl⟩
instance zeroBk : ZeroT 74 #[.int .i64 0, .string ⟨#[]⟩] := .agg fun w => by kernel_rfl
instance encAc : Enc acL 1 := ⟨fun _ => rfl, fun x v hv => by simp at hv; subst hv; cases x <;> rfl⟩
instance eltAc : Elt 71 1 := ⟨.nilIface, 16, by kernel_rfl, rfl, by decide, by decide⟩
instance sltAc : SlT 62 71 := ⟨Tryz.underlying62⟩
instance oneAc : OneT 71 := ⟨fun w => by kernel_rfl, by kernel_rfl⟩
instance oneBks : OneT 61 := ⟨fun w => by kernel_rfl, by kernel_rfl⟩
instance oneAcs : OneT 62 := ⟨fun w => by kernel_rfl, by kernel_rfl⟩
instance oneInts : OneT 59 := ⟨fun w => by kernel_rfl, by kernel_rfl⟩
instance aggDev : AggT 69 7 := ⟨fun w => by kernel_rfl, by kernel_rfl⟩
instance fldDev0 : Fx.FldT 69 0 0 := ⟨fun ad w => by kernel_rfl⟩
instance fldDev1 : Fx.FldT 69 1 1 := ⟨fun ad w => by kernel_rfl⟩
instance fldDev2 : Fx.FldT 69 2 2 := ⟨fun ad w => by kernel_rfl⟩
instance fldDev3 : Fx.FldT 69 3 3 := ⟨fun ad w => by kernel_rfl⟩
instance fldDev5 : Fx.FldT 69 5 5 := ⟨fun ad w => by kernel_rfl⟩
instance fldDev6 : Fx.FldT 69 6 6 := ⟨fun ad w => by kernel_rfl⟩

/-- Where its parts lie. -/
structure Dp where
  gs : Nat
  cs : Nat
  Cs : Array Value
  gn : Nat
  cn : Nat
  Cn : Array Value
  va : Value
  La : List Blk
  vk : Value
def devC (d : Dv) (q : Dp) : Array Value := #[.slice (some ⟨q.gs, 0, none⟩) d.sure.length q.cs, .slice (some ⟨q.gn, 0, none⟩) d.now.length q.cn, q.va, .bool d.off, .int .i64 d.starts, .int .i64 d.left, q.vk]
def devL (g : Nat) (d : Dv) (q : Dp) : List Blk := (g, devC d q, 69) :: (q.gs, q.Cs, 74) :: (q.gn, q.Cn, 74) :: q.La
structure DevMem (D : Dat) (d : Dv) (q : Dp) : Prop where
  ok : d.Ok
  sl : d.sure.length ≤ q.cs
  ss : q.Cs.size = q.cs * 2
  st : q.Cs.toList.take (d.sure.length * 2) = d.sure.flatMap bkL
  nl : d.now.length ≤ q.cn
  ns : q.Cn.size = q.cn * 2
  nt : q.Cn.toList.take (d.now.length * 2) = d.now.flatMap bkL
  ac : OwnR 71 1 acL q.La q.va d.acts
  al : d.acts.length ≤ 1000000
  kp : RowD D 3 1 inL q.vk d.keep
/-- A device d whose struct is block g, with all that lies still beside it. -/
structure DevW (D : Dat) (F : List Nat) (w : World) (g : Nat) (d : Dv) : Prop where
  data : Holds D w
  apart : ∀ x ∈ F, ∀ p, D p → p.1 ≠ x
  mem : ∃ q, DevMem D d q ∧ F = (devL g d q).map (·.1) ∧ F.Nodup ∧ ∀ p ∈ devL g d q, w.heap[p.1]? = some (.cells p.2.1 p.2.2 (0, 0))
theorem DevW.below {D : Dat} {F : List Nat} {w w' : World} {g : Nat} {d : Dv} (h : DevW D F w g d) (hb : Below w.heap.size w w') : DevW D F w' g d where
  data p hp := by
    obtain ⟨z, hz⟩ := h.data p hp
    exact ⟨z, (hb.block _ (lt_of_heap' hz)).trans hz⟩
  apart := h.apart
  mem := by
    obtain ⟨q, h1, h2, h3, h4⟩ := h.mem
    exact ⟨q, h1, h2, h3, fun p hp => (hb.block _ (lt_of_heap' (h4 p hp))).trans (h4 p hp)⟩
theorem DevW.ok {D : Dat} {F : List Nat} {w : World} {g : Nat} {d : Dv} (h : DevW D F w g d) : d.Ok := by
  obtain ⟨q, h1, _⟩ := h.mem
  exact h1.ok
/-- All of it as data that lie still. -/
theorem DevW.ro {D : Dat} {F : List Nat} {w : World} {g : Nat} {d : Dv} (h : DevW D F w g d) : ∃ (D2 : Dat) (q : Dp), Holds D2 w ∧ (∀ p, D p → D2 p) ∧ D2 (g, devC d q, 69) ∧ RowAt D2 74 2 bkL (some ⟨q.gs, 0, none⟩) q.cs d.sure ∧ RowAt D2 74 2 bkL (some ⟨q.gn, 0, none⟩) q.cn d.now ∧ RowD D2 71 1 acL q.va d.acts := by
  obtain ⟨q, m, _, _, hb⟩ := h.mem
  have h1 := m.ok.max
  have h2 := m.ok.same
  have h3 := m.al
  refine ⟨fun p => D p ∨ p ∈ devL g d q, q, fun p hp => ?_, fun p hp => Or.inl hp, Or.inr (by simp [devL]), ?_, ?_, ?_⟩
  · rcases hp with hp | hp
    · exact h.data p hp
    · exact ⟨_, hb p hp⟩
  · exact RowAt.ofBlock (Or.inr (by simp [devL])) m.sl (by omega) m.st
  · exact RowAt.ofBlock (Or.inr (by simp [devL])) m.nl (by omega) m.nt
  · exact m.ac.row (by omega) (fun p hp => Or.inr (by simp [devL, hp]))
theorem ldC {D : Dat} {g j : Nat} {C : Array Value} {T U : TypeId} {v : Value} [OneT U] (h : D (g, C, T)) (hv : C[j]? = some v) : LdD D U ⟨g, j, none⟩ v := LdD.one h hv
def dOn (d : Dv) : Int := if d.off then 43 else 0
def dState (d : Dv) (i : Int) : Int := if i < 0 ∨ (d.now.length : Int) ≤ i then -1 else (d.now.getD i.toNat b0).st
def dBlock (d : Dv) (i : Int) : Int := if dOn d = 0 ∧ dState d i < 0 then 2 else dOn d
def dRead (d : Dv) (i : Int) : ByteArray × Int := if dBlock d i ≠ 0 then (noS, dBlock d i) else if dState d i = 0 then (noS, 41) else if dState d i = 2 then (noS, 42) else ((d.now.getD i.toNat b0).data, 0)
section
variable {D : Dat} {F : List Nat} {w : World} {g : Nat} {d : Dv}
theorem dlen_nil (w : World) : Calls Tryz.prog 20 #[.pointer none] w (Ret (.int .i64 0) w) := by
  have hst := Sx.startN w
  go_enter Tryz.func20, Tryz.ntmps20
  go_wp2_with (with_reducible refine xval rfl 4 rfl (.bool true) (fun w => by kernel_rfl) ?_)
  go_ret
  exact ⟨rfl, hst.end⟩
theorem dlen_calls (h : DevW D F w g d) : Calls Tryz.prog 20 #[.pointer (some ⟨g, 0, none⟩)] w (Ret (.int .i64 d.now.length) w) := by
  obtain ⟨D2, q, hD, _, h0, _, _, _⟩ := h.ro
  have hst := Sx.start0 w hD
  have e1 : LdD D2 61 ⟨g, 1, none⟩ (.slice (some ⟨q.gn, 0, none⟩) d.now.length q.cn) := ldC h0 rfl
  go_enter Tryz.func20, Tryz.ntmps20
  go_wp2_with (first | (with_reducible refine xd rfl rfl rfl hst ?_) | (with_reducible refine xval rfl 4 rfl (.bool false) (fun w => by kernel_rfl) ?_))
  go_ret
  exact ⟨rfl, hst.end⟩
theorem dstate_calls (h : DevW D F w g d) (i : Int) : Calls Tryz.prog 50 #[.pointer (some ⟨g, 0, none⟩), .int .i64 i] w (Ret (.int .i64 (dState d i)) w) := by
  obtain ⟨D2, q, hD, _, h0, _, hn, _⟩ := h.ro
  have HL := Lib.hid (fun w' (hb : Below w.heap.size w w') => dlen_calls (h.below hb))
  have hst := Sx.start0 w hD
  have e1 : LdD D2 61 ⟨g, 1, none⟩ (.slice (some ⟨q.gn, 0, none⟩) d.now.length q.cn) := ldC h0 rfl
  by_cases h1 : i < 0
  · have HS : Hid (dState d i = -1) := Lib.hid (if_pos (Or.inl h1))
    go_enter Tryz.func50, Tryz.ntmps50
    go_wp2_with fail
    go_ret
    exact ⟨by rw [HS.out]; rfl, hst.end⟩
  · obtain ⟨k, rfl⟩ : ∃ k : Nat, i = k := ⟨i.toNat, by omega⟩
    by_cases h2 : k < d.now.length
    · have HS : Hid (dState d k = d.now[k].st) := Lib.hid (by unfold dState; rw [if_neg (by omega)]; simp [h2])
      have e2 := hn.ldf h2 0 (U := 3) (v := .int .i64 d.now[k].st) rfl (ad := ⟨q.gn, k * 2, none⟩) (by simp)
      generalize d.now[k] = b at *
      go_enter Tryz.func50, Tryz.ntmps50
      go_wp2_with (first | (with_reducible refine xd rfl rfl rfl hst ?_) | (with_reducible (refine callB (HL.out _ hst.end) hst ?_; clear hst; intro w' hst)))
      go_ret
      exact ⟨by rw [HS.out]; rfl, hst.end⟩
    · have HS : Hid (dState d k = -1) := Lib.hid (if_pos (Or.inr (by omega)))
      go_enter Tryz.func50, Tryz.ntmps50
      go_wp2_with (first | fail | (with_reducible (refine callB (HL.out _ hst.end) hst ?_; clear hst; intro w' hst)))
      go_ret
      exact ⟨by rw [HS.out]; rfl, hst.end⟩
end
end Go.Proofs.YtigihgbgdillpaaGreatDoor
namespace Go.Proofs.YtigihgbgdillpaaGreatDoor
open Go.RowKit

theorem ret_intx {k : IntKind} {a b : Int} (h : a = b) : Ending.returned (.int k a) = .returned (.int k b) := by rw [h]
theorem don_nil (w : World) : Calls Tryz.prog 18 #[.pointer none] w (Ret (.int .i64 1) w) := by
  have hst := Sx.startN w
  go_enter Tryz.func18, Tryz.ntmps18
  go_wp2_with (first | (with_reducible (refine callB (dlen_nil _) hst ?_; clear hst; intro w' hst)))
  go_ret
  exact ⟨rfl, hst.end⟩
theorem dup_nil (w : World) : Calls Tryz.prog 21 #[.pointer none] w (Ret (.bool false) w) := by
  have hst := Sx.startN w
  go_enter Tryz.func21, Tryz.ntmps21
  go_wp2_with (first | (with_reducible (refine callB (don_nil _) hst ?_; clear hst; intro w' hst)))
  go_ret
  exact ⟨rfl, hst.end⟩
section
variable {D : Dat} {F : List Nat} {w : World} {g : Nat} {d : Dv}
theorem don_calls (h : DevW D F w g d) : Calls Tryz.prog 18 #[.pointer (some ⟨g, 0, none⟩)] w (Ret (.int .i64 (dOn d)) w) := by
  obtain ⟨D2, q, hD, _, h0, _, _, _⟩ := h.ro
  have HL := Lib.hid (fun w' (hb : Below w.heap.size w w') => dlen_calls (h.below hb))
  have hst := Sx.start0 w hD
  have hmin := h.ok.min
  have e1 : LdD D2 4 ⟨g, 3, none⟩ (.bool d.off) := ldC h0 rfl
  unfold dOn
  generalize d.off = o at *
  go_enter Tryz.func18, Tryz.ntmps18
  go_wp2_with (first | (with_reducible refine xd rfl rfl rfl hst ?_) | (with_reducible (refine callB (HL.out _ hst.end) hst ?_; clear hst; intro w' hst)))
  all_goals
    go_ret
    exact ⟨by simp [*], hst.end⟩
theorem dup_calls (h : DevW D F w g d) : Calls Tryz.prog 21 #[.pointer (some ⟨g, 0, none⟩)] w (Ret (.bool (!d.off)) w) := by
  have hst := Sx.start0 w h.data
  have HO := Lib.hid (don_calls h)
  have HE : Hid ((dOn d == 0) = !d.off) := Lib.hid (by unfold dOn; cases d.off <;> rfl)
  generalize dOn d = x at *
  go_enter Tryz.func21, Tryz.ntmps21
  go_wp2_with (first | fail | (with_reducible (refine callB HO.out hst ?_; clear hst; intro w' hst)))
  go_ret
  refine ⟨?_, hst.end⟩
  rw [← HE.out]
  rfl
theorem dblock_calls (h : DevW D F w g d) (i : Int) : Calls Tryz.prog 78 #[.pointer (some ⟨g, 0, none⟩), .int .i64 i] w (Ret (.int .i64 (dBlock d i)) w) := by
  have hst := Sx.start0 w h.data
  have HO := Lib.hid (don_calls h)
  have HS := Lib.hid (fun w' (hb : Below w.heap.size w w') => dstate_calls (h.below hb) i)
  unfold dBlock
  generalize dOn d = x at *
  generalize dState d i = y at *
  go_enter Tryz.func78, Tryz.ntmps78
  go_wp2_with (first | fail | (with_reducible (refine callB HO.out hst ?_; clear hst; intro w' hst)) | (with_reducible (refine callB (HS.out _ hst.end) hst ?_; clear hst; intro w' hst)))
  all_goals
    go_ret
    refine ⟨?_, hst.end⟩
    refine ret_intx ?_
    simp_all
  all_goals omega
/-- Two results. -/
theorem dread_calls (h : DevW D F w g d) (i : Int) : Calls Tryz.prog 81 #[.pointer (some ⟨g, 0, none⟩), .int .i64 i] w (Ret (.tuple #[.string (dRead d i).1, .int .i64 (dRead d i).2]) w) := by
  obtain ⟨D2, q, hD, _, h0, _, hn, _⟩ := h.ro
  have hst := Sx.start0 w hD
  have HO := Lib.hid (dblock_calls h i)
  have HS := Lib.hid (fun w' (hb : Below w.heap.size w w') => dstate_calls (h.below hb) i)
  have e1 : LdD D2 61 ⟨g, 1, none⟩ (.slice (some ⟨q.gn, 0, none⟩) d.now.length q.cn) := ldC h0 rfl
  by_cases hb : dBlock d i = 0
  case neg =>
    have HR : Hid (dRead d i = (noS, dBlock d i)) := Lib.hid (by unfold dRead; rw [if_pos hb])
    have hne : (dBlock d i != 0) = true := by simpa using hb
    generalize dBlock d i = x at *
    clear hb
    go_enter Tryz.func81, Tryz.ntmps81
    go_wp2_with (first | fail | (with_reducible (refine callB HO.out hst ?_; clear hst; intro w' hst)))
    go_ret2
    exact ⟨by rw [HR.out]; rfl, hst.end⟩
  case pos =>
    have hs : ¬ dState d i < 0 := fun h1 => by
      unfold dBlock at hb
      split at hb
      · omega
      · rename_i h2; exact h2 ⟨hb, h1⟩
    obtain ⟨k, rfl, hk⟩ : ∃ k : Nat, i = k ∧ k < d.now.length := by
      unfold dState at hs
      split at hs
      · omega
      · exact ⟨i.toNat, by omega, by omega⟩
    have HR : Hid (dRead d k = if dState d k = 0 then (noS, 41) else if dState d k = 2 then (noS, 42) else (d.now[k].data, 0)) := Lib.hid (by
      unfold dRead
      rw [if_neg (fun h => h hb)]
      simp [hk])
    have e2 := hn.ldf hk 1 (U := 9) (v := .string d.now[k].data) rfl (ad := ⟨q.gn, k * 2 + 1, none⟩) (by simp)
    rw [hb] at HO
    generalize d.now[k].data = s at *
    generalize dState d k = y at *
    generalize dRead d k = res at *
    clear hb hs
    have key : ∀ r : ByteArray × Int, res = r → ((y == 0) = true ∧ r = (noS, 41) ∨ (y == 0) = false ∧ ((y == 2) = true ∧ r = (noS, 42) ∨ (y == 2) = false ∧ r = (s, 0))) → Calls Tryz.prog 81 #[.pointer (some ⟨g, 0, none⟩), .int .i64 (k : Int)] w (Ret (.tuple #[.string r.1, .int .i64 r.2]) w) := by
      intro r _ hc
      clear HR
      rcases hc with ⟨h1, rfl⟩ | ⟨h1, ⟨h2, rfl⟩ | ⟨h2, rfl⟩⟩
      all_goals
        go_enter Tryz.func81, Tryz.ntmps81
        go_wp2_with (first | (with_reducible refine xd rfl rfl rfl hst ?_) | (with_reducible (refine callB HO.out hst ?_; clear hst; intro w' hst)) | (with_reducible (refine callB (HS.out _ hst.end) hst ?_; clear hst; intro w' hst)))
        go_ret2
        exact ⟨rfl, hst.end⟩
    refine key res rfl ?_
    rw [HR.out]
    by_cases h1 : y = 0
    · exact Or.inl ⟨by simp [h1], if_pos h1⟩
    · refine Or.inr ⟨by simp [h1], ?_⟩
      rw [if_neg h1]
      by_cases h2 : y = 2
      · exact Or.inl ⟨by simp [h2], if_pos h2⟩
      · exact Or.inr ⟨by simp [h2], if_neg h2⟩
def dStates (d : Dv) : List Int := d.now.map (·.st)
theorem dState_at {d : Dv} {k : Nat} (hk : k < d.now.length) : dState d k = (d.now[k]).st := by
  unfold dState
  rw [if_neg (by omega)]
  simp [hk]
set_option maxHeartbeats 1000000 in
theorem dstates_calls (h : DevW D F w g d) : Calls Tryz.prog 35 #[.pointer (some ⟨g, 0, none⟩)] w (OwnRet 3 1 inL (dStates d) w) := by
  have hst := Sx.start0 w h.data
  have hmax := h.ok.max
  have HL := Lib.hid (fun w' (hb : Below w.heap.size w w') => dlen_calls (h.below hb))
  have HS := Lib.hid (fun (k : Nat) w' (hb : Below w.heap.size w w') => dstate_calls (h.below hb) k)
  go_enter Tryz.func35, Tryz.ntmps35
  go_wp2_with (first | fail | (with_reducible (refine callB (HL.out _ hst.end) hst ?_; clear hst; intro w' hst)))
  go_loopw [3, 7] (fun ov iv wr => ∃ (k : Nat) (Lo : List Blk) (out : List Int), k ≤ d.now.length ∧ iv = .int .i64 k ∧ Hid (out = (dStates d).take k) ∧ Sx [] w wr (Lo ++ []) D [] ∧ OwnR 3 1 inL Lo ov out) (fun _ iv _ => d.now.length - (intOf iv).toNat)
  case atStart => exact ⟨0, [], [], by omega, rfl, Lib.hid rfl, hst, OwnR.none _⟩
  case round =>
    obtain ⟨k, Lo, out, hk, rfl, HO, hst, hown⟩ := hrel
    obtain ⟨p3, c3, rfl⟩ := hown.slice
    have hol : out.length ≤ 512 := by rw [HO.out, List.length_take]; omega
    by_cases hlt : k < d.now.length
    · have HC := Lib.hid (HS.out k wr hst.end)
      have HT : Hid ((dStates d).take (k + 1) = out ++ [dState d k]) := Lib.hid (by
        rw [HO.out, List.take_succ_eq_append_getElem (by simpa [dStates] using hlt), dState_at hlt]
        simp [dStates])
      generalize dState d k = s at *
      go_wp2_with (first | fail | (with_reducible (refine callB HC.out hst ?_; clear hst; intro w' hst)) | (with_reducible refine xmk rfl 14 rfl hst #[.int .i64 s] 3 (fun b => .slice (some ⟨b, 0, none⟩) 1 1) (fun w => by kernel_rfl) ?_; clear hst; intro b w' hst) | (with_reducible refine xap1 (T := 3) rfl _ _ rfl s rfl rfl rfl hst hown rfl (by omega) ?_; clear hst; intro p4 c4 w4 Lo4 hown4 hst))
      go_roundw
      case rel => exact ⟨k + 1, Lo4, _, by omega, by go_num, Lib.hid HT.out.symm, hst, hown4⟩
      case measure => simp [intOf]; omega
    · obtain rfl : k = d.now.length := by omega
      have HE : Hid (out = dStates d) := Lib.hid (by rw [HO.out, List.take_of_length_le (by simp [dStates])])
      go_wp2_with fail
      go_ret
      rw [HE.out] at hown
      exact ⟨_, Lo, rfl, by rw [HE.out]; exact hown, hst.takeL.st⟩
end
end Go.Proofs.YtigihgbgdillpaaGreatDoor
