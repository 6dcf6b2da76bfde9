/- A drawn region that reads, calls what makes new blocks, makes blocks and stores: one walk in the order of the text serves every order. Its operations are quiet (pure: the same value in whatever world; else: the same value in every world of a class B) or special (alloc, store): a special one that does not wait for all quiet ones that are not pure must keep to B. -/
import Derived.Orders
import Derived.Still
import Derived.Deep.Quiet
import Derived.Test.YtigihgbgdillpaaGreatDoorP04
set_option linter.unusedVariables false
set_option linter.unusedSimpArgs false
set_option maxRecDepth 100000
namespace Go.Proofs.YtigihgbgdillpaaGreatDoor
open Go.RowKit

theorem quietUpon_mono {C C' : World → Prop} (h : ∀ x, C x → C' x) {w : World} {v : Value} {r : Result Next} (hh : Oper.quietUpon Tryz.prog C w v r) : Oper.quietUpon Tryz.prog C' w v r := by
  cases r with
  | ok n w' =>
    cases n <;> simp only [Oper.quietUpon] at hh ⊢
    case value u => exact hh
    case skip => exact hh
    case enter f args => exact ⟨hh.1, hh.2.mono fun e w'' hx => ⟨hx.1, h _ hx.2⟩⟩
  | halt x w' => simp only [Oper.quietUpon] at hh

/-- What a region's proof chooses. -/
structure Flow where
  S : List Nat
  w0 : World
  B : World → Prop
  special : Nat → Bool
  pure : Nat → Bool
  late : Nat → Bool
def Flow.cls (F : Flow) (i : Nat) (w : World) : Prop := F.pure i = true ∨ F.B w
/-- In every world of the class the operation yields v, and lays new blocks at most. -/
def XQ (C : World → Prop) (o : Oper) (a : Act) (v : Value) : Prop := ∀ w, C w → o.quietAt Tryz.prog a (fun x => Below w.heap.size w x) w v
/-- The same, or the operation is passed over by its guard. -/
def YX (ops : Array Oper) (C : World → Prop) (o : Oper) (a : Act) (v : Value) : Prop := (Region.wanted o (yielded ops a.tmps) = true ∧ XQ C o a v) ∨ (Region.wanted o (yielded ops a.tmps) = false ∧ v = undef)
/-- What a special operation may do. -/
def SP (F : Flow) (L : List Blk) (s : Sem Next) (R : List Blk → Value → Prop) : Prop :=
  ∀ w, St F.S F.w0 w L → (∃ u w' L', s.run Tryz.prog w = .ok (.value u) w' ∧ R L' u ∧ St F.S F.w0 w' L') ∨ (∃ w' L', s.run Tryz.prog w = .ok .skip w' ∧ R L' undef ∧ St F.S F.w0 w' L')
def xdo (ops : Array Oper) (F : Flow) (i : Nat) (o : Oper) (K : List Blk → Act → Prop) (L : List Blk) (a : Act) : Prop :=
  if F.special i = true then ∃ R, SP F L (execOp a.eval o) R ∧ ∀ L' u, R L' u → (F.late i = true ∨ ∀ w, St F.S F.w0 w L' → F.B w) ∧ K L' (a.put o.dst u)
  else ∃ v, YX ops (F.cls i) o a v ∧ (∀ w, St F.S F.w0 w L → F.cls i w) ∧ K L (a.put o.dst v)
section
variable {ops : Array Oper} {F : Flow} {Qf : List Blk → Act → Prop}
def xstep (ops : Array Oper) (F : Flow) (i : Nat) (K : List Blk → Act → Prop) (L : List Blk) (a : Act) : Prop :=
  match ops[i]? with
  | none => False
  | some o => xdo ops F i o K L a
theorem xdo_mono {i : Nat} {o : Oper} {K K' : List Blk → Act → Prop} {L : List Blk} {a : Act} (h : ∀ L a, K L a → K' L a) (hh : xdo ops F i o K L a) : xdo ops F i o K' L a := by
  unfold xdo at *
  split
  · rename_i h1; rw [if_pos h1] at hh; exact ⟨hh.choose, hh.choose_spec.1, fun L' u hr => ⟨(hh.choose_spec.2 L' u hr).1, h _ _ (hh.choose_spec.2 L' u hr).2⟩⟩
  · rename_i h1; rw [if_neg h1] at hh; exact ⟨hh.choose, hh.choose_spec.1, hh.choose_spec.2.1, h _ _ hh.choose_spec.2.2⟩
def wpX (ops : Array Oper) (F : Flow) (Qf : List Blk → Act → Prop) : Nat → Array Bool → List Blk → Act → Prop
  | 0, listed, L, a => Region.ready .any ops listed = [] ∧ Qf L a
  | f + 1, listed, L, a => (Region.ready .any ops listed = [] → Qf L a) ∧
    ∀ i ∈ Region.ready .any ops listed, xstep ops F i (wpX ops F Qf f (listed.setIfInBounds i true)) L a

theorem XQ.wp {C : World → Prop} {o : Oper} {a : Act} {v : Value} {w : World} {K : Act → World → Prop} {Q' : Exit → Act → World → Prop} (h : XQ C o a v) (hw : C w) (hK : ∀ w', Below w.heap.size w w' → K (a.put o.dst v) w') : o.wp Tryz.prog a w K Q' := by
  have h3 := h w hw
  unfold Oper.quietAt at h3
  unfold Oper.wp
  generalize (execOp a.eval o).run Tryz.prog w = r at *
  cases r with
  | ok n w' =>
    cases n <;> simp only [Oper.quietUpon] at h3 <;> simp only [Oper.upon]
    case value u =>
      obtain ⟨e1, e2⟩ := h3
      rw [e1, e2]
      exact hK _ (Below.refl _ _)
    case skip =>
      obtain ⟨e1, e2⟩ := h3
      rw [e1, ← e2]
      exact hK _ (Below.refl _ _)
    case enter f args =>
      obtain ⟨e1, hc⟩ := h3
      rw [e1]
      exact hc.mono fun e w'' ⟨he, hw''⟩ => by subst he; exact hK _ hw''
  | halt x w' => simp only [Oper.quietUpon] at h3
theorem XQ.put {C : World → Prop} {o : Oper} {a : Act} {v u : Value} {d : Option Tmp} (hs : ∀ cs b, o.op ≠ .select cs b) (hd : ∀ t, d = some t → t ∉ o.looksAt ops) (h : XQ C o a v) : XQ C o (a.put d u) v := fun w hw => by
  have := h w hw
  unfold Oper.quietAt at *
  rw [execOp_put o hs a d u hd]
  exact this
theorem XQ.unput {C : World → Prop} {o : Oper} {a : Act} {v u : Value} {d : Option Tmp} (hs : ∀ cs b, o.op ≠ .select cs b) (hd : ∀ t, d = some t → t ∉ o.looksAt ops) (h : XQ C o (a.put d u) v) : XQ C o a v := fun w hw => by
  have := h w hw
  unfold Oper.quietAt at *
  rw [execOp_put o hs a d u hd] at this
  exact this

theorem YX.put {C : World → Prop} {o : Oper} {a : Act} {v u : Value} {d : Option Tmp} (hs : ∀ cs b, o.op ≠ .select cs b) (hd : ∀ t, d = some t → t ∉ o.looksAt ops) (h : YX ops C o a v) : YX ops C o (a.put d u) v := by
  unfold YX at *
  rw [wanted_put o a d u hd]
  exact h.imp (fun k => ⟨k.1, k.2.put (ops := ops) hs hd⟩) id
theorem YX.unput {C : World → Prop} {o : Oper} {a : Act} {v u : Value} {d : Option Tmp} (hs : ∀ cs b, o.op ≠ .select cs b) (hd : ∀ t, d = some t → t ∉ o.looksAt ops) (h : YX ops C o (a.put d u) v) : YX ops C o a v := by
  unfold YX at *
  rw [wanted_put o a d u hd] at h
  exact h.imp (fun k => ⟨k.1, k.2.unput (ops := ops) hs hd⟩) id

theorem wpAny_of_X (hg : ∀ (i : Nat) (o : Oper), ops[i]? = some o → F.special i = true → o.guard = none) {Q' : Exit → Act → World → Prop} (hQ : ∀ L a w, St F.S F.w0 w L → Qf L a → Q' .normal a w) :
    ∀ (fuel : Nat) (listed : Array Bool) (L : List Blk) (a : Act) (w : World), St F.S F.w0 w L → wpX ops F Qf fuel listed L a → wpAny Tryz.prog .any ops Q' fuel listed a w
  | 0, _, _, _, _, hw, h => ⟨h.1, hQ _ _ _ hw h.2⟩
  | fuel + 1, listed, L, a, w, hw, h => ⟨fun h0 => hQ _ _ _ hw (h.1 h0), fun i hir => by
      have hx := h.2 i hir
      unfold xstep at hx
      unfold wpOp
      cases ho : ops[i]? with
      | none => rw [ho] at hx; exact hx.elim
      | some o =>
        rw [ho] at hx
        simp only at hx ⊢
        unfold xdo at hx
        split at hx
        · rename_i hsi
          obtain ⟨R, hsp, hk⟩ := hx
          have hwant : Region.wanted o (yielded ops a.tmps) = true := by unfold Region.wanted; rw [hg i o ho hsi]
          rw [if_pos hwant]
          left
          unfold Oper.wp
          rcases hsp w hw with ⟨u, w', L', hr, hR, hst⟩ | ⟨w', L', hr, hR, hst⟩
          · rw [hr]
            exact wpAny_of_X hg hQ fuel _ _ _ _ hst (hk _ _ hR).2
          · rw [hr]
            exact wpAny_of_X hg hQ fuel _ _ _ _ hst (hk _ _ hR).2
        · obtain ⟨v, hq, hc, hk⟩ := hx
          rcases hq with ⟨hwant, hq⟩ | ⟨hwant, rfl⟩
          · rw [if_pos hwant]
            exact Or.inl (hq.wp (hc w hw) (fun w' hb => wpAny_of_X hg hQ fuel _ _ _ _ (hw.below hb) hk))
          · rw [if_neg (by rw [hwant]; simp)]
            exact wpAny_of_X hg hQ fuel _ _ _ _ hw hk⟩

theorem wpX_first {i : Nat} {oi : Oper} {v : Value} (hi : ops[i]? = some oi) (his : F.special i = false) (hsel : ∀ (j : Nat) (o : Oper) cs b, ops[j]? = some o → o.op ≠ .select cs b)
    (hlate : ∀ (j : Nat) (oj : Oper), ops[j]? = some oj → F.late j = true → F.pure i = false → ∃ e ∈ oj.after, Region.binds .any e = true ∧ e.on = i) :
    ∀ (fuel : Nat) (listed : Array Bool) (L : List Blk) (a : Act),
      (∀ j oj, ops[j]? = some oj → j ≠ i → listed.getD j true = false → (∀ e ∈ oj.after, Region.binds .any e = true → e.on ≠ i) → oi.apart ops oj = true) →
      i ∈ Region.ready .any ops listed → YX ops (F.cls i) oi a v → (∀ w, St F.S F.w0 w L → F.cls i w) →
      wpX ops F Qf fuel (listed.setIfInBounds i true) L (a.put oi.dst v) → wpX ops F Qf (fuel + 1) listed L a := by
  have taken : ∀ (K : List Blk → Act → Prop) (L : List Blk) (a : Act), YX ops (F.cls i) oi a v → (∀ w, St F.S F.w0 w L → F.cls i w) → K L (a.put oi.dst v) → xstep ops F i K L a := fun K L a hy hc H => by
    unfold xstep
    rw [hi]
    show xdo _ _ _ _ _ _ _
    unfold xdo
    rw [his, if_neg (by simp)]
    exact ⟨v, hy, hc, H⟩
  intro fuel
  induction fuel with
  | zero =>
    intro listed L a _ hr hy hc H
    refine ⟨fun h => (by rw [h] at hr; cases hr), fun j hj => ?_⟩
    by_cases hji : j = i
    · subst hji; exact taken _ _ _ hy hc H
    · have := ready_mono hj hji
      rw [H.1] at this
      cases this
  | succ fuel ih =>
    intro listed L a hfree hr hy hc H
    refine ⟨fun h => (by rw [h] at hr; cases hr), fun j hj => ?_⟩
    by_cases hji : j = i
    · subst hji; exact taken _ _ _ hy hc H
    · have h1 := H.2 j (ready_mono hj hji)
      obtain ⟨hjun, oj, hoj, hall⟩ := mem_ready.1 hj
      have hnot : ∀ e ∈ oj.after, Region.binds .any e = true → e.on ≠ i := fun e he hb heq => by
        have h1 := hall e he hb
        have h0 := (mem_ready.1 hr).1
        rw [heq] at h1
        rcases Nat.lt_or_ge i listed.size with h' | h'
        · simp [h'] at h0 h1; rw [h0] at h1; cases h1
        · simp [Array.getElem?_eq_none h'] at h1
      obtain ⟨p1, p2, p3⟩ := Oper.apart_spec (hfree j oj hoj hji hjun hnot)
      have hfree' : ∀ k ok, ops[k]? = some ok → k ≠ i → (listed.setIfInBounds j true).getD k true = false →
          (∀ e ∈ ok.after, Region.binds .any e = true → e.on ≠ i) → oi.apart ops ok = true := fun k ok hk hki hun hno => by
        refine hfree k ok hk hki ?_ hno
        by_cases hjk : j = k
        · subst hjk; exact hjun
        · rw [getD_set_ne true hjk] at hun; exact hun
      have next : ∀ (L' : List Blk) (u : Value), (∀ w, St F.S F.w0 w L' → F.cls i w) → wpX ops F Qf fuel ((listed.setIfInBounds i true).setIfInBounds j true) L' ((a.put oi.dst v).put oj.dst u) →
          wpX ops F Qf (fuel + 1) (listed.setIfInBounds j true) L' (a.put oj.dst u) := fun L' u hc' hh => by
        refine ih (listed.setIfInBounds j true) L' _ hfree' (ready_mono hr (Ne.symm hji)) (hy.put (fun cs b => hsel i oi cs b hi) p3) hc' ?_
        rw [Array.setIfInBounds_comm _ _ hji, ← Act.put_comm a v u p2]
        exact hh
      unfold xstep at h1 ⊢
      rw [hoj] at h1 ⊢
      simp only at h1 ⊢
      unfold xdo at h1 ⊢
      by_cases hjs : F.special j = true
      · rw [if_pos hjs] at h1 ⊢
        obtain ⟨R, hsp, hk⟩ := h1
        rw [execOp_put oj (fun cs b => hsel j oj cs b hoj) a oi.dst v p1] at hsp
        refine ⟨R, hsp, fun L' u hR => ⟨(hk L' u hR).1, next _ _ ?_ (hk L' u hR).2⟩⟩
        intro w hw
        cases hp : F.pure i with
        | true => exact Or.inl hp
        | false =>
          rcases (hk L' u hR).1 with h2 | h2
          · obtain ⟨e, he, hb, hon⟩ := hlate j oj hoj h2 hp
            exact absurd hon (hnot e he hb)
          · exact Or.inr (h2 w hw)
      · rw [if_neg hjs] at h1 ⊢
        obtain ⟨u, hu, hcj, hk⟩ := h1
        exact ⟨u, hu.unput (fun cs b => hsel j oj cs b hoj) p1, hcj, next _ _ hc hk⟩

/-- An order: the numbers of the operations. -/
def wpLX (ops : Array Oper) (F : Flow) (Qf : List Blk → Act → Prop) : List Nat → List Blk → Act → Prop
  | [], L, a => Qf L a
  | i :: is, L, a => xstep ops F i (wpLX ops F Qf is) L a
def lexX (ops : Array Oper) (special : Nat → Bool) : List Nat → Array Bool → Bool
  | [], listed => (Region.ready .any ops listed).isEmpty
  | k :: is, listed => (if special k then Region.ready .any ops listed == [k] else (Region.ready .any ops listed).contains k && Region.free .any ops listed k) && lexX ops special is (listed.setIfInBounds k true)
def lateX (ops : Array Oper) (special pure late : Nat → Bool) : Bool :=
  (List.range ops.size).all fun j => !late j || (List.range ops.size).all fun i => special i || pure i || (match ops[j]? with | some oj => oj.after.any fun e => Region.binds .any e && e.on == i | none => true)
theorem wpX_lex (hs : Region.noSelect ops = true) (hl8 : lateX ops F.special F.pure F.late = true) : ∀ (l : List Nat) (listed : Array Bool) (L : List Blk) (a : Act),
    lexX ops F.special l listed = true → wpLX ops F Qf l L a → wpX ops F Qf l.length listed L a
  | [], _, _, _, hB, h => ⟨by simpa [lexX] using hB, h⟩
  | k :: l, listed, L, a, hB, h => by
    simp only [lexX, Bool.and_eq_true] at hB
    obtain ⟨hr, hB'⟩ := hB
    have ih := fun L a => wpX_lex hs hl8 l (listed.setIfInBounds k true) L a hB'
    have h : xstep ops F k (wpLX ops F Qf l) L a := h
    cases h0 : ops[k]? with
    | none => unfold xstep at h; rw [h0] at h; exact h.elim
    | some o =>
    have h' : xdo ops F k o (wpLX ops F Qf l) L a := by unfold xstep at h; rw [h0] at h; exact h
    cases hk : F.special k with
    | true =>
      rw [hk] at hr
      have hr' : Region.ready .any ops listed = [k] := by simpa using hr
      refine ⟨fun e => (by rw [hr'] at e; cases e), fun i hi => ?_⟩
      rw [hr'] at hi
      obtain rfl : i = k := by simpa using hi
      unfold xstep
      rw [h0]
      exact xdo_mono ih h'
    | false =>
      rw [hk] at hr
      simp only [Bool.false_eq_true, if_false, Bool.and_eq_true] at hr
      unfold xdo at h'
      rw [hk, if_neg (by simp)] at h'
      obtain ⟨v, hq, hc, hk'⟩ := h'
      refine wpX_first h0 hk (Region.noSelect_spec hs) (fun j oj hj hlj hpi => ?_) l.length listed L a (Region.free_spec h0 hr.2) (by simpa using hr.1) hq hc (ih _ _ hk')
      have h1 := List.all_eq_true.1 hl8 j (List.mem_range.2 (Array.getElem?_eq_some_iff.1 hj).1)
      rw [hlj] at h1
      simp only [Bool.not_true, Bool.false_or] at h1
      have h2 := List.all_eq_true.1 h1 k (List.mem_range.2 (Array.getElem?_eq_some_iff.1 h0).1)
      rw [hk, hpi, hj] at h2
      simp only [Bool.false_or] at h2
      obtain ⟨e, he, hb⟩ := Array.any_eq_true'.1 h2
      simp only [Bool.and_eq_true, beq_iff_eq] at hb
      exact ⟨e, he, hb.1, hb.2⟩

theorem wp_region_flow {id : Nat} {Q' : Exit → Act → World → Prop} {a : Act} {w : World} {l : List Oper} {L : List Blk} (F : Flow) (order : List Nat) (hlen : order.length = l.length) (hst : St F.S F.w0 w L) (hm : Tryz.prog.follows .mixedOrders = true)
    (hg : (List.range l.length).all (fun i => !F.special i || (match l[i]? with | some o => o.guard.isNone | none => true)) = true) (hs : Region.noSelect l.toArray = true) (hlex : lexX l.toArray F.special order (Array.replicate l.length false) = true) (hl8 : lateX l.toArray F.special F.pure F.late = true)
    (h : wpLX l.toArray F (fun L' a' => ∀ w', St F.S F.w0 w' L' → Q' .normal a' w') order L a) : (Code.region id l.toArray true).wp Tryz.prog Q' a w := by
  refine wp_region_any hm (wpAny_of_X (F := F) (Qf := fun L' a' => ∀ w', St F.S F.w0 w' L' → Q' .normal a' w') (fun i o ho hsi => ?_) (fun L' a' w' hd hq => hq w' hd) _ _ L _ _ (hst.below (Below.refl _ _).drew) ?_)
  · have ho' : l[i]? = some o := by simpa using ho
    have h1 := List.all_eq_true.1 hg i (List.mem_range.2 (List.getElem?_eq_some_iff.1 ho').1)
    simp only [hsi, ho'] at h1
    simpa using h1
  · have := wpX_lex (F := F) (Qf := fun L' a' => ∀ w', St F.S F.w0 w' L' → Q' .normal a' w') hs hl8 order (Array.replicate l.length false) L a hlex h
    rw [hlen] at this
    simpa using this

/-! ### The rules of the walk -/
variable {l : List Nat} {k : Nat} {o : Oper} {L : List Blk} {a : Act}
theorem fl_pure (h0 : ops[k]? = some o) (hs : F.special k = false) (hp : F.pure k = true) (v : Value) (hw : Region.wanted o (yielded ops a.tmps) = true) (h : ∀ w, (execOp a.eval o).run Tryz.prog w = .ok (.value v) w) (hk : wpLX ops F Qf l L (a.put o.dst v)) : wpLX ops F Qf (k :: l) L a := by
  show xstep _ _ _ _ _ _
  unfold xstep
  rw [h0]
  show xdo _ _ _ _ _ _ _
  unfold xdo
  rw [hs, if_neg (by simp)]
  exact ⟨v, Or.inl ⟨hw, fun w _ => by unfold Oper.quietAt; rw [h w]; exact ⟨rfl, rfl⟩⟩, fun w _ => Or.inl hp, hk⟩
theorem fl_skip (h0 : ops[k]? = some o) (hs : F.special k = false) (hp : F.pure k = true) (hw : Region.wanted o (yielded ops a.tmps) = false) (hk : wpLX ops F Qf l L (a.put o.dst undef)) : wpLX ops F Qf (k :: l) L a := by
  show xstep _ _ _ _ _ _
  unfold xstep
  rw [h0]
  show xdo _ _ _ _ _ _ _
  unfold xdo
  rw [hs, if_neg (by simp)]
  exact ⟨undef, Or.inr ⟨hw, rfl⟩, fun w _ => Or.inl hp, hk⟩
theorem fl_read (h0 : ops[k]? = some o) (hs : F.special k = false) (hp : F.pure k = false) (v : Value) (hw : Region.wanted o (yielded ops a.tmps) = true) (hB : ∀ w, St F.S F.w0 w L → F.B w) (h : ∀ w, F.B w → (execOp a.eval o).run Tryz.prog w = .ok (.value v) w) (hk : wpLX ops F Qf l L (a.put o.dst v)) : wpLX ops F Qf (k :: l) L a := by
  show xstep _ _ _ _ _ _
  unfold xstep
  rw [h0]
  show xdo _ _ _ _ _ _ _
  unfold xdo
  rw [hs, if_neg (by simp)]
  exact ⟨v, Or.inl ⟨hw, fun w hw' => by
    rcases hw' with h1 | h1
    · rw [hp] at h1; cases h1
    · unfold Oper.quietAt; rw [h w h1]; exact ⟨rfl, rfl⟩⟩, fun w hw' => Or.inr (hB w hw'), hk⟩
theorem fl_call (h0 : ops[k]? = some o) (hs : F.special k = false) (hp : F.pure k = true) (f : FuncId) (args : Array Value) (v : Value) (hw : Region.wanted o (yielded ops a.tmps) = true) (h : ∀ w, (execOp a.eval o).run Tryz.prog w = .ok (.enter f args) w) (hc : ∀ w, Calls Tryz.prog f args w fun e w' => e = .returned v ∧ Below w.heap.size w w') (hk : wpLX ops F Qf l L (a.put o.dst v)) : wpLX ops F Qf (k :: l) L a := by
  show xstep _ _ _ _ _ _
  unfold xstep
  rw [h0]
  show xdo _ _ _ _ _ _ _
  unfold xdo
  rw [hs, if_neg (by simp)]
  exact ⟨v, Or.inl ⟨hw, fun w _ => by unfold Oper.quietAt; rw [h w]; exact ⟨rfl, hc w⟩⟩, fun w _ => Or.inl hp, hk⟩
theorem fl_new (h0 : ops[k]? = some o) (hs : F.special k = true) (T : TypeId) (ho : o.op = .alloc T) (Z : Array Value) (hz : ∀ w : World, (zeroValue T).run Tryz.prog w = .ok (.agg Z) w)
    (hB : ∀ b w, St F.S F.w0 w ((b, Z, T) :: L) → F.B w) (hk : ∀ b, wpLX ops F Qf l ((b, Z, T) :: L) (a.put o.dst (.pointer (some ⟨b, 0, none⟩)))) : wpLX ops F Qf (k :: l) L a := by
  show xstep _ _ _ _ _ _
  unfold xstep
  rw [h0]
  show xdo _ _ _ _ _ _ _
  unfold xdo
  rw [if_pos hs]
  refine ⟨fun L' u => ∃ b, L' = (b, Z, T) :: L ∧ u = .pointer (some ⟨b, 0, none⟩), fun w hw => Or.inl ?_, ?_⟩
  · have hr : (Instr.alloc T true (.tuple #[])).run Tryz.prog w = .ok (.pointer (some ⟨w.heap.size, 0, none⟩)) (w.alloc (.cells Z T)) := by
      unfold Instr.alloc
      rw [Sem.run_bind, hz]
      rfl
    refine ⟨.pointer (some ⟨w.heap.size, 0, none⟩), _, (w.heap.size, Z, T) :: L, ?_, ⟨_, rfl, rfl⟩, hw.alloc Z T⟩
    unfold execOp
    simp only [ho, Sem.run_bind, hr, Result.andThen_ok]
    rfl
  · rintro L' u ⟨b, rfl, rfl⟩
    exact ⟨Or.inr (fun w hw => hB b w hw), hk b⟩
theorem fl_store (h0 : ops[k]? = some o) (hs : F.special k = true) (T : TypeId) (x y : Operand) (ho : o.op = .store T x y) (g off : Nat) (hx : a.eval x = .pointer (some ⟨g, off, none⟩)) (v : Value) (hy : a.eval y = v)
    {C C' : Array Value} {Tb : TypeId} {n : Nat} {L' : List Blk} [t : SizeT T n] [kk : Has L g C Tb] [c : WrAt C off n v C'] [u : Upd L g C Tb C' L']
    (hB : F.late k = true ∨ ∀ w, St F.S F.w0 w L' → F.B w) (hk : wpLX ops F Qf l L' (a.put o.dst undef)) : wpLX ops F Qf (k :: l) L a := by
  show xstep _ _ _ _ _ _
  unfold xstep
  rw [h0]
  show xdo _ _ _ _ _ _ _
  unfold xdo
  rw [if_pos hs]
  refine ⟨fun L'' u => L'' = L' ∧ u = undef, fun w hw => Or.inr ⟨w.setRow g C', L', ?_, ⟨rfl, rfl⟩, hw.upd (St.write1 hw.has)⟩, ?_⟩
  · unfold execOp
    simp only [ho, hx, hy, Instr.storeAt, Instr.sureAddr, Sem.run_bind, Sem.run_pure, Result.andThen_ok, run_storeVar_at t.size hw.has c]
  · rintro L'' u ⟨rfl, rfl⟩
    exact ⟨hB, hk⟩
theorem fl_ld (h0 : ops[k]? = some o) (hs : F.special k = false) (hp : F.pure k = false) (T : TypeId) (x : Operand) (ho : o.op = .load T x) (g off : Nat) (hx : a.eval x = .pointer (some ⟨g, off, none⟩)) (hw : Region.wanted o (yielded ops a.tmps) = true) (hB : ∀ w, St F.S F.w0 w L → F.B w)
    {C : Array Value} {Tb : TypeId} (hb : ∀ w, F.B w → w.heap[g]? = some (.cells C Tb (0, 0))) {v : Value} [t : OneT T] [c : CellAt C off v] (hk : wpLX ops F Qf l L (a.put o.dst v)) : wpLX ops F Qf (k :: l) L a :=
  fl_read h0 hs hp v hw hB (fun w hw' => by
    unfold execOp
    simp only [ho, hx, Instr.loadAt, Instr.sureAddr, Sem.run_bind, Sem.run_pure, Result.andThen_ok, run_loadVar_one (t.agg w) (hb w hw') c.eq]) hk
theorem fl_lda (h0 : ops[k]? = some o) (hs : F.special k = false) (hp : F.pure k = false) (T : TypeId) (x : Operand) (ho : o.op = .load T x) (g off : Nat) (hx : a.eval x = .pointer (some ⟨g, off, none⟩)) (hw : Region.wanted o (yielded ops a.tmps) = true) (hB : ∀ w, St F.S F.w0 w L → F.B w)
    {C : Array Value} {Tb : TypeId} (hb : ∀ w, F.B w → w.heap[g]? = some (.cells C Tb (0, 0))) {n : Nat} {cs : List Value} [t : AggT T n] [c : PartAt C off n cs] (hk : wpLX ops F Qf l L (a.put o.dst (.agg cs.toArray))) : wpLX ops F Qf (k :: l) L a :=
  fl_read h0 hs hp _ hw hB (fun w hw' => by
    unfold execOp
    simp only [ho, hx, Instr.loadAt, Instr.sureAddr, Sem.run_bind, Sem.run_pure, Result.andThen_ok, run_loadVar_agg (t.agg w) (by rw [c.len]; exact t.size) (hb w hw') c.eq]) hk
end
end Go.Proofs.YtigihgbgdillpaaGreatDoor
