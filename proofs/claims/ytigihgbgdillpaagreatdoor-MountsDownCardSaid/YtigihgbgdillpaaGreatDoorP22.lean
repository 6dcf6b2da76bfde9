/- slices.Clone and IndexFunc at the program's element types (printed by gen_slices1.py). -/
import Derived.Test.YtigihgbgdillpaaGreatDoorP21
set_option linter.unusedVariables false
set_option linter.unusedSimpArgs false
set_option maxRecDepth 100000
namespace Go.Proofs.YtigihgbgdillpaaGreatDoor
open Go.RowKit

theorem RowAt.nil_of {α : Type} {enc : α → List Value} {k : Nat} {D : Dat} {T : TypeId} {p : Option Addr} {c : Nat} {l : List α} (h : RowAt D T k enc p c l) (hp : p = none) : l = [] := by
  cases l with
  | nil => rfl
  | cons x l =>
    obtain ⟨g, off, e⟩ := h.at_some (i := 0) (by simp)
    rw [hp] at e
    cases e
theorem Sx.takeL {S : List Nat} {w0 w : World} {L1 L2 : List Blk} {D : Dat} {F : List Nat} (h : Sx S w0 w (L1 ++ L2) D F) : Sx S w0 w L1 D F :=
  h.sub (fun p hp => by simp [hp]) (by have := h.st.nodup; rw [List.map_append] at this; exact (List.nodup_append.1 this).1)
def idxF {α : Type} (P : α → Bool) (l : List α) : Int := match l.findIdx? P with
  | some i => i
  | none => -1
theorem idxF_at {α : Type} {P : α → Bool} {l : List α} {k : Nat} (hk : k < l.length) (h : ∀ i (h2 : i < k), P l[i] = false) (hp : P l[k] = true) : idxF P l = k := by
  have : l.findIdx? P = some k := List.findIdx?_eq_some_iff_getElem.2 ⟨hk, hp, fun j hj => by simpa using h j hj⟩
  unfold idxF
  rw [this]
theorem idxF_none {α : Type} {P : α → Bool} {l : List α} (h : ∀ i (h : i < l.length), P l[i] = false) : idxF P l = -1 := by
  have : l.findIdx? P = none := List.findIdx?_eq_none_iff.2 (fun x hx => by
    obtain ⟨i, hi, rfl⟩ := List.mem_iff_getElem.1 hx
    exact h i hi)
  unfold idxF
  rw [this]
section
variable {ops : Array Oper} {rest : List Oper} {o : Oper} {a : Act} {w : World} {Q : Exit → Act → World → Prop} {S : List Nat} {w0 : World} {L : List Blk} {D : Dat} {F : List Nat}
/-- A call of a function value, of one argument. -/
theorem xcf (hw : Region.wanted o (yielded ops a.tmps) = true) {x y : Operand} {ty : Array TypeId} (ho : o.op = .call { callee := .value x, args := #[y], argTypes := ty }) {f : FuncId} {cap : Array Value} (hx : a.eval x = .func (.func f) #[] cap) {u : Value} (hy : a.eval y = u) (hen : ∀ args w, (callFunc f args).run Tryz.prog w = .ok (.enter f args) w)
    {v : Value} (hc : Calls Tryz.prog f (#[u] ++ cap) w (Ret v w)) (h : Sx S w0 w L D F) (hk : ∀ w', Sx S w0 w' L D F → wpList Tryz.prog ops Q rest (a.put o.dst v) w') : wpList Tryz.prog ops Q (o :: rest) a w :=
  BigFrame.wpList_want hw fun K hK => by
    unfold Oper.wp execOp
    simp only [ho, resolve, hx, hy, Deferred.ofValue, Sem.run_bind, Sem.run_pure, Result.andThen_ok, List.map_toArray, List.map_cons, List.map_nil, invoke]
    have : (#[] : Array Value) ++ #[u] = #[u] := rfl
    simp only [this, hen]
    exact hc.mono fun e w' ⟨he, hb⟩ => by subst he; exact hK _ _ (hk w' (h.below hb))
theorem xcfA (hw : Region.wanted o (yielded ops a.tmps) = true) {x y : Operand} {ty : Array TypeId} (ho : o.op = .call { callee := .value x, args := #[y], argTypes := ty }) {f : FuncId} {cap : Array Value} (hx : a.eval x = .func (.func f) #[] cap) {C : Array Value} (hy : a.eval y = .agg C) (hen : ∀ args w, (callFunc f args).run Tryz.prog w = .ok (.enter f args) w)
    {v : Value} (hc : Calls Tryz.prog f (#[.agg C] ++ cap) w (Ret v w)) (h : Sx S w0 w L D F) (hk : ∀ w', Sx S w0 w' L D F → wpList Tryz.prog ops Q rest (a.put o.dst v) w') : wpList Tryz.prog ops Q (o :: rest) a w := xcf hw ho hx hy hen hc h hk
end
/-- slices.Clone at api.Run. -/
theorem cloneRun_calls {D : Dat} {p : Option Addr} {c : Nat} {l : List Rn} (h : RowAt D 36 2 rnL p c l) (w : World) (hD : Holds D w) : Calls Tryz.prog 66 #[.slice p l.length c] w fun e w' => ∃ v Lo, e = .returned v ∧ OwnR 36 2 rnL Lo v l ∧ St [] w w' Lo := by
  have hbig := h.big
  cases p with
  | none =>
    obtain rfl : l = [] := h.nil_of rfl
    go_enter Tryz.func66, Tryz.ntmps66
    go_wp2_with (refine xval rfl 4 rfl (.bool true) (fun w => by kernel_rfl) ?_)
    go_ret
    exact ⟨_, [], rfl, OwnR.none _, (Sx.startN w).st⟩
  | some ad =>
    have hst := Sx.start0 w hD
    have hsrc : ∀ w', Holds D w' → Src w' rnL (.slice (some ad) l.length c) l := fun w' hw => RowD.src ⟨_, _, rfl, h⟩ hw (by decide)
    go_enter Tryz.func66, Tryz.ntmps66
    go_wp2_with (first | (with_reducible refine xval rfl 4 rfl (.bool false) (fun w => by kernel_rfl) ?_) | (with_reducible refine xmk rfl 5 rfl hst #[] 36 (fun b => .slice (some ⟨b, 0, none⟩) 0 0) (fun w => by kernel_rfl) ?_; clear hst; intro b w' hst) | (with_reducible refine xap0 (T := 36) (TS := 84) rfl rfl rfl hst (hsrc _ hst.data) rfl hbig ?_; clear hst; intro p2 c2 w2 Lo hown hst))
    go_ret
    exact ⟨_, Lo, rfl, hown, hst.takeL.st⟩
set_option maxHeartbeats 1000000 in
/-- slices.IndexFunc at api.Run. -/
theorem indexRun_calls {D : Dat} {p : Option Addr} {c : Nat} {l : List Rn} (h : RowAt D 36 2 rnL p c l) (w : World) (hD : Holds D w) (f : FuncId) (cap : Array Value) (P : Rn → Bool) (hen : ∀ args w, (callFunc f args).run Tryz.prog w = .ok (.enter f args) w)
    (hP : ∀ i (hi : i < l.length) w', Below w.heap.size w w' → Calls Tryz.prog f (#[.agg (rnL l[i]).toArray] ++ cap) w' (Ret (.bool (P l[i])) w')) : Calls Tryz.prog 104 #[.slice p l.length c, .func (.func f) #[] cap] w (Ret (.int .i64 (idxF P l)) w) := by
  have hst := Sx.start0 w hD
  have hbig := h.big
  have HP := Lib.hid hP
  clear hP
  go_enter Tryz.func104, Tryz.ntmps104
  go_wp2_with fail
  go_loopw [8] (fun iv wr => ∃ k : Nat, k ≤ l.length ∧ iv = .int .i64 k ∧ Sx [] w wr [] D [] ∧ Hid (∀ i (h : i < l.length), i < k → P l[i] = false)) (fun iv _ => l.length - (intOf iv).toNat)
  case atStart => exact ⟨0, by omega, rfl, hst, Lib.hid (fun i h h2 => by omega)⟩
  case round =>
    obtain ⟨k, hk, rfl, hst, HF⟩ := hrel
    by_cases hlt : k < l.length
    · obtain ⟨g, off, rfl⟩ := h.at_some hlt
      have hld := h.lda hlt
      have HC := Lib.hid (HP.out k hlt wr hst.end)
      have HT : Hid (P l[k] = true → idxF P l = k) := Lib.hid (fun h1 => idxF_at hlt (fun i h2 => HF.out i (by omega) h2) h1)
      have HN : Hid (P l[k] = false → ∀ i (h : i < l.length), i < k + 1 → P l[i] = false) := Lib.hid (fun h1 i h2 h3 => by
        by_cases h4 : i = k
        · subst h4; exact h1
        · exact HF.out i h2 (by omega))
      generalize P l[k] = b at *
      generalize l[k] = r at *
      go_wp2_with (first | (with_reducible refine xd rfl rfl rfl hst ?_) | (refine xcfA rfl rfl rfl rfl hen HC.out hst ?_; clear hst; intro w' hst))
      · have h1 := HT.out (by assumption)
        go_ret
        exact ⟨by rw [h1]; rfl, hst.end⟩
      · have h1 := HN.out (by assumption)
        go_roundw
        case rel => exact ⟨k + 1, by omega, by go_num, hst, Lib.hid h1⟩
        case measure => simp [intOf]; omega
    · obtain rfl : k = l.length := by omega
      have h1 := idxF_none (fun i h => HF.out i h h)
      go_wp2_with fail
      go_ret
      exact ⟨by rw [h1]; rfl, hst.end⟩
end Go.Proofs.YtigihgbgdillpaaGreatDoor
