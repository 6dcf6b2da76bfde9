/- The contract of the laws' Same. -/
import Derived.Test.YtgjgjhikimnknaaEncode
set_option linter.unusedVariables false
set_option linter.unusedSimpArgs false
namespace Go.Proofs.Ytgjgjhikimnknaa
open Go.RowKit

def sameB : List Ent → List Ent → Bool
  | [], [] => true
  | e :: l, f :: m => entEq e f && sameB l m
  | _, _ => false
theorem sameB_len : ∀ {l m : List Ent}, l.length ≠ m.length → sameB l m = false
  | [], [], h => absurd rfl h
  | [], _ :: _, _ => rfl
  | _ :: _, [], _ => rfl
  | e :: l, f :: m, h => by
    unfold sameB
    rw [sameB_len (by simpa using h), Bool.and_false]
theorem sameB_no : ∀ {l m : List Ent} (i : Nat) (h1 : i < l.length) (h2 : i < m.length), entEq l[i] m[i] = false → sameB l m = false
  | e :: l, f :: m, 0, _, _, h => by unfold sameB; rw [show entEq e f = false from h, Bool.false_and]
  | e :: l, f :: m, i + 1, h1, h2, h => by
    unfold sameB
    rw [sameB_no i (by simpa using h1) (by simpa using h2) h, Bool.and_false]
theorem sameB_yes : ∀ {l m : List Ent}, l.length = m.length → (∀ i (h1 : i < l.length) (h2 : i < m.length), entEq l[i] m[i] = true) → sameB l m = true
  | [], [], _, _ => rfl
  | e :: l, f :: m, h, hh => by
    unfold sameB
    rw [show entEq e f = true from hh 0 (by simp) (by simp), sameB_yes (by simpa using h) (fun i h1 h2 => hh (i + 1) (by simpa using h1) (by simpa using h2))]
    rfl
  | [], _ :: _, h, _ => by simp at h
  | _ :: _, [], h, _ => by simp at h

section
variable {ops : Array Oper} {rest : List Oper} {o : Oper} {a : Act} {C : World → Prop} {Q : Act → Prop}
theorem wpQuiet_lde (hw : Region.wanted o (yielded ops a.tmps) = true) (x : Operand) (ho : o.op = .load 27 x) (ad : Addr) (hx : a.eval x = .pointer (some ad)) (e : Ent) (hc : ∀ w, C w → ∀ j, j < 39 → w.cell? (ad.add j) = (entC e)[j]?)
    (hk : wpQuiet Try.prog ops C Q rest (a.put o.dst (.agg (entL e).toArray))) : wpQuiet Try.prog ops C Q (o :: rest) a :=
  BigFrame.wpQuiet_want hw fun K hK => ⟨.agg (entL e).toArray, fun w hC => by
    unfold Oper.quietAt execOp
    simp only [ho, hx, Instr.loadAt, Instr.sureAddr, Sem.run_bind, Sem.run_pure, Result.andThen_ok, run_load_ent_at w ad e (hc w hC)]
    exact ⟨rfl, rfl⟩, hK _ hk⟩
theorem wpQuiet_neqE (hw : Region.wanted o (yielded ops a.tmps) = true) (x y : Operand) (r : TypeId) (ho : o.op = .binOp .neq 27 x y r) (xs ys : Array Value) (hx : a.eval x = .agg xs) (hy : a.eval y = .agg ys) {e f : Ent} [h1 : IsEnt xs e] [h2 : IsEnt ys f]
    (hk : wpQuiet Try.prog ops C Q rest (a.put o.dst (.bool !(entEq e f)))) : wpQuiet Try.prog ops C Q (o :: rest) a :=
  BigFrame.wpQuiet_want hw fun K hK => ⟨.bool !(entEq e f), fun w hC => by
    unfold Oper.quietAt execOp
    simp only [ho, hx, hy, Sem.run_bind, guard_ent, Result.andThen_ok, h1.eq, h2.eq, neq_ent]
    exact ⟨rfl, rfl⟩, hK _ hk⟩
end
theorem EntRow.lt {w : World} {v : Value} {l : List Ent} {x : Addr} (i : Nat) (hi : i < l.length) (hc : ∀ i (h : i < l.length) j (hj : j < 39), w.cell? (x.add (i * 39 + j)) = (entC l[i])[j]?) : x.block < w.heap.size := by
  have := World.block_lt_of_cell? (w := w) (a := x.add (i * 39 + 0)) (u := .int .i64 l[i].kind) (by rw [hc i hi 0 (by omega)]; rfl)
  rwa [add_block] at this
theorem EntRow.cells {w w' : World} {l : List Ent} {x : Addr} (hc : ∀ i (h : i < l.length) j (hj : j < 39), w.cell? (x.add (i * 39 + j)) = (entC l[i])[j]?) (hb : Below w.heap.size w w') (i : Nat) (hi : i < l.length) :
    ∀ j, j < 39 → w'.cell? ((x.add (i * 39)).add j) = (entC l[i])[j]? := fun j hj => by
  rw [add_add2, hb.cell (by rw [add_block]; exact EntRow.lt (v := undef) i hi hc)]
  exact hc i hi j hj

set_option maxHeartbeats 4000000 in
set_option maxRecDepth 100000 in
theorem same_calls (v u : Value) (l m : List Ent) (w : World) (hv : EntRow w v l) (hu : EntRow w u m) :
    Calls Try.prog 16 #[v, u] w fun r w' => r = .returned (.bool (sameB l m)) ∧ Below w.heap.size w w' := by
  obtain ⟨a, cap, rfl, _, hl, hcells⟩ := hv
  obtain ⟨a', cap', rfl, _, hm, hcells'⟩ := hu
  unfold maxLen at hl hm
  have HC := Lib.hid hcells
  have HD := Lib.hid hcells'
  clear hcells hcells'
  by_cases hlen : l.length = m.length
  case neg =>
    rw [sameB_len hlen]
    have f1 : ((l.length : Int) != (m.length : Int)) = true := by simp; omega
    have f2 : ((l.length : Int) == (m.length : Int)) = false := by simp; omega
    clear HC HD
    go_enter Try.func16, Try.ntmps16
    go_wp2_with fail
    go_ret
    exact ⟨rfl, Below.refl _ _⟩
  case pos =>
    have HY : Hid ((∀ i (h1 : i < l.length) (h2 : i < m.length), entEq l[i] m[i] = true) → sameB l m = true) := Lib.hid (sameB_yes hlen)
    have HN : Hid (∀ (i : Nat) (h1 : i < l.length) (h2 : i < m.length), entEq l[i] m[i] = false → sameB l m = false) := Lib.hid (fun i => sameB_no i)
    generalize sameB l m = res at *
    have HLen := Lib.hid hlen
    have f1 : ((l.length : Int) != (m.length : Int)) = false := by simp; omega
    clear hlen
    go_enter Try.func16, Try.ntmps16
    go_wp2_with fail
    go_loopw [5] (fun iv wr => ∃ k : Nat, k ≤ l.length ∧ iv = .int .i64 k ∧ Below w.heap.size w wr ∧ Hid (∀ (i : Nat) (h1 : i < l.length) (h2 : i < m.length), i < k → entEq l[i] m[i] = true)) (fun i _ => l.length - (intOf i).toNat)
    case atStart => exact ⟨0, by omega, rfl, Below.refl _ _, fun i _ _ h => by omega⟩
    case round =>
      obtain ⟨k, hk, rfl, hbel, hok⟩ := hrel
      by_cases hlt : k < l.length
      · have hlt2 : k < m.length := by have := HLen.out; omega
        obtain ⟨x, rfl, hcx⟩ := HC.out (by intro h; simp [h] at hlt)
        obtain ⟨y, rfl, hcy⟩ := HD.out (by intro h; simp [h] at hlt2)
        have HX : Hid (∀ w', Below wr.heap.size wr w' → ∀ j, j < 39 → w'.cell? ((x.add (k * 39)).add j) = (entC l[k])[j]?) := Lib.hid (fun w' hb => EntRow.cells hcx (belw hbel hb) k hlt)
        have HY2 : Hid (∀ w', Below wr.heap.size wr w' → ∀ j, j < 39 → w'.cell? ((y.add (k * 39)).add j) = (entC m[k])[j]?) := Lib.hid (fun w' hb => EntRow.cells hcy (belw hbel hb) k hlt2)
        have HS : Hid (entEq l[k] m[k] = true → ∀ (i : Nat) (h1 : i < l.length) (h2 : i < m.length), i < k + 1 → entEq l[i] m[i] = true) := Lib.hid (fun h i h1 h2 h3 => by
          by_cases h4 : i = k
          · subst h4; exact h
          · exact hok.out i h1 h2 (by omega))
        have HR : Hid (entEq l[k] m[k] = false → res = false) := Lib.hid (HN.out k hlt hlt2)
        clear hcx hcy hok
        generalize l[k] = e at *
        generalize m[k] = f at *
        go_wp2_with fail
        refine wp_region_below_lit (by kernel_rfl) (by kernel_rfl) ?_
        repeat (first
          | (refine wpQuiet_lde rfl (.tmp 19) rfl (x.add (k * 39)) rfl e (by rintro _ ⟨n, rfl⟩; exact HX.out n.1 n.2) ?_; simp only [Act.put, List.setIfInBounds_toArray, List.set_cons_succ, List.set_cons_zero])
          | (refine wpQuiet_lde rfl (.tmp 23) rfl (y.add (k * 39)) rfl f (by rintro _ ⟨n, rfl⟩; exact HY2.out n.1 n.2) ?_; simp only [Act.put, List.setIfInBounds_toArray, List.set_cons_succ, List.set_cons_zero])
          | (refine wpQuiet_neqE rfl _ _ _ rfl _ _ rfl rfl ?_; simp only [Act.put, List.setIfInBounds_toArray, List.set_cons_succ, List.set_cons_zero])
          | go_big_quiet_step (fail))
        refine wpQuiet_nil ?_
        intro w1 hw1
        obtain ⟨⟨x1, hb1⟩, hx1⟩ := hw1
        obtain rfl : w1 = x1 := hx1
        have h1 := belw hbel hb1
        clear hbel hb1 HX HY2
        cases hc : entEq e f
        · have HR' := Lib.hid (HR.out hc)
          clear HR HS
          go_wp2_with fail
          go_ret
          exact ⟨by rw [HR'.out]; rfl, h1⟩
        · have HS' : Hid (∀ (i : Nat) (h1 : i < l.length) (h2 : i < m.length), i < k + 1 → entEq l[i] m[i] = true) := HS.out hc
          clear HR HS
          go_wp2_with fail
          go_roundw
          case rel => exact ⟨k + 1, by omega, by go_num, h1, HS'⟩
          case measure => simp [intOf]; omega
      · obtain rfl : k = l.length := by omega
        have HR : Hid (res = true) := Lib.hid (HY.out (fun i h1 h2 => hok.out i h1 h2 h1))
        clear HY HN hok
        go_wp2_with fail
        go_ret
        exact ⟨by rw [HR.out]; rfl, hbel⟩
end Go.Proofs.Ytgjgjhikimnknaa
