/- The contract of entries.put: a field's bytes · The contract of entries.Encode · The contract of entries.Encode: the walk. -/
import Derived.Test.YtigihgbgdillpaaGreatDoorP06
set_option linter.unusedVariables false
set_option linter.unusedSimpArgs false
set_option maxRecDepth 100000
namespace Go.Proofs.YtigihgbgdillpaaGreatDoor
open Go.RowKit

def putL (n b : Int) : List UInt8 := ls (putF n b)
def textL (t : ByteArray) : List UInt8 := match putTextF t with | some l => l | none => []
/-- A field's bytes. -/
def fieldBytes (e : Ent) (f : Int) : List UInt8 :=
  if f = 0 then putL e.stream 1 else if f = 1 then putL e.n 4 else if f = 2 then textL e.name else ((putL e.len 2 ++ e.hash) ++ putL e.start 2) ++ putL e.count 2

theorem put_hash_callsL (h : List UInt8) (hl : h.length = 32) (w : World) :
    Calls Tryz.prog 102 #[.agg (hashL h).toArray] w fun e w' => e = .returned (.string (mkS h)) ∧ Below w.heap.size w w' := by
  rw [← arr_hashL h hl]
  exact put_hash_calls h hl w
theorem putTextV_textL (t : ByteArray) : ∃ x, putTextV (putTextF t) = .tuple #[.string (mkS (textL t)), .int .i64 x] := by
  unfold textL
  cases putTextF t with
  | none => exact ⟨_, rfl⟩
  | some l => exact ⟨_, rfl⟩
theorem ls_cat4 (a b c d : ByteArray) : ((a ++ b) ++ c) ++ d = mkS (((ls a ++ ls b) ++ ls c) ++ ls d) := by
  apply eq_mkS
  rw [ls_append, ls_append, ls_append]

set_option maxHeartbeats 4000000 in
set_option maxRecDepth 100000 in
theorem fieldput_calls (f : Int) (e : Ent) (hf : f = 0 ∨ f = 1 ∨ f = 2 ∨ f = 3) (hwf : e.Wf) (w : World) :
    Calls Tryz.prog 61 #[.int .i64 f, .agg (entC e)] w fun r w' => r = .returned (.string (mkS (fieldBytes e f))) ∧ Below w.heap.size w w' := by
  have HW := Lib.hid hwf
  clear hwf
  have hst := St.start w
  rcases hf with rfl | rfl | rfl | rfl
  · go_enter Tryz.func61, Tryz.ntmps61
    go_wp2_with (first|(with_reducible refine wpList_ld rfl _ _ rfl _ _ rfl (by assumption) ?_)|(with_reducible refine wpList_box rfl _ _ rfl (by assumption) _ rfl ?_; intro bb w' hst))
    refine (put_any _ _ HW.out.stream.2 _).mono ?_
    rintro r w1 ⟨rfl, hb⟩
    have h1 := hst.below hb
    go_wp2_with fail
    go_ret
    exact ⟨rfl, h1.end⟩
  · go_enter Tryz.func61, Tryz.ntmps61
    go_wp2_with (first|(with_reducible refine wpList_ld rfl _ _ rfl _ _ rfl (by assumption) ?_)|(with_reducible refine wpList_box rfl _ _ rfl (by assumption) _ rfl ?_; intro bb w' hst))
    refine (put_any _ _ HW.out.n.2 _).mono ?_
    rintro r w1 ⟨rfl, hb⟩
    have h1 := hst.below hb
    go_wp2_with fail
    go_ret
    exact ⟨rfl, h1.end⟩
  · obtain ⟨x, hx⟩ := putTextV_textL e.name
    have HX := Lib.hid hx
    clear hx
    go_enter Tryz.func61, Tryz.ntmps61
    go_wp2_with (first|(with_reducible refine wpList_ld rfl _ _ rfl _ _ rfl (by assumption) ?_)|(with_reducible refine wpList_box rfl _ _ rfl (by assumption) _ rfl ?_; intro bb w' hst))
    refine (put_text_calls _ (by have := HW.out.name; unfold maxLen; omega) _).mono ?_
    rintro r w1 ⟨rfl, hb⟩
    have h1 := hst.below hb
    rw [HX.out]
    go_wp2_with fail
    go_ret
    exact ⟨rfl, h1.end⟩
  · have HR := Lib.hid (ls_cat4 (putF e.len 2) (mkS e.hash) (putF e.start 2) (putF e.count 2))
    have HV : Hid (mkS (fieldBytes e 3) = mkS (((ls (putF e.len 2) ++ ls (mkS e.hash)) ++ ls (putF e.start 2)) ++ ls (putF e.count 2))) := Lib.hid rfl
    have s1 := putF_size e.len 2
    have s2 := putF_size e.start 2
    have s3 := putF_size e.count 2
    have s4 : (mkS e.hash).size = 32 := by rw [size_mkS, HW.out.hash]
    have c1 := put_any e.len 2 HW.out.len.2
    have c2 := put_any e.start 2 HW.out.start.2
    have c3 := put_any e.count 2 HW.out.count.2
    have c4 := put_hash_callsL e.hash HW.out.hash
    generalize putF e.len 2 = S1 at *
    generalize putF e.start 2 = S2 at *
    generalize putF e.count 2 = S3 at *
    generalize mkS e.hash = S4 at *
    have k1 : ¬ 9223372036854775807 < S1.size + S4.size := by omega
    have k2 : ¬ 9223372036854775807 < (S1 ++ S4).size + S2.size := by rw [ByteArray.size_append]; omega
    have k3 : ¬ 9223372036854775807 < ((S1 ++ S4) ++ S2).size + S3.size := by rw [ByteArray.size_append, ByteArray.size_append]; omega
    have C1 := Lib.hid c1
    have C2 := Lib.hid c2
    have C3 := Lib.hid c3
    have C4 := Lib.hid c4
    clear c1 c2 c3 c4
    go_enter Tryz.func61, Tryz.ntmps61
    go_wp2_with (with_reducible refine wpList_box rfl _ _ rfl (by assumption) _ rfl ?_; intro bb w' hst)
    have hq := hst.quiet
    refine wp_region_below_lit (by kernel_rfl) (by kernel_rfl) ?_
    repeat (first
      | (with_reducible refine wpQuiet_ld rfl _ _ rfl _ _ rfl hq ?_; simp only [Act.put, List.setIfInBounds_toArray, List.set_cons_succ, List.set_cons_zero])
      | (with_reducible refine wpQuiet_lda rfl _ _ rfl _ _ rfl hq ?_; simp only [Act.put, List.setIfInBounds_toArray, List.set_cons_succ, List.set_cons_zero])
      | go_big_quiet_step ((first | (go_at_call 59; first | with_reducible exact Calls.below_of (C1.out _) | with_reducible exact Calls.below_of (C2.out _) | with_reducible exact Calls.below_of (C3.out _)) | (go_at_call 102; with_reducible exact Calls.below_of (C4.out _)))))
    refine wpQuiet_nil ?_
    intro wq hwq
    have h1 := hq wq hwq
    clear hq hwq
    go_wp2_with fail
    go_ret
    exact ⟨by rw [HV.out, ← HR.out]; rfl, h1.end⟩
end Go.Proofs.YtigihgbgdillpaaGreatDoor
namespace Go.Proofs.YtigihgbgdillpaaGreatDoor
open Go.RowKit

/-- A slice of entries that was read. -/
def EntRow (w : World) (v : Value) (l : List Ent) : Prop :=
  ∃ a cap, v = .slice a l.length cap ∧ (∀ e ∈ l, e.Wf) ∧ l.length ≤ maxLen ∧
    (l ≠ [] → ∃ x, a = some x ∧ ∀ i (h : i < l.length) j (hj : j < 39), w.cell? (x.add (i * 39 + j)) = (entC l[i])[j]?)
def entBytes (e : Ent) : List UInt8 := putL e.kind 1 ++ (fieldsL e.kind).flatMap (fieldBytes e)
def encBytes (l : List Ent) : List UInt8 := putL l.length 2 ++ l.flatMap entBytes
/-- What Encode tells. -/
def encF (l : List Ent) : List UInt8 × Int := if l.all checkB then (if l.length ≤ 200 then (encBytes l, 0) else ([], 3)) else ([], 2)

theorem add_add2 (x : Addr) (a b : Nat) : (x.add a).add b = x.add (a + b) := by
  unfold Addr.add
  by_cases h1 : a = 0
  · subst h1
    by_cases h2 : b = 0
    · subst h2; rfl
    · rw [if_pos rfl, if_neg h2, if_neg (by omega), Nat.zero_add]
  · by_cases h2 : b = 0
    · subst h2
      rw [if_neg h1, if_pos rfl, if_neg (by omega)]
      rfl
    · rw [if_neg h1, if_neg h2, if_neg (by omega), Nat.add_assoc]
theorem add_block (x : Addr) (a : Nat) : (x.add a).block = x.block := by unfold Addr.add; split <;> rfl

theorem run_load_ent_at (w : World) (ad : Addr) (e : Ent) (hc : ∀ j, j < 39 → w.cell? (ad.add j) = (entC e)[j]?) : (loadVar 87 ad).run Tryz.prog w = .ok (.agg (entL e).toArray) w := by
  have hl := run_loadCells_list (P := Tryz.prog) w ad (entL e) (fun j v hv => by
    have hj : j < 39 := (List.getElem?_eq_some_iff.1 hv).1
    rw [hc j hj]
    simpa [entC] using hv)
  have ha := AggT.agg (T := 87) (n := 39) w
  have hs := run_size (AggT.size (T := 87) (n := 39)) w
  have h39 : (entL e).length = 39 := rfl
  rw [h39] at hl
  simp only [loadVar, Sem.run_bind, ha, Result.andThen_ok, if_true, hs, hl, Sem.run_pure]
section
variable {ops : Array Oper} {rest : List Oper} {o : Oper} {a : Act} {w : World} {Q : Exit → Act → World → Prop}
theorem wpList_lde (hw : Region.wanted o (yielded ops a.tmps) = true) (x : Operand) (ho : o.op = .load 87 x) (ad : Addr) (hx : a.eval x = .pointer (some ad)) (e : Ent) (hc : ∀ j, j < 39 → w.cell? (ad.add j) = (entC e)[j]?)
    (hk : wpList Tryz.prog ops Q rest (a.put o.dst (.agg (entL e).toArray)) w) : wpList Tryz.prog ops Q (o :: rest) a w :=
  BigFrame.wpList_want hw fun K hK => by
    unfold Oper.wp execOp
    simp only [ho, hx, Instr.loadAt, Instr.sureAddr, Sem.run_bind, Sem.run_pure, Result.andThen_ok, run_load_ent_at w ad e hc]
    exact hK _ _ hk
end

/-! ### A builder beside blocks of other kinds -/
theorem belw {w0 w w' : World} (h : Below w0.heap.size w0 w) (h' : Below w.heap.size w w') : Below w0.heap.size w0 w' := h.trans (h'.mono h.size)
theorem IsB.old {B b : Nat} {bs : List Value} {w w' : World} (h : IsB B b bs w) (hb : Below w.heap.size w w') : IsB B b bs w' := by
  have key : ∀ p, Lib.BuilderAtF 137 5 B b p bs w → Lib.BuilderAtF 137 5 B b p bs w' := by
    rintro p ⟨hB, v, hbk, ⟨hl, hown⟩, hne⟩
    refine ⟨hB, v, (hb.block _ (lt_of_heap' hbk)).trans hbk, ⟨hl, ?_⟩, hne⟩
    rcases hown with h1 | ⟨g, cap, cur, fz, h1, h2, h3, h4⟩
    · exact Or.inl h1
    · exact Or.inr ⟨g, cap, cur, fz, h1, h2, (hb.block _ (lt_of_heap' h3)).trans h3, h4⟩
  rcases h with h | h
  · exact Or.inl (key _ h)
  · exact Or.inr (key _ h)
theorem IsB.block {B b : Nat} {bs : List Value} {w : World} (h : IsB B b bs w) : ∃ cs, w.heap[b]? = some (.cells cs 137 (0, 0)) := by
  rcases h with ⟨_, v, h, _⟩ | ⟨_, v, h, _⟩ <;> exact ⟨_, h⟩
theorem zero_builder (w : World) : (zeroValue 137).run Tryz.prog w = .ok (.agg #[.pointer none, .slice none 0 0]) w := by kernel_rfl
theorem IsB.fresh {w0 w : World} {b : Nat} (h : St [] w0 w [(b, #[.pointer none, .slice none 0 0], 137)]) : IsB w0.heap.size b (Lib.byteCells []) w :=
  Or.inl ⟨by rcases h.own _ (List.mem_cons_self) with h1 | h1 <;> simp at h1; exact h1, .slice none 0 0, h.blk _ (List.mem_cons_self), World.ownsRowF_nil _ _ _ _, by simp [Value.ownBlock]⟩
def keys (L : List Blk) : List Nat := L.map (·.1)
theorem St.rebase {S : List Nat} {w0 w : World} {L : List Blk} (h : St S w0 w L) : St (keys L) w w L :=
  ⟨rfl, rfl, rfl, Nat.le_refl _, fun _ _ _ => rfl, fun p hp => Or.inr (List.mem_map.2 ⟨p, hp, rfl⟩), h.nodup, h.blk⟩
/-- What stands in the list as it stood is as it was. -/
theorem St.still {w w' : World} {L : List Blk} (h0 : St (keys L) w w L) (h : St (keys L) w w' L) : Below w.heap.size w w' :=
  ⟨h.os, h.tape, h.output, h.size, fun k hk => by
    by_cases hm : k ∈ keys L
    · obtain ⟨p, hp, rfl⟩ := List.mem_map.1 hm
      rw [h.blk p hp, h0.blk p hp]
    · exact h.kept k hk hm⟩
/-- Behind a write of the builder. -/
theorem St.beside {S : List Nat} {B b : Nat} {w0 w w' : World} {L : List Blk} (h : St S w0 w L) (hk : KeptB B b w w') (hb : ∃ cs, w.heap[b]? = some (.cells cs 137 (0, 0))) (hT : ∀ p ∈ L, p.2.2 ≠ 5 ∧ p.2.2 ≠ 137) : St (keys L) w' w' L :=
  ⟨rfl, rfl, rfl, Nat.le_refl _, fun _ _ _ => rfl, fun p hp => Or.inr (List.mem_map.2 ⟨p, hp, rfl⟩), h.nodup, fun p hp => by
    refine hk.2 _ _ (h.blk p hp) ?_ ?_
    · intro e
      obtain ⟨cs, hc⟩ := hb
      have e' : p.1 = b := Option.some.inj e
      rw [← e', h.blk p hp] at hc
      injection hc with hc
      injection hc with _ h2
      exact (hT p hp).2 h2
    · intro c fz e
      injection e with _ h2
      exact (hT p hp).1 h2⟩
theorem write_calls (B b : Nat) (bs : List UInt8) (s : ByteArray) (w : World) (h : IsB B b (Lib.byteCells bs) w) (hlen : bs.length + s.size ≤ 140737488355328) (hBw : B ≤ w.heap.size) :
    Calls Tryz.prog 58 #[.pointer (some ⟨b, 0, none⟩), .string s] w fun e w' => e = .returned (.tuple #[.int .i64 s.size, .nilIface]) ∧ (IsB B b (Lib.byteCells (bs ++ ls s)) w' ∧ KeptB B b w w') := by
  have e : Lib.byteCells (bs ++ ls s) = Lib.byteCells bs ++ Lib.strCells s := by simp [Lib.byteCells, Lib.strCells, ls]
  rw [e]
  exact write_string_calls B b _ s w h (by simpa [Lib.byteCells] using hlen) hBw

theorem putL_len (n b : Int) : (putL n b).length ≤ 8 := by have := putF_size n b; unfold putL; rw [ls_length]; exact this
theorem textL_len (t : ByteArray) : (textL t).length ≤ 65537 := by
  unfold textL putTextF
  split
  · rename_i l h
    split at h
    · injection h with h
      subst h
      simp [be_length, ls_length]
      omega
    · cases h
  · simp
theorem fieldBytes_len (e : Ent) (he : e.hash.length = 32) (f : Int) : (fieldBytes e f).length ≤ 65537 := by
  have h1 := putL_len e.stream 1
  have h2 := putL_len e.n 4
  have h3 := textL_len e.name
  have h4 := putL_len e.len 2
  have h5 := putL_len e.start 2
  have h6 := putL_len e.count 2
  unfold fieldBytes
  split
  · omega
  · split
    · omega
    · split
      · omega
      · simp; omega
theorem flat_len {l : List Int} {e : Ent} (he : e.hash.length = 32) : (l.flatMap (fieldBytes e)).length ≤ l.length * 65537 := by
  induction l with
  | nil => simp
  | cons f l ih =>
    have := fieldBytes_len e he f
    rw [List.flatMap_cons, List.length_append, List.length_cons]
    omega
theorem entBytes_len (e : Ent) (he : e.hash.length = 32) : (entBytes e).length ≤ 196619 := by
  have h1 := putL_len e.kind 1
  have h2 := flat_len (l := fieldsL e.kind) he
  have h3 := fieldsL_len e.kind
  unfold entBytes
  rw [List.length_append]
  omega
theorem ents_len {l : List Ent} (he : ∀ e ∈ l, e.hash.length = 32) : (l.flatMap entBytes).length ≤ l.length * 196619 := by
  induction l with
  | nil => simp
  | cons e l ih =>
    have h1 := entBytes_len e (he e (by simp))
    have h2 := ih (fun x hx => he x (by simp [hx]))
    rw [List.flatMap_cons, List.length_append, List.length_cons]
    omega
end Go.Proofs.YtigihgbgdillpaaGreatDoor
namespace Go.Proofs.YtigihgbgdillpaaGreatDoor
open Go.RowKit

set_option maxHeartbeats 4000000 in
set_option maxRecDepth 100000 in
theorem encode_calls (v : Value) (l : List Ent) (w : World) (hv : EntRow w v l) (hl : l.length ≤ 1000000) :
    Calls Tryz.prog 31 #[v] w fun r w' => r = .returned (.tuple #[.string (mkS (encF l).1), .int .i64 (encF l).2]) ∧ Below w.heap.size w w' := by
  obtain ⟨a, cap, rfl, hwf, _, hcells⟩ := hv
  have HW := Lib.hid hwf
  have HC := Lib.hid hcells
  have HE : Hid (encF l = if l.all checkB then (if l.length ≤ 200 then (encBytes l, 0) else ([], 3)) else ([], 2)) := Lib.hid rfl
  generalize encF l = res at *
  clear hwf hcells
  go_enter Tryz.func31, Tryz.ntmps31
  go_wp2_with fail
  go_loopw [14] (fun iv wr => ∃ k : Nat, k ≤ l.length ∧ iv = .int .i64 k ∧ Below w.heap.size w wr ∧ Hid (∀ i (h : i < l.length), i < k → checkB l[i] = true)) (fun i _ => l.length - (intOf i).toNat)
  case atStart => exact ⟨0, by omega, rfl, Below.refl _ _, fun i h h2 => by omega⟩
  case round =>
    obtain ⟨k, hk, rfl, hbel, hok⟩ := hrel
    by_cases hlt : k < l.length
    · obtain ⟨x, rfl, hcx⟩ := HC.out (by intro h; simp [h] at hlt)
      have hx0 : x.block < w.heap.size := by
        have h := hcx k hlt 0 (by omega)
        have := World.block_lt_of_cell? (w := w) (a := x.add (k * 39 + 0)) (u := .int .i64 l[k].kind) (by rw [h]; rfl)
        rwa [add_block] at this
      have HCX : Hid (∀ j, j < 39 → wr.cell? ((x.add (k * 39)).add j) = (entC l[k])[j]?) := Lib.hid (fun j hj => by
        rw [add_add2, hbel.cell (by rw [add_block]; exact hx0)]
        exact hcx k hlt j hj)
      have hwk := HW.out l[k] (List.getElem_mem hlt)
      have HWK := Lib.hid hwk
      have hst := St.start wr
      have HS : Hid (checkB l[k] = true → ∀ i (h : i < l.length), i < k + 1 → checkB l[i] = true) := Lib.hid (fun h1 i hi h2 => by
        by_cases h3 : i = k
        · subst h3; exact h1
        · exact hok.out i hi (by omega))
      have HN : Hid (checkB l[k] = false → l.all checkB = false) := Lib.hid (fun h1 => by
        rw [List.all_eq_false]
        exact ⟨l[k], List.getElem_mem hlt, by simp [h1]⟩)
      clear hcx hwk hok
      generalize l[k] = e at *
      go_wp2_with (first
        | (with_reducible refine wpList_lde rfl _ rfl _ rfl e HCX.out ?_)
        | (first|(with_reducible refine wpList_lda rfl _ _ rfl _ _ rfl (by assumption) ?_)|(with_reducible refine wpList_stA rfl _ _ _ rfl _ _ rfl _ rfl (by assumption) ?_; intro w' hst)|(with_reducible refine wpList_new rfl _ rfl (by assumption) _ zero_ent ?_; intro bn w' hst)))
      refine (check_calls e HWK.out _).mono ?_
      rintro r w5 ⟨rfl, hb⟩
      have h5 := belw hbel (hst.below hb).end
      clear hb hst hbel HCX
      cases hc : checkB e
      · have HR : Hid (res = ([], 2)) := Lib.hid (by rw [HE.out, HN.out hc]; rfl)
        clear hc HN HS HE
        unfold errOf
        go_wp2_with fail
        go_ret2
        exact ⟨by rw [HR.out]; rfl, h5⟩
      · have HS' : Hid (∀ i (h : i < l.length), i < k + 1 → checkB l[i] = true) := HS.out hc
        clear hc HN HS
        unfold errOf
        go_wp2_with fail
        go_roundw
        case rel => exact ⟨k + 1, by omega, by go_num, h5, HS'⟩
        case measure => simp [intOf]; omega
    · obtain rfl : k = l.length := by omega
      have hall : l.all checkB = true := by
        rw [List.all_eq_true]
        intro e he
        obtain ⟨i, hi, rfl⟩ := List.mem_iff_getElem.1 he
        exact hok.out i hi hi
      have HALL := Lib.hid hall
      clear hok hall hk hlt
      by_cases h200 : l.length ≤ 200
      case neg =>
        have HR : Hid (res = ([], 3)) := Lib.hid (by rw [HE.out, HALL.out, if_pos rfl, if_neg h200])
        have f1 : decide ((200 : Int) < (l.length : Int)) = true := by simp; omega
        clear HE HALL h200
        go_wp2_with fail
        go_ret2
        exact ⟨by rw [HR.out]; rfl, hbel⟩
      case pos =>
        have HR : Hid (res = (encBytes l, 0)) := Lib.hid (by rw [HE.out, HALL.out, if_pos rfl, if_pos h200])
        have f1 : decide ((200 : Int) < (l.length : Int)) = false := by simp; omega
        have HNE : Hid (∀ e ∈ l, fieldsL e.kind ≠ []) := Lib.hid (fun e he h => by
          have := List.all_eq_true.1 HALL.out e he
          simp [checkB, h] at this)
        clear HE HALL
        have hst := St.start wr
        go_wp2_with (with_reducible refine wpList_new rfl _ rfl hst _ zero_builder ?_; intro b wb hsb)
        have hB0 : w.heap.size ≤ wr.heap.size := hbel.size
        have hbb := belw hbel hsb.end
        have hsz := hsb.size
        have hib := IsB.fresh hsb
        generalize wr.heap.size = B at hib hB0 hsz
        clear hsb hst hbel
        refine (put_any _ _ (by omega) _).mono ?_
        rintro r w1 ⟨rfl, hb⟩
        have h1 := belw hbb hb
        have hi1 := hib.old hb
        have hs1 := hb.size
        clear hb hib hbb
        go_wp2_with fail
        refine (write_calls B b [] _ w1 hi1 (by have := putF_size (l.length : Int) 2; simp; omega) (by omega)).mono ?_
        rintro r w2 ⟨rfl, hi2, hk2⟩
        have h2 := h1.trans (hk2.1.mono hB0)
        have hs2 := hk2.1.size
        clear h1 hi1 hk2
        rw [List.nil_append] at hi2
        go_wp2_with fail
        go_loopw [33] (fun iv wr => ∃ k : Nat, k ≤ l.length ∧ iv = .int .i64 k ∧ Below w.heap.size w wr ∧ B ≤ wr.heap.size ∧ Hid (IsB B b (Lib.byteCells (putL l.length 2 ++ (l.take k).flatMap entBytes)) wr)) (fun i _ => l.length - (intOf i).toNat)
        case atStart => exact ⟨0, by omega, rfl, h2, by omega, by rw [List.take_zero, List.flatMap_nil, List.append_nil]; exact hi2⟩
        case round =>
          obtain ⟨k, hk, rfl, hbel, hBw, hib⟩ := hrel
          by_cases hlt : k < l.length
          · obtain ⟨x, rfl, hcx⟩ := HC.out (by intro h; simp [h] at hlt)
            have hx0 : x.block < w.heap.size := by
              have h := hcx k hlt 0 (by omega)
              have := World.block_lt_of_cell? (w := w) (a := x.add (k * 39 + 0)) (u := .int .i64 l[k].kind) (by rw [h]; rfl)
              rwa [add_block] at this
            have HCX : Hid (∀ j, j < 39 → wr.cell? ((x.add (k * 39)).add j) = (entC l[k])[j]?) := Lib.hid (fun j hj => by
              rw [add_add2, hbel.cell (by rw [add_block]; exact hx0)]
              exact hcx k hlt j hj)
            have HWK := Lib.hid (HW.out l[k] (List.getElem_mem hlt))
            have hne := HNE.out l[k] (List.getElem_mem hlt)
            have hst := St.start wr
            have HT : Hid ((l.take (k + 1)).flatMap entBytes = (l.take k).flatMap entBytes ++ entBytes l[k]) := Lib.hid (by rw [List.take_succ_eq_append_getElem hlt, List.flatMap_append]; simp)
            have HL : Hid ((putL l.length 2 ++ (l.take k).flatMap entBytes).length ≤ 39323808) := Lib.hid (by
              have h1 := putL_len l.length 2
              have h2 := ents_len (l := l.take k) (fun e he => (HW.out e (List.mem_of_mem_take he)).hash)
              have h3 : (l.take k).length ≤ 200 := by simp; omega
              rw [List.length_append]
              omega)
            generalize (l.take k).flatMap entBytes = pre at *
            generalize hp0 : putL l.length 2 = p0 at *
            clear hcx
            generalize l[k] = e at *
            go_wp2_with (first
              | (with_reducible refine wpList_lde rfl _ rfl _ rfl e HCX.out ?_)
              | (first|(with_reducible refine wpList_ld rfl _ _ rfl _ _ rfl (by assumption) ?_)|(with_reducible refine wpList_stA rfl _ _ _ rfl _ _ rfl _ rfl (by assumption) ?_; intro w' hst)|(with_reducible refine wpList_new rfl _ rfl (by assumption) _ zero_ent ?_; intro bn w' hst)))
            refine (put_any _ _ HWK.out.kind.2 _).mono ?_
            rintro r w5 ⟨rfl, hb⟩
            have hs5 := hst.below hb
            have hb5 := belw hbel hs5.end
            have hi5 : IsB B b (Lib.byteCells (p0 ++ pre)) w5 := hib.out.old hs5.end
            have hz5 : B ≤ w5.heap.size := Nat.le_trans hBw hs5.end.size
            clear hb hst hbel hib HCX
            go_wp2_with fail
            refine (write_calls B b _ _ w5 hi5 (by have := putF_size e.kind 1; have := HL.out; omega) hz5).mono ?_
            rintro r w6 ⟨rfl, hi6, hk6⟩
            have hs6 := hs5.beside hk6 hi5.block (by intro p hp; simp at hp; subst hp; exact ⟨by simp, by simp⟩)
            have hb6 := hb5.trans (hk6.1.mono hB0)
            have hz6 : B ≤ w6.heap.size := Nat.le_trans hz5 hk6.1.size
            clear hk6 hi5 hs5 hb5 hz5
            go_wp2_with (with_reducible refine wpList_ld rfl _ _ rfl _ _ rfl (by assumption) ?_)
            refine (fields_calls e.kind _).mono ?_
            rintro r w7 ⟨⟨v, rfl, hf⟩, hb⟩
            have HEB : Hid (entBytes e = putL e.kind 1 ++ (fieldsL e.kind).flatMap (fieldBytes e)) := Lib.hid rfl
            have HFR := Lib.hid (fieldsL_range e.kind)
            have hl3 := fieldsL_len e.kind
            generalize fieldsL e.kind = fl at *
            rcases hf with ⟨hl0, rfl⟩ | ⟨_, bF, rfl, hszF, hblk⟩
            · exact absurd hl0 hne
            · have hs7 := (hs6.belowNew hb hszF hblk).rebase
              have hb7 := belw hb6 hb
              have hi7 := hi6.old hb
              have hz7 : B ≤ w7.heap.size := Nat.le_trans hz6 hb.size
              clear hblk hb hszF hs6 hb6 hi6 hz6
              go_wp2_with fail
              go_loopw [45] (fun jv wq => ∃ j : Nat, j ≤ fl.length ∧ jv = .int .i64 j ∧ Below w.heap.size w wq ∧ B ≤ wq.heap.size ∧ Hid (IsB B b (Lib.byteCells ((p0 ++ pre) ++ (putL e.kind 1 ++ (fl.take j).flatMap (fieldBytes e)))) wq) ∧ St [bF, bn] wq wq [(bF, (fl.map (Value.int .i64)).toArray, 145), (bn, entC e, 87)]) (fun i _ => fl.length - (intOf i).toNat)
              case atStart => exact ⟨0, by omega, rfl, hb7, hz7, by rw [List.take_zero, List.flatMap_nil, List.append_nil]; exact hi7, hs7⟩
              case round =>
                obtain ⟨j, hj, rfl, hbq, hzq, hiq, hsq⟩ := hrel
                by_cases hjl : j < fl.length
                · have hcell := cell_field fl j hjl
                  have hf4 := HFR.out fl[j] (List.getElem_mem hjl)
                  have HTJ : Hid ((fl.take (j + 1)).flatMap (fieldBytes e) = (fl.take j).flatMap (fieldBytes e) ++ fieldBytes e fl[j]) := Lib.hid (by rw [List.take_succ_eq_append_getElem hjl, List.flatMap_append]; simp)
                  have HLJ : Hid (((fl.take j).flatMap (fieldBytes e)).length ≤ 196611) := Lib.hid (by
                    have h1 := flat_len (l := fl.take j) HWK.out.hash
                    have h2 : (fl.take j).length ≤ 3 := by simp; omega
                    omega)
                  generalize (fl.take j).flatMap (fieldBytes e) = mid at *
                  generalize fl[j] = f at *
                  go_wp2_with (first|(with_reducible refine wpList_ld rfl _ _ rfl _ _ rfl (by assumption) ?_)|(with_reducible refine wpList_lda rfl _ _ rfl _ _ rfl (by assumption) ?_))
                  refine (fieldput_calls f e hf4 HWK.out _).mono ?_
                  rintro r w8 ⟨rfl, hb⟩
                  have hs8 := hsq.below hb
                  have hb8 := belw hbq hb
                  have hi8 := hiq.out.old hb
                  have hz8 : B ≤ w8.heap.size := Nat.le_trans hzq hb.size
                  clear hb hsq hbq hiq hzq
                  go_wp2_with fail
                  refine (write_calls B b _ _ w8 hi8 (by
                    have h1 := fieldBytes_len e HWK.out.hash f
                    have h2 := HLJ.out
                    have h3 := HL.out
                    have h4 := putL_len e.kind 1
                    rw [size_mkS]
                    simp only [List.length_append] at h3 ⊢
                    omega) hz8).mono ?_
                  rintro r w9 ⟨rfl, hi9, hk9⟩
                  have hs9 := hs8.beside hk9 hi8.block (by intro p hp; simp at hp; rcases hp with rfl | rfl <;> exact ⟨by simp, by simp⟩)
                  have hb9 := hb8.trans (hk9.1.mono hB0)
                  have hz9 : B ≤ w9.heap.size := Nat.le_trans hz8 hk9.1.size
                  clear hk9 hi8 hs8 hb8 hz8
                  go_wp2_with fail
                  go_roundw
                  case rel => exact ⟨j + 1, by omega, by go_num, hb9, hz9, by rw [HTJ.out]; rw [ls_mkS] at hi9; exact Lib.hid (by simpa [List.append_assoc] using hi9), hs9⟩
                  case measure => simp [intOf]; omega
                · obtain rfl : j = fl.length := by omega
                  rw [List.take_length] at hiq
                  go_wp2_with fail
                  go_roundw
                  case rel => exact ⟨k + 1, by omega, by go_num, hbq, hzq, by rw [HT.out, HEB.out]; have := hiq.out; exact Lib.hid (by simpa [List.append_assoc] using this)⟩
                  case measure => simp [intOf]; omega
          · obtain rfl : k = l.length := by omega
            rw [List.take_length] at hib
            go_wp2_with fail
            refine (builder_string_calls B b _ wr hib.out hBw).mono ?_
            rintro r w5 ⟨rfl, hi5, hk5⟩
            go_wp2_with fail
            go_ret2
            exact ⟨by rw [HR.out]; rfl, hbel.trans (hk5.1.mono hB0)⟩
end Go.Proofs.YtigihgbgdillpaaGreatDoor
