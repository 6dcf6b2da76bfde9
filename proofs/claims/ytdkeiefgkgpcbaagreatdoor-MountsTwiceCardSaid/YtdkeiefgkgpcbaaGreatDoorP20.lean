/- Steps of the proof: FlowM, Maps, ScanAll. -/
import Derived.MapKept
import Derived.Carry
import Derived.Test.YtdkeiefgkgpcbaaGreatDoorP19
set_option linter.unusedVariables false
set_option linter.unusedSimpArgs false
set_option maxRecDepth 100000
namespace Go.Proofs.YtdkeiefgkgpcbaaGreatDoor.Fm
open Go.RowKit
structure Flow where
 σ:Type
 I:σ→World→Prop
 below:∀s w w',I s w→Below w.heap.size w w'→I s w'
 B:World→Prop
 special:Nat→Bool
 pure:Nat→Bool
 late:Nat→Bool
def Flow.cls (F:Flow) (i:Nat) (w:World):Prop:=F.pure i=true∨F.B w
def SP (F:Flow) (L:F.σ) (s:Sem Next) (R:F.σ→Value→Prop):Prop:=
 ∀w,F.I L w→(∃u w' L',s.run Tryz.prog w=.ok (.value u) w'∧R L' u∧F.I L' w')∨(∃w' L',s.run Tryz.prog w=.ok .skip w'∧R L' undef∧F.I L' w')∨(∃f args,s.run Tryz.prog w=.ok (.enter f args) w∧Calls Tryz.prog f args w fun e w'=>∃u L',e=.returned u∧R L' u∧F.I L' w')
def xdo (ops:Array Oper) (F:Flow) (i:Nat) (o:Oper) (K:F.σ→Act→Prop) (L:F.σ) (a:Act):Prop:=
 if F.special i=true then ∃R,SP F L (execOp a.eval o) R∧∀L' u,R L' u→(F.late i=true∨∀w,F.I L' w→F.B w)∧K L' (a.put o.dst u)
 else ∃v,Fx.YX ops (F.cls i) o a v∧(∀w,F.I L w→F.cls i w)∧K L (a.put o.dst v)
section
variable {ops:Array Oper} {F:Flow} {Qf:F.σ→Act→Prop}
def xstep (ops:Array Oper) (F:Flow) (i:Nat) (K:F.σ→Act→Prop) (L:F.σ) (a:Act):Prop:=
 match ops[i]? with
 |none=>False
 |some o=>xdo ops F i o K L a
theorem xdo_mono {i:Nat} {o:Oper} {K K':F.σ→Act→Prop} {L:F.σ} {a:Act} (h:∀L a,K L a→K' L a) (hh:xdo ops F i o K L a):xdo ops F i o K' L a:=by
 unfold xdo at*;split
 ·rename_i h1;rw[if_pos h1] at hh;exact⟨hh.choose,hh.choose_spec.1,fun L' u hr=>⟨(hh.choose_spec.2 L' u hr).1,h _ _ (hh.choose_spec.2 L' u hr).2⟩⟩
 ·rename_i h1;rw[if_neg h1] at hh;exact⟨hh.choose,hh.choose_spec.1,hh.choose_spec.2.1,h _ _ hh.choose_spec.2.2⟩
def wpX (ops:Array Oper) (F:Flow) (Qf:F.σ→Act→Prop):Nat→Array Bool→F.σ→Act→Prop
 |0,listed,L,a=>Region.ready .any ops listed=[]∧Qf L a
 |f+1,listed,L,a=>(Region.ready .any ops listed=[]→Qf L a)∧
  ∀i∈Region.ready .any ops listed,xstep ops F i (wpX ops F Qf f (listed.setIfInBounds i true)) L a
theorem wpAny_of_X (hg:∀(i:Nat) (o:Oper),ops[i]? =some o→F.special i=true→o.guard=none) {Q':Exit→Act→World→Prop} (hQ:∀L a w,F.I L w→Qf L a→Q' .normal a w):
  ∀(fuel:Nat) (listed:Array Bool) (L:F.σ) (a:Act) (w:World),F.I L w→wpX ops F Qf fuel listed L a→wpAny Tryz.prog .any ops Q' fuel listed a w
 |0,_,_,_,_,hw,h=>⟨h.1,hQ _ _ _ hw h.2⟩
 |fuel+1,listed,L,a,w,hw,h=>⟨fun h0=>hQ _ _ _ hw (h.1 h0),fun i hir=>by
   have hx:=h.2 i hir;unfold xstep at hx;unfold wpOp
   cases ho:ops[i]? with
   |none=>rw[ho] at hx;exact hx.elim
   |some o=>
    rw[ho] at hx;simp only at hx ⊢;unfold xdo at hx;split at hx
    ·rename_i hsi
     obtain⟨R,hsp,hk⟩:=hx;have hwant:Region.wanted o (yielded ops a.tmps)=true:=by unfold Region.wanted;rw[hg i o ho hsi]
     rw[if_pos hwant];left;unfold Oper.wp;rcases hsp w hw with⟨u,w',L',hr,hR,hst⟩ |⟨w',L',hr,hR,hst⟩ |⟨f,args,hr,hcall⟩
     ·rw[hr]
      exact wpAny_of_X hg hQ fuel _ _ _ _ hst (hk _ _ hR).2
     ·rw[hr]
      exact wpAny_of_X hg hQ fuel _ _ _ _ hst (hk _ _ hR).2
     ·rw[hr]
      exact hcall.mono fun e w' ⟨u,L',he,hR,hst⟩=>by subst he;exact wpAny_of_X hg hQ fuel _ _ _ _ hst (hk _ _ hR).2
    ·obtain⟨v,hq,hc,hk⟩:=hx
     rcases hq with⟨hwant,hq⟩ |⟨hwant,rfl⟩
     ·rw[if_pos hwant]
      exact Or.inl (hq.wp (hc w hw) (fun w' hb=>wpAny_of_X hg hQ fuel _ _ _ _ (F.below _ _ _ hw hb) hk))
     ·rw[if_neg (by rw[hwant];simp)]
      exact wpAny_of_X hg hQ fuel _ _ _ _ hw hk⟩
theorem wpX_first {i:Nat} {oi:Oper} {v:Value} (hi:ops[i]? =some oi) (his:F.special i=false) (hsel:∀(j:Nat) (o:Oper) cs b,ops[j]? =some o→o.op≠.select cs b)
  (hlate:∀(j:Nat) (oj:Oper),ops[j]? =some oj→F.late j=true→F.pure i=false→∃e∈oj.after,Region.binds .any e=true∧e.on=i):
  ∀(fuel:Nat) (listed:Array Bool) (L:F.σ) (a:Act),
   (∀j oj,ops[j]? =some oj→j≠i→listed.getD j true=false→(∀e∈oj.after,Region.binds .any e=true→e.on≠i)→oi.apart ops oj=true)→
   i∈Region.ready .any ops listed→Fx.YX ops (F.cls i) oi a v→(∀w,F.I L w→F.cls i w)→
   wpX ops F Qf fuel (listed.setIfInBounds i true) L (a.put oi.dst v)→wpX ops F Qf (fuel+1) listed L a:=by
 have taken:∀(K:F.σ→Act→Prop) (L:F.σ) (a:Act),Fx.YX ops (F.cls i) oi a v→(∀w,F.I L w→F.cls i w)→K L (a.put oi.dst v)→xstep ops F i K L a:=fun K L a hy hc H=>by
  unfold xstep;rw[hi];show xdo _ _ _ _ _ _ _;unfold xdo;rw[his,if_neg (by simp)];exact⟨v,hy,hc,H⟩
 intro fuel
 induction fuel with
 |zero=>
  intro listed L a _ hr hy hc H;refine⟨fun h=>(by rw[h] at hr;cases hr),fun j hj=>?_⟩
  by_cases hji:j=i
  ·subst hji;exact taken _ _ _ hy hc H
  ·have:=ready_mono hj hji
   rw[H.1] at this
   cases this
 |succ fuel ih=>
  intro listed L a hfree hr hy hc H;refine⟨fun h=>(by rw[h] at hr;cases hr),fun j hj=>?_⟩
  by_cases hji:j=i
  ·subst hji;exact taken _ _ _ hy hc H
  ·have h1:=H.2 j (ready_mono hj hji)
   obtain⟨hjun,oj,hoj,hall⟩:=mem_ready.1 hj
   have hnot:∀e∈oj.after,Region.binds .any e=true→e.on≠i:=fun e he hb heq=>by
    have h1:=hall e he hb;have h0:=(mem_ready.1 hr).1;rw[heq] at h1;rcases Nat.lt_or_ge i listed.size with h' |h'
    ·simp[h'] at h0 h1;rw[h0] at h1;cases h1
    ·simp[Array.getElem?_eq_none h'] at h1
   obtain⟨p1,p2,p3⟩:=Oper.apart_spec (hfree j oj hoj hji hjun hnot);have hfree':∀k ok,ops[k]? =some ok→k≠i→(listed.setIfInBounds j true).getD k true=false→
     (∀e∈ok.after,Region.binds .any e=true→e.on≠i)→oi.apart ops ok=true:=fun k ok hk hki hun hno=>by
    refine hfree k ok hk hki ?_ hno
    by_cases hjk:j=k
    ·subst hjk;exact hjun
    ·rw[getD_set_ne true hjk] at hun;exact hun
   have next:∀(L':F.σ) (u:Value),(∀w,F.I L' w→F.cls i w)→wpX ops F Qf fuel ((listed.setIfInBounds i true).setIfInBounds j true) L' ((a.put oi.dst v).put oj.dst u)→
     wpX ops F Qf (fuel+1) (listed.setIfInBounds j true) L' (a.put oj.dst u):=fun L' u hc' hh=>by
    refine ih (listed.setIfInBounds j true) L' _ hfree' (ready_mono hr (Ne.symm hji)) (hy.put (fun cs b=>hsel i oi cs b hi) p3) hc' ?_;rw[Array.setIfInBounds_comm _ _ hji,←Act.put_comm a v u p2];exact hh
   unfold xstep at h1 ⊢;rw[hoj] at h1 ⊢;simp only at h1 ⊢;unfold xdo at h1 ⊢
   by_cases hjs:F.special j=true
   ·rw[if_pos hjs] at h1 ⊢
    obtain⟨R,hsp,hk⟩:=h1;rw[execOp_put oj (fun cs b=>hsel j oj cs b hoj) a oi.dst v p1] at hsp;refine⟨R,hsp,fun L' u hR=>⟨(hk L' u hR).1,next _ _ ?_ (hk L' u hR).2⟩⟩;intro w hw
    cases hp:F.pure i with
    |true=>exact Or.inl hp
    |false=>
     rcases(hk L' u hR).1 with h2 |h2
     ·obtain⟨e,he,hb,hon⟩:=hlate j oj hoj h2 hp
      exact absurd hon (hnot e he hb)
     ·exact Or.inr (h2 w hw)
   ·rw[if_neg hjs] at h1 ⊢
    obtain⟨u,hu,hcj,hk⟩:=h1;exact⟨u,hu.unput (fun cs b=>hsel j oj cs b hoj) p1,hcj,next _ _ hc hk⟩
def wpLX (ops:Array Oper) (F:Flow) (Qf:F.σ→Act→Prop):List Nat→F.σ→Act→Prop
 | [],L,a=>Qf L a
 |i::is,L,a=>xstep ops F i (wpLX ops F Qf is) L a
theorem wpX_lex (hs:Region.noSelect ops=true) (hl8:Fx.lateX ops F.special F.pure F.late=true):∀(l:List Nat) (listed:Array Bool) (L:F.σ) (a:Act),
  Fx.lexX ops F.special l listed=true→wpLX ops F Qf l L a→wpX ops F Qf l.length listed L a
 | [],_,_,_,hB,h=>⟨by simpa[Fx.lexX] using hB,h⟩
 |k::l,listed,L,a,hB,h=>by
  simp only[Fx.lexX,Bool.and_eq_true] at hB;obtain⟨hr,hB'⟩:=hB;have ih:=fun L a=>wpX_lex hs hl8 l (listed.setIfInBounds k true) L a hB'
  have h:xstep ops F k (wpLX ops F Qf l) L a:=h
  cases h0:ops[k]? with
  |none=>unfold xstep at h;rw[h0] at h;exact h.elim
  |some o=>
  have h':xdo ops F k o (wpLX ops F Qf l) L a:=by unfold xstep at h;rw[h0] at h;exact h
  cases hk:F.special k with
  |true=>
   rw[hk] at hr;have hr':Region.ready .any ops listed=[k]:=by simpa using hr
   refine⟨fun e=>(by rw[hr'] at e;cases e),fun i hi=>?_⟩;rw[hr'] at hi;obtain rfl:i=k:=by simpa using hi
   unfold xstep;rw[h0];exact xdo_mono ih h'
  |false=>
   rw[hk] at hr;simp only[Bool.false_eq_true,if_false,Bool.and_eq_true] at hr;unfold xdo at h';rw[hk,if_neg (by simp)] at h';obtain⟨v,hq,hc,hk'⟩:=h';refine wpX_first h0 hk (Region.noSelect_spec hs) (fun j oj hj hlj hpi=>?_) l.length listed L a (Region.free_spec h0 hr.2) (by simpa using hr.1) hq hc (ih _ _ hk');have h1:=List.all_eq_true.1 hl8 j (List.mem_range.2 (Array.getElem?_eq_some_iff.1 hj).1);rw[hlj] at h1;simp only[Bool.not_true,Bool.false_or] at h1;have h2:=List.all_eq_true.1 h1 k (List.mem_range.2 (Array.getElem?_eq_some_iff.1 h0).1);rw[hk,hpi,hj] at h2;simp only[Bool.false_or] at h2;obtain⟨e,he,hb⟩:=Array.any_eq_true'.1 h2;simp only[Bool.and_eq_true,beq_iff_eq] at hb;exact⟨e,he,hb.1,hb.2⟩
theorem wp_region_flow {id:Nat} {Q':Exit→Act→World→Prop} {a:Act} {w:World} {l:List Oper} (F:Flow) {L:F.σ} (order:List Nat) (hlen:order.length=l.length) (hst:F.I L w) (hm:Tryz.prog.follows .mixedOrders=true)
  (hg:(List.range l.length).all (fun i=> !F.special i||(match l[i]? with |some o=>o.guard.isNone |none=>true))=true) (hs:Region.noSelect l.toArray=true) (hlex:Fx.lexX l.toArray F.special order (Array.replicate l.length false)=true) (hl8:Fx.lateX l.toArray F.special F.pure F.late=true)
  (h:wpLX l.toArray F (fun L' a'=>∀w',F.I L' w'→Q' .normal a' w') order L a):(Code.region id l.toArray true).wp Tryz.prog Q' a w:=by
 refine wp_region_any hm (wpAny_of_X (F:=F) (Qf:=fun L' a'=>∀w',F.I L' w'→Q' .normal a' w') (fun i o ho hsi=>?_) (fun L' a' w' hd hq=>hq w' hd) _ _ L _ _ (F.below _ _ _ hst (Below.refl _ _).drew) ?_)
 ·have ho':l[i]? =some o:=by simpa using ho
  have h1:=List.all_eq_true.1 hg i (List.mem_range.2 (List.getElem?_eq_some_iff.1 ho').1);simp only[hsi,ho'] at h1;simpa using h1
 ·have:=wpX_lex (F:=F) (Qf:=fun L' a'=>∀w',F.I L' w'→Q' .normal a' w') hs hl8 order (Array.replicate l.length false) L a hlex h
  rw[hlen] at this;simpa using this
variable {l:List Nat} {k:Nat} {o:Oper} {L:F.σ} {a:Act} {r:List (Nat×Value)}
theorem stp (h0:Fx.nthO ops.toList k=some o) (hs:F.special k=false) (v:Value) (hy:Fx.YX ops (F.cls k) o (Fx.mkO r a) v) (hc:∀w,F.I L w→F.cls k w) (hk:wpLX ops F Qf l L (Fx.mkO (Fx.nxt o.dst v r) a)):wpLX ops F Qf (k::l) L (Fx.mkO r a):=by
 show xstep _ _ _ _ _ _;unfold xstep;rw[Fx.nth_some h0];show xdo _ _ _ _ _ _ _;unfold xdo;rw[hs,if_neg (by simp)];exact⟨v,hy,hc,by rw[←Fx.mkO_nxt];exact hk⟩
theorem val (h0:Fx.nthO ops.toList k=some o) (hs:F.special k=false) (hp:F.pure k=true) (hw:Region.wanted o (yielded ops (Fx.mkO r a).tmps)=true) {v:Value} (h:∀w,(execOp (Fx.evO r a) o).run Tryz.prog w=.ok (.value v) w) (hk:wpLX ops F Qf l L (Fx.mkO (Fx.nxt o.dst v r) a)):wpLX ops F Qf (k::l) L (Fx.mkO r a):=
 stp h0 hs v (Or.inl ⟨hw,fun w _=>by unfold Oper.quietAt;rw[←Fx.evO_eq,h w];exact⟨rfl,rfl⟩⟩) (fun w _=>Or.inl hp) hk
theorem skip (h0:Fx.nthO ops.toList k=some o) (hs:F.special k=false) (hw:Region.wanted o (yielded ops (Fx.mkO r a).tmps)=false) (hp:F.pure k=true) (hk:wpLX ops F Qf l L (Fx.mkO (Fx.nxt o.dst undef r) a)):wpLX ops F Qf (k::l) L (Fx.mkO r a):=
 stp h0 hs undef (Or.inr ⟨hw,rfl⟩) (fun w _=>Or.inl hp) hk
theorem skipB (h0:Fx.nthO ops.toList k=some o) (hs:F.special k=false) (hw:Region.wanted o (yielded ops (Fx.mkO r a).tmps)=false) (hB:∀w,F.I L w→F.B w) (hk:wpLX ops F Qf l L (Fx.mkO (Fx.nxt o.dst undef r) a)):wpLX ops F Qf (k::l) L (Fx.mkO r a):=
 stp h0 hs undef (Or.inr ⟨hw,rfl⟩) (fun w hw=>Or.inr (hB w hw)) hk
theorem rd (h0:Fx.nthO ops.toList k=some o) (hs:F.special k=false) (hp:F.pure k=false) (hw:Region.wanted o (yielded ops (Fx.mkO r a).tmps)=true) {v:Value} (hB:∀w,F.I L w→F.B w) (h:∀w,F.B w→(execOp (Fx.evO r a) o).run Tryz.prog w=.ok (.value v) w) (hk:wpLX ops F Qf l L (Fx.mkO (Fx.nxt o.dst v r) a)):wpLX ops F Qf (k::l) L (Fx.mkO r a):=
 stp h0 hs v (Or.inl ⟨hw,fun w hw'=>by
  rcases hw' with h1 |h1
  ·rw[hp] at h1;cases h1
  ·unfold Oper.quietAt;rw[←Fx.evO_eq,h w h1];exact⟨rfl,rfl⟩⟩) (fun w hw'=>Or.inr (hB w hw')) hk
theorem call (h0:Fx.nthO ops.toList k=some o) (hs:F.special k=false) {f:FuncId} {args:Array Value} {v:Value} (hc:∀w,Calls Tryz.prog f args w (Ret v w)) (hp:F.pure k=true) (hw:Region.wanted o (yielded ops (Fx.mkO r a).tmps)=true) (h:∀w,(execOp (Fx.evO r a) o).run Tryz.prog w=.ok (.enter f args) w) (hk:wpLX ops F Qf l L (Fx.mkO (Fx.nxt o.dst v r) a)):wpLX ops F Qf (k::l) L (Fx.mkO r a):=
 stp h0 hs v (Or.inl ⟨hw,fun w _=>by unfold Oper.quietAt;rw[←Fx.evO_eq,h w];exact⟨rfl,hc w⟩⟩) (fun w _=>Or.inl hp) hk
theorem callB (h0:Fx.nthO ops.toList k=some o) (hs:F.special k=false) {f:FuncId} {args:Array Value} {v:Value} (hB:∀w,F.I L w→F.B w) (hc:∀w,F.B w→Calls Tryz.prog f args w (Ret v w)) (hp:F.pure k=false) (hw:Region.wanted o (yielded ops (Fx.mkO r a).tmps)=true) (h:∀w,(execOp (Fx.evO r a) o).run Tryz.prog w=.ok (.enter f args) w) (hk:wpLX ops F Qf l L (Fx.mkO (Fx.nxt o.dst v r) a)):wpLX ops F Qf (k::l) L (Fx.mkO r a):=
 stp h0 hs v (Or.inl ⟨hw,fun w hw'=>by
  rcases hw' with h1 |h1
  ·rw[hp] at h1;cases h1
  ·unfold Oper.quietAt;rw[←Fx.evO_eq,h w];exact⟨rfl,hc w h1⟩⟩) (fun w hw'=>Or.inr (hB w hw')) hk
theorem spec (h0:Fx.nthO ops.toList k=some o) (hs:F.special k=true) (R:F.σ→Value→Prop) (hsp:SP F L (execOp (Fx.evO r a) o) R) (hk:∀L' u,R L' u→(F.late k=true∨∀w,F.I L' w→F.B w)∧wpLX ops F Qf l L' (Fx.mkO (Fx.nxt o.dst u r) a)):wpLX ops F Qf (k::l) L (Fx.mkO r a):=by
 show xstep _ _ _ _ _ _;unfold xstep;rw[Fx.nth_some h0];show xdo _ _ _ _ _ _ _;unfold xdo;rw[if_pos hs];rw[Fx.evO_eq] at hsp;exact⟨R,hsp,fun L' u hr=>⟨(hk L' u hr).1,by rw[←Fx.mkO_nxt];exact(hk L' u hr).2⟩⟩
end
end Go.Proofs.YtdkeiefgkgpcbaaGreatDoor.Fm
namespace Go.Proofs.YtdkeiefgkgpcbaaGreatDoor
open Go.RowKit
structure Gr where
 key:Int
 val:Value
 born:Nat
def Gr.ent (g:Gr):MapEntry:=⟨.int .i64 g.key,g.val,g.born⟩
def mapO (gs:List Gr) (clock:Nat):Obj:=.map (gs.map Gr.ent).toArray clock
def gfind (n:Int):List Gr→Nat→Option (Nat×Value)
 | [],_=>none
 |g::gs,i=>if n=g.key then some (i,g.val) else gfind n gs (i+1)
theorem findNow_gs (n:Int):∀(gs:List Gr) (i:Nat),Instr.findNow (.int .i64) (.int .i64 n) (gs.map Gr.ent) i=some (gfind n gs i)
 | [],_=>rfl
 |g::gs,i=>by
  have ih:=findNow_gs n gs (i+1)
  by_cases h:n=g.key
  ·simp[Instr.findNow,Instr.sameNow,Gr.ent,gfind,h]
  ·simp only[List.map_cons,Instr.findNow,Instr.sameNow,Gr.ent,gfind,if_neg h]
   have:(n==g.key)=false:=by simpa using h
   simp only[this,if_true];exact ih
theorem gfind_none {n:Int}:∀ {gs:List Gr} {i:Nat},(∀g∈gs,g.key≠n)→gfind n gs i=none
 | [],_,_=>rfl
 |g::gs,i,h=>by
  unfold gfind;rw[if_neg (fun e=>h g (by simp) e.symm)];exact gfind_none (fun x hx=>h x (List.mem_cons_of_mem _ hx))
theorem gfind_at {n:Int} {g:Gr} {b:List Gr} (hg:g.key=n):∀ {a:List Gr} {i:Nat},(∀x∈a,x.key≠n)→gfind n (a++g::b) i=some (i+a.length,g.val)
 | [],i,_=>by simp[gfind,hg]
 |x::a,i,h=>by
  rw[List.cons_append];unfold gfind;rw[if_neg (fun e=>h x (by simp) e.symm),gfind_at hg (fun y hy=>h y (List.mem_cons_of_mem _ hy)),List.length_cons];congr 2;omega
theorem gsplit (n:Int):∀gs:List Gr,(∀g∈gs,g.key≠n)∨∃a g b,gs=a++g::b∧g.key=n∧∀x∈a,x.key≠n
 | []=>Or.inl (by simp)
 |g::gs=>by
  by_cases h:g.key=n
  ·exact Or.inr ⟨[],g,gs,rfl,h,by simp⟩
  ·rcases gsplit n gs with h1 |⟨a,x,b,rfl,hx,ha⟩
   ·exact Or.inl (fun x hx=>by rcases List.mem_cons.1 hx with rfl |hx;exact h;exact h1 x hx)
   ·exact Or.inr ⟨g::a,x,b,rfl,hx,fun y hy=>by rcases List.mem_cons.1 hy with rfl |hy;exact h;exact ha y hy⟩
def gput (gs:List Gr) (clock:Nat) (n:Int) (v:Value):List Gr×Nat:=
 match gfind n gs 0 with
 |some p=>(gs.modify p.1 fun g=>{g with val:=v},clock)
 |none=>(gs++[⟨n,v,clock⟩],clock+1)
def glook (gs:List Gr) (n:Int) (z:Value):Value:=match gfind n gs 0 with |some p=>p.2 |none=>z
class MapT (T:TypeId) (E:outParam TypeId):Prop where
 run:∃K,Tryz.prog.underlying T=some (.map K E)∧Tryz.prog.underlying K=some (.int .i64)
section
variable {T E:TypeId} {w:World} {m:Nat} {gs:List Gr} {clock:Nat} {n:Int} {v z:Value}
theorem run_glook [t:MapT T E] (hz:(zeroValue E).run Tryz.prog w=.ok z w) (hb:w.heap[m]? =some (mapO gs clock)):(Instr.lookup T (.map (some m)) (.int .i64 n) false).run Tryz.prog w=.ok (glook gs n z) w:=by
 obtain⟨K,h1,h2⟩:=t.run;have hc:∀e,(Instr.checkKey e 10000 K (.int .i64 n)).run Tryz.prog w=.ok () w:=fun e=>MapKept.run_checkKey (k:=.int .i64 n) h2 rfl e 9999
 have hf:=findNow_gs n gs 0;have hk:=MapKept.run_findKey (P:=Tryz.prog) (w:=w) (kt:=K) (k:=.int .i64 n) (l:=gs.map Gr.ent) h2 hf;have ho:=MapKept.run_getObj_map (P:=Tryz.prog) (w:=w) (r:=m) hb;unfold Instr.lookup glook
 cases hg:gfind n gs 0 with
 |none=>rw[hg] at hk;simp[Sem.run_bind,run_underlying h1,ho,hc,hk,hz]
 |some p=>rw[hg] at hk;simp[Sem.run_bind,run_underlying h1,ho,hc,hk]
theorem run_gput [t:MapT T E] (hb:w.heap[m]? =some (mapO gs clock)):(Instr.mapUpdate T (.map (some m)) (.int .i64 n) v).run Tryz.prog w=.ok () {w with heap:=w.heap.setIfInBounds m (mapO (gput gs clock n v).1 (gput gs clock n v).2)}:=by
 obtain⟨K,h1,h2⟩:=t.run;have hc:(Instr.checkKey false 10000 K (.int .i64 n)).run Tryz.prog w=.ok () w:=MapKept.run_checkKey (k:=.int .i64 n) h2 rfl false 9999;have hf:=findNow_gs n gs 0;have hk:=MapKept.run_findKey (P:=Tryz.prog) (w:=w) (kt:=K) (k:=.int .i64 n) (l:=gs.map Gr.ent) h2 hf;have ho:=MapKept.run_getObj_map (P:=Tryz.prog) (w:=w) (r:=m) hb;have hs:=fun o=>MapKept.run_setObj_map (P:=Tryz.prog) (w:=w) (r:=m) o hb
 unfold Instr.mapUpdate gput;rcases gsplit n gs with h |⟨a,g,b,hgs,hg,ha⟩
 ·rw[gfind_none h] at hk ⊢
  simp[Sem.run_bind,run_underlying h1,ho,hc,hk,hs,mapO,Gr.ent]
 ·have hfi:gfind n gs 0=some (a.length,g.val):=by rw[hgs,gfind_at hg ha,Nat.zero_add]
  have hgi:gs[a.length]? =some g:=by rw[hgs];simp
  generalize a.length=i at*;clear hgs ha;rw[hfi] at hk ⊢
  have e1:((gs.map Gr.ent).toArray[i]?).map (·.key)=some (.int .i64 n):=by
   rw[List.getElem?_toArray,List.getElem?_map,hgi];simp[Gr.ent,hg]
  have e2:(Instr.keyThatStays (.int .i64 n) (.int .i64 n)).run Tryz.prog w=.ok (.int .i64 n) w:=by
   unfold Instr.keyThatStays;rw[if_pos (by simp[Instr.sameBits])];rfl
  have e3:((gs.map Gr.ent).toArray.modify i fun e=>{e with key:=.int .i64 n,val:=v})=((gs.modify i fun g=>{g with val:=v}).map Gr.ent).toArray:=by
   apply Array.ext_getElem?;intro j;rw[Array.getElem?_modify,List.getElem?_toArray,List.getElem?_toArray,List.getElem?_map,List.getElem?_map,List.getElem?_modify]
   by_cases hj:i=j
   ·subst hj
    rw[if_pos rfl,hgi];simp[Gr.ent,hg]
   ·rw[if_neg hj]
    simp[hj]
  generalize gs.map Gr.ent=G at*;simp only[Sem.run_bind,run_underlying h1,Result.andThen_ok,ho,hc,hk,e1,Option.getD_some,e2,e3,hs,mapO]
end
structure Mx (S:List Nat) (w0 w:World) (L:List Blk) (D:Dat) (m:Nat) (o:Obj):Prop where
 sx:Sx S w0 w L D [m]
 ob:w.heap[m]? =some o
section
variable {S:List Nat} {w0 w1 w w':World} {L L1:List Blk} {D:Dat} {m:Nat} {o:Obj}
theorem Mx.below (h:Mx S w0 w L D m o) (hb:Below w.heap.size w w'):Mx S w0 w' L D m o:=
 ⟨h.sx.below hb,(hb.block m (h.sx.flt m (by simp))).trans h.ob⟩
theorem Mx.perm {L':List Blk} (h:Mx S w0 w L D m o) (hp:L.Perm L'):Mx S w0 w L' D m o:=⟨h.sx.perm hp,h.ob⟩
theorem Mx.drop {b:Blk} (h:Mx S w0 w (b::L) D m o):Mx S w0 w L D m o:=⟨h.sx.drop,h.ob⟩
theorem Mx.dropL (h:Mx S w0 w (L1++L) D m o):Mx S w0 w L D m o:=⟨h.sx.dropL,h.ob⟩
theorem Mx.start (h:Mx S w0 w L D m o):Sx (L.map (·.1)) w w L D []:=
 ⟨⟨rfl,rfl,rfl,Nat.le_refl _,fun _ _ _=>rfl,fun p hp=>Or.inr (List.mem_map.2 ⟨p,hp,rfl⟩),h.sx.st.nodup,h.sx.st.blk⟩,h.sx.data,h.sx.apart,fun x hx=>by simp at hx,fun x hx=>by simp at hx,fun x hx=>by simp at hx,fun x hx=>by simp at hx⟩
theorem Mx.move (h:Mx S w0 w1 L1 D m o) (hs:Sx (L1.map (·.1)) w1 w L D []):Mx S w0 w L D m o:=by
 have hm:=h.sx.flt m (by simp)
 have hmL:m∉L1.map (·.1):=fun hx=>by
  obtain⟨p,hp,e⟩:=List.mem_map.1 hx;exact h.sx.fL m (by simp) p hp e
 have hown:∀p∈L,w1.heap.size≤p.1∨∃q∈L1,q.1=p.1:=fun p hp=>by
  rcases hs.st.own p hp with h1 |h1
  ·exact Or.inl h1
  ·obtain⟨q,hq,e⟩:=List.mem_map.1 h1
   exact Or.inr ⟨q,hq,e⟩
 refine⟨⟨⟨hs.st.os.trans h.sx.st.os,hs.st.tape.trans h.sx.st.tape,hs.st.output.trans h.sx.st.output,Nat.le_trans h.sx.st.size hs.st.size,fun j hj hjS=>?_,fun p hp=>?_,hs.st.nodup,hs.st.blk⟩,hs.data,hs.apart,fun x hx=>?_,fun x hx p hp=>?_,h.sx.fD,h.sx.fS⟩,(hs.st.kept m hm hmL).trans h.ob⟩
 ·refine(hs.st.kept j (Nat.lt_of_lt_of_le hj h.sx.st.size) (fun hx=>?_)).trans (h.sx.st.kept j hj hjS)
  obtain⟨p,hp,rfl⟩:=List.mem_map.1 hx;rcases h.sx.st.own p hp with h1 |h1
  ·omega
  ·exact hjS h1
 ·rcases hown p hp with h1 |⟨q,hq,e⟩
  ·exact Or.inl (Nat.le_trans h.sx.st.size h1)
  ·rw[←e];exact h.sx.st.own q hq
 ·simp at hx;subst hx;exact Nat.lt_of_lt_of_le hm hs.st.size
 ·simp at hx;subst hx
  rcases hown p hp with h1 |⟨q,hq,e⟩
  ·omega
  ·rw[←e];exact h.sx.fL x (by simp) q hq
theorem Mx.set {o':Obj} (h:Mx S w0 w L D m o):Mx S w0 {w with heap:=w.heap.setIfInBounds m o'} L D m o':=by
 have hm:=h.sx.flt m (by simp);have hne:∀j,j≠m→(w.heap.setIfInBounds m o')[j]? =w.heap[j]? :=fun j hj=>by simp[Ne.symm hj]
 refine⟨⟨⟨h.sx.st.os,h.sx.st.tape,h.sx.st.output,by simpa using h.sx.st.size,fun j hj hjS=>?_,h.sx.st.own,h.sx.st.nodup,fun p hp=>?_⟩,fun p hp=>?_,h.sx.apart,fun x hx=>by simpa using h.sx.flt x hx,h.sx.fL,h.sx.fD,h.sx.fS⟩,by simp[hm]⟩
 ·refine(hne j (fun e=>?_)).trans (h.sx.st.kept j hj hjS)
  subst e;rcases h.sx.fS j (by simp) with h1 |h1
  ·exact hjS h1
  ·omega
 ·exact(hne p.1 (h.sx.fL m (by simp) p hp)).trans (h.sx.st.blk p hp)
 ·obtain⟨z,hz⟩:=h.sx.data p hp
  exact⟨z,(hne p.1 (h.sx.fD m (by simp) p hp)).trans hz⟩
theorem Sx.newMap (h:Sx S w0 w L D []) (o:Obj):Mx S w0 (w.alloc o) L D w.heap.size o:=by
 have hb:Below w.heap.size w (w.alloc o):=(Below.refl _ _).alloc (Nat.le_refl _) _;have h1:=h.below hb;refine⟨⟨h1.st,h1.data,h1.apart,fun x hx=>?_,fun x hx p hp=>?_,fun x hx p hp=>?_,fun x hx=>?_⟩,heap_alloc_new w o⟩
 ·simp at hx;subst hx;simp
 ·simp at hx;subst hx;have:=h.st.lt p hp;omega
 ·simp at hx;subst hx;have:=h.data.lt hp;omega
 ·simp at hx;subst hx;exact Or.inr h.st.size
variable {ops:Array Oper} {rest:List Oper} {op:Oper} {a:Act} {Q:Exit→Act→World→Prop} {gs:List Gr} {clock:Nat} {T E:TypeId}
theorem xmm (hw:Region.wanted op (yielded ops a.tmps)=true) {T:TypeId} (ho:op.op=.makeMap T none) (h:Sx S w0 w L D [])
  (hk:∀m w',Mx S w0 w' L D m (mapO [] 0)→wpList Tryz.prog ops Q rest (a.put op.dst (.map (some m))) w'):wpList Tryz.prog ops Q (op::rest) a w:=
 BigFrame.wpList_want hw fun K hK=>by
  unfold Oper.wp execOp;simp only[ho,Option.map_none,Sem.run_bind,run_makeMap,Result.andThen_ok];exact hK _ _ (hk _ _ (h.newMap _))
theorem xmu (hw:Region.wanted op (yielded ops a.tmps)=true) {x y v:Operand} (ho:op.op=.mapUpdate T x y v) [t:MapT T E] (hm:Mx S w0 w1 L1 D m (mapO gs clock)) (hs:Sx (L1.map (·.1)) w1 w L D []) {n:Int} {u:Value} (hx:a.eval x=.map (some m)) (hy:a.eval y=.int .i64 n) (hv:a.eval v=u)
  (hk:∀w',Mx S w0 w' L D m (mapO (gput gs clock n u).1 (gput gs clock n u).2)→wpList Tryz.prog ops Q rest (a.put op.dst undef) w'):wpList Tryz.prog ops Q (op::rest) a w:=
 BigFrame.wpList_want hw fun K hK=>by
  have hr:=run_gput (T:=T) (E:=E) (n:=n) (v:=u) (hm.move hs).ob;unfold Oper.wp execOp;simp only[ho,hx,hy,hv,Sem.run_bind,hr,Result.andThen_ok];exact hK _ _ (hk _ (hm.move hs).set)
end
end Go.Proofs.YtdkeiefgkgpcbaaGreatDoor
namespace Go.Proofs.YtdkeiefgkgpcbaaGreatDoor
open Go.RowKit
structure Fnd where
 s:Sl
 at_:Int
def fdL (f:Fnd):List Value:=slL f.s++[.int .i64 f.at_]
def fdC (f:Fnd):Array Value:=(fdL f).toArray
def fd0:Fnd:=⟨sl0,0⟩
theorem fdL_one (p:Fnd):(fdL p).all (·.oneCell')=true:=rfl
instance encFd:Enc fdL 70:=⟨fun _=>rfl,fun x v hv=>List.all_eq_true.1 (fdL_one x) v hv⟩
instance aggFd:AggT 153 70:=⟨fun w=>by kernel_rfl,by kernel_rfl⟩
instance eltFd:Elt 153 70:=⟨.agg (fdC fd0),112,by kernel_rfl,rfl,by decide,by decide⟩
instance sltFd:SlT 151 153:=⟨by kernel_rfl⟩
instance mapFd:MapT 149 151:=⟨3,by kernel_rfl,by kernel_rfl⟩
instance wrSl (p q:Sl):WrAt (slC p) 0 69 (.agg (slL q).toArray) (slC q):=wr_row _ _ _ _ (slL q) rfl rfl (Nat.le_of_ble_eq_true rfl) (by kernel_rfl)
theorem zeroFds (w:World):(zeroValue 151).run Tryz.prog w=.ok (.slice none 0 0) w:=by kernel_rfl
def fndAt (d:Dv) (k:Nat):List Fnd:=if(dRead d k).2=0∧(slOf (dRead d k).1).2=0 then[⟨(slOf (dRead d k).1).1,k⟩] else[]
def fnds (d:Dv) (k:Nat):List Fnd:=(List.range k).flatMap (fndAt d)
theorem fnds_succ (d:Dv) (k:Nat):fnds d (k+1)=fnds d k++fndAt d k:=by unfold fnds;rw[List.range_succ,List.flatMap_append];simp
structure Rc where
 g:Gr
 lo:List Blk
 l:List Fnd
structure MapRel (rs:List Rc) (fl:List Fnd):Prop where
 own:∀r∈rs,OwnR 153 70 fdL r.lo r.g.val r.l
 nd:(rs.map (·.g.key)).Nodup
 eq:∀r∈rs,r.l=fl.filter (fun f=>f.s.n=r.g.key)
 all:∀f∈fl,∃r∈rs,r.g.key=f.s.n
theorem rsplit (n:Int):∀rs:List Rc,(∀r∈rs,r.g.key≠n)∨∃a r b,rs=a++r::b∧r.g.key=n
 | []=>Or.inl (by simp)
 |r::rs=>by
  by_cases h:r.g.key=n
  ·exact Or.inr ⟨[],r,rs,rfl,h⟩
  ·rcases rsplit n rs with h1 |⟨a,x,b,rfl,hx⟩
   ·exact Or.inl (fun x hx=>by rcases List.mem_cons.1 hx with rfl |hx;exact h;exact h1 x hx)
   ·exact Or.inr ⟨r::a,x,b,rfl,hx⟩
theorem MapRel.look {rs:List Rc} {fl:List Fnd} (h:MapRel rs fl) (n:Int) (clock:Nat):∃(Lo rest:List Blk) (l:List Fnd),OwnR 153 70 fdL Lo (glook (rs.map (·.g)) n (.slice none 0 0)) l∧l=fl.filter (fun f=>f.s.n=n)∧(rs.flatMap (·.lo)).Perm (Lo++rest)∧
  ∀v' Lo' f,f.s.n=n→OwnR 153 70 fdL Lo' v' (l++[f])→∃rs':List Rc,(gput (rs.map (·.g)) clock n v').1=rs'.map (·.g)∧MapRel rs' (fl++[f])∧(rs'.flatMap (·.lo)).Perm (Lo'++rest):=by
 rcases rsplit n rs with hno |⟨a,r,b,rfl,hr⟩
 ·have hf:gfind n (rs.map (·.g)) 0=none:=gfind_none (fun g hg=>by obtain⟨r,hr,rfl⟩:=List.mem_map.1 hg;exact hno r hr)
  have hfl:fl.filter (fun f=>f.s.n=n)=[]:=by
   rw[List.filter_eq_nil_iff];intro f hf2;obtain⟨r,hr,e⟩:=h.all f hf2;simp only[decide_eq_true_eq];intro e2;exact hno r hr (e.trans e2)
  refine⟨[],rs.flatMap (·.lo),[],?_,hfl.symm,by simp,fun v' Lo' f hfn ho=>?_⟩
  ·unfold glook;rw[hf];exact OwnR.none _
  ·refine⟨rs++[⟨⟨n,v',clock⟩,Lo',[f]⟩],?_,⟨fun r hr=>?_,?_,fun r hr=>?_,fun x hx=>?_⟩,?_⟩
   ·unfold gput;rw[hf];simp
   ·rcases List.mem_append.1 hr with hr |hr
    ·exact h.own r hr
    ·obtain rfl:=List.mem_singleton.1 hr;simpa using ho
   ·rw[List.map_append,List.nodup_append]
    exact⟨h.nd,by simp,fun x hx y hy e=>by
     obtain⟨r,hr,rfl⟩:=List.mem_map.1 hx;simp at hy
     exact hno r hr (e.trans hy)⟩
   ·rcases List.mem_append.1 hr with hr |hr
    ·rw[List.filter_append,←h.eq r hr]
     have:¬n=r.g.key:=fun e=>hno r hr e.symm
     simp[hfn,this]
    ·obtain rfl:=List.mem_singleton.1 hr
     rw[List.filter_append];simp[hfl,hfn]
   ·rcases List.mem_append.1 hx with hx |hx
    ·obtain⟨r,hr,e⟩:=h.all x hx
     exact⟨r,by simp[hr],e⟩
    ·obtain rfl:=List.mem_singleton.1 hx
     exact⟨_,List.mem_append_right _ (List.mem_singleton.2 rfl),hfn.symm⟩
   ·rw[List.flatMap_append]
    simpa using List.perm_append_comm
 ·have hnd:=h.nd
  rw[List.map_append,List.map_cons,List.nodup_append,List.nodup_cons] at hnd
  have ha:∀x∈a.map (·.g),x.key≠n:=fun x hx e=>by
   obtain⟨q,hq,rfl⟩:=List.mem_map.1 hx;exact hnd.2.2 _ (List.mem_map.2 ⟨q,hq,rfl⟩) _ (List.mem_cons_self ..) (e.trans hr.symm)
  have hb:∀q∈b,q.g.key≠n:=fun q hq e=>hnd.2.1.1 (List.mem_map.2 ⟨q,hq,e.trans hr.symm⟩)
  have hf:gfind n ((a++r::b).map (·.g)) 0=some (a.length,r.g.val):=by
   rw[List.map_append,List.map_cons,gfind_at hr ha,List.length_map,Nat.zero_add]
  refine⟨r.lo,a.flatMap (·.lo)++b.flatMap (·.lo),r.l,?_,?_,?_,fun v' Lo' f hfn ho=>?_⟩
  ·unfold glook;rw[hf];exact h.own r (by simp)
  ·rw[h.eq r (by simp),hr]
  ·rw[List.flatMap_append,List.flatMap_cons]
   exact perm_count fun x=>by simp only[List.count_append];omega
  ·refine⟨a++⟨{r.g with val:=v'},Lo',r.l++[f]⟩::b,?_,⟨fun q hq=>?_,?_,fun q hq=>?_,fun x hx=>?_⟩,?_⟩
   ·unfold gput;rw[hf]
    simp only[List.map_append,List.map_cons];rw[List.modify_eq_take_drop]<;>simp
   ·rcases List.mem_append.1 hq with hq |hq
    ·exact h.own q (by simp[hq])
    ·rcases List.mem_cons.1 hq with rfl |hq
     ·exact ho
     ·exact h.own q (by simp[hq])
   ·have:=h.nd
    simpa using this
   ·have hoth:∀q,q.g.key≠n→q∈a++r::b→q.l=(fl++[f]).filter (fun f=>f.s.n=q.g.key):=fun q hne hq=>by
     rw[List.filter_append,←h.eq q hq];have:¬n=q.g.key:=fun e=>hne e.symm
     simp[hfn,this]
    rcases List.mem_append.1 hq with hq |hq
    ·exact hoth q (ha _ (List.mem_map.2 ⟨q,hq,rfl⟩)) (by simp[hq])
    ·rcases List.mem_cons.1 hq with rfl |hq
     ·simp only
      rw[List.filter_append,←h.eq r (by simp)];simp[hfn,hr]
     ·exact hoth q (hb q hq) (by simp[hq])
   ·have hkey:∀k,(∃q∈a++r::b,q.g.key=k)→∃q∈a++(⟨{r.g with val:=v'},Lo',r.l++[f]⟩:Rc)::b,q.g.key=k:=by
     rintro k ⟨q,hq,e⟩;rcases List.mem_append.1 hq with hq |hq
     ·exact⟨q,by simp[hq],e⟩
     ·rcases List.mem_cons.1 hq with rfl |hq
      ·exact⟨⟨{q.g with val:=v'},Lo',q.l++[f]⟩,by simp,e⟩
      ·exact⟨q,by simp[hq],e⟩
    rcases List.mem_append.1 hx with hx |hx
    ·exact hkey _ (h.all x hx)
    ·obtain rfl:=List.mem_singleton.1 hx
     exact hkey _ ⟨r,by simp,hr.trans hfn.symm⟩
   ·rw[List.flatMap_append,List.flatMap_cons]
    exact perm_count fun x=>by simp only[List.count_append];omega
theorem run_bsf (f:Fnd) (w:World):(Instr.buildSlice 151 1 #[(0,.agg (fdC f))]).run Tryz.prog w=.ok (.slice (some ⟨w.heap.size,0,none⟩) 1 1) (w.alloc (.cells (fdC f) 153)):=by kernel_rfl
def allFlow (w0:World) (D:Dat) (m b7:Nat) (s:Sl) (o:Obj):Fm.Flow where
 σ:=List Blk×Obj
 I p w:=Mx [] w0 w p.1 D m p.2
 below _ _ _ h hb:=h.below hb
 B w:=∃L',Sx [] w0 w ((b7,slC s,41)::L') D [m]∧w.heap[m]? =some o
 special i:=i==10||i==11||i==12
 pure i:= !(i==2||i==5||i==6||i==7)
 late i:=i==12
section
variable {w0:World} {D:Dat} {m b7:Nat} {s:Sl} {o0 oo:Obj} {ρ:Operand→Value} {op:Oper} {x y z:Operand}
theorem all_look {w:World} {T E:TypeId} {gs:List Gr} {clock:Nat} {n:Int} {u:Value} [t:MapT T E] (hz:∀w,(zeroValue E).run Tryz.prog w=.ok u w) (ho:op.op=.lookup T x y false) (hx:ρ x=.map (some m)) (hy:ρ y=.int .i64 n) (hb:w.heap[m]? =some (mapO gs clock)):(execOp ρ op).run Tryz.prog w=.ok (.value (glook gs n u)) w:=by
 have hr:=run_glook (T:=T) (E:=E) (n:=n) (hz w) hb;unfold execOp;simp only[ho,hx,hy,Sem.run_bind,hr,Result.andThen_ok];rfl
theorem all_mk {L0:List Blk} {f:Fnd} (ho:op.op=.buildSlice 151 1 #[(0,y)]) (hy:ρ y=.agg (fdC f)):Fm.SP (allFlow w0 D m b7 s o0) (L0,oo) (execOp ρ op) (fun p u=>∃b,p=((b,fdC f,153)::L0,oo)∧u=.slice (some ⟨b,0,none⟩) 1 1):=fun w hw=>by
 refine Or.inl ⟨.slice (some ⟨w.heap.size,0,none⟩) 1 1,w.alloc (.cells (fdC f) 153),((w.heap.size,fdC f,153)::L0,oo),?_,⟨_,rfl,rfl⟩,Mx.move hw ((Mx.start hw).alloc _ _)⟩;unfold execOp;simp only[ho,List.map_toArray,List.map_cons,List.map_nil,hy,Sem.run_bind,run_bsf,Result.andThen_ok];rfl
theorem all_ap {Lo rest:List Blk} {b:Nat} {f:Fnd} {v:Value} {l:List Fnd} {B:Blk} (ho:op.op=.call {callee:=.builtin .append,args:=#[x,y],argTypes:=#[151,151]}) (hx:ρ x=v) (hy:ρ y=.slice (some ⟨b,0,none⟩) 1 1) (hv:OwnR 153 70 fdL Lo v l) (hl:l.length≤1000):
  Fm.SP (allFlow w0 D m b7 s o0) ((b,fdC f,153)::B::(Lo++rest),oo) (execOp ρ op) (fun p u=>∃Lo' q c,p=(Lo'++((b,fdC f,153)::B::rest),oo)∧u=.slice q (l.length+1) c∧OwnR 153 70 fdL Lo' (.slice q (l.length+1) c) (l++[f])):=fun w hw=>by
 have hw1:Mx [] w0 w (Lo++((b,fdC f,153)::B::rest)) D m oo:=Mx.perm hw (perm_count fun x=>by simp only[List.count_append,List.count_cons];omega);have hs1:=hw1.start;have hb:=hs1.st.blk (b,fdC f,153) (by simp);have hsrc:Src w fdL (.slice (some ⟨b,0,none⟩) [f].length 1) [f]:=src_block (T:=153) (by simpa[fdC] using hb);obtain⟨p',c',w',Lo',hr,h1,h2⟩:=append_row (TS:=151) op.type hs1 hv hsrc (by simp;omega);rw[List.length_append] at hr h1;refine Or.inl ⟨_,w',(Lo'++((b,fdC f,153)::B::rest),oo),?_,⟨Lo',p',c',rfl,rfl,h1⟩,Mx.move hw1 h2⟩;unfold execOp;have hr':(Builtin.append_ #[151,151] op.type #[v,.slice (some ⟨b,0,none⟩) 1 1]).run Tryz.prog w=.ok (.slice p' (l.length+1) c') w':=hr;simp only[ho,resolve,invoke,builtin,Sem.run_bind,Sem.run_pure,Result.andThen_ok,List.map_toArray,List.map_cons,List.map_nil,hx,hy,hr']
theorem all_up {L0:List Blk} {T E:TypeId} {gs:List Gr} {clock:Nat} {n:Int} {u:Value} [t:MapT T E] (ho:op.op=.mapUpdate T x y z) (hx:ρ x=.map (some m)) (hy:ρ y=.int .i64 n) (hv:ρ z=u):Fm.SP (allFlow w0 D m b7 s o0) (L0,mapO gs clock) (execOp ρ op) (fun p u'=>p=(L0,mapO (gput gs clock n u).1 (gput gs clock n u).2)∧u'=undef):=fun w hw=>by
 have hr:=run_gput (T:=T) (E:=E) (n:=n) (v:=u) (Mx.ob hw);refine Or.inr (Or.inl ⟨_,(L0,mapO (gput gs clock n u).1 (gput gs clock n u).2),?_,⟨rfl,rfl⟩,Mx.set hw⟩);unfold execOp;simp only[ho,hx,hy,hv,Sem.run_bind,hr,Result.andThen_ok];rfl
end
def AllPost (w:World) (d:Dv) (D:Dat) (e:Ending) (w':World):Prop:=
 ∃(m:Nat) (rs:List Rc) (clock:Nat),e=.returned (.map (some m))∧MapRel rs (fnds d d.now.length)∧Mx [] w w' (rs.flatMap (·.lo)) D m (mapO (rs.map (·.g)) clock)
theorem dRead_size {d:Dv} (h:d.Ok) (i:Int):(dRead d i).1.size≤1000:=by
 unfold dRead;split
 ·exact Nat.zero_le _
 ·split
  ·exact Nat.zero_le _
  ·split
   ·exact Nat.zero_le _
   ·simp only
    rw[List.getD_eq_getElem?_getD]
    cases hg:d.now[i.toNat]? with
    |none=>decide
    |some b=>exact(h.bnow b (List.mem_of_getElem? hg)).2
theorem fnds_len (d:Dv):∀k,(fnds d k).length≤k
 |0=>by simp[fnds]
 |k+1=>by
  have h1:=fnds_len d k;have h2:(fndAt d k).length≤1:=by unfold fndAt;split<;>simp
  rw[fnds_succ,List.length_append];omega
set_option maxHeartbeats 4000000 in
theorem all_scan {D:Dat} {F:List Nat} {w:World} {g:Nat} {d:Dv} (h:DevW D F w g d) (hU:GSums w):Calls Tryz.prog 70 #[.pointer (some ⟨g,0,none⟩)] w (AllPost w d D):=by
 have hst:=Sx.start0 w h.data;have hmax:=h.ok.max;have HL:=Lib.hid (fun wx (hb:Below w.heap.size w wx)=>dlen_calls (h.below hb));have HD:=Lib.hid (fun wx (hb:Below w.heap.size w wx) (i:Int)=>dread_calls (h.below hb) i);have HZ:=Lib.hid (fun i=>dRead_size h.ok i);have HA:Hid (∀fl,fl=fnds d d.now.length→fl=fnds d d.now.length):=Lib.hid (fun _ h=>h);have HF0:=Lib.hid (show fnds d 0=[] from rfl);have HFS:=Lib.hid (fnds_succ d);have HFA:=Lib.hid (fun k=>(show fndAt d k=if(dRead d k).2=0∧(slOf (dRead d k).1).2=0 then[⟨(slOf (dRead d k).1).1,k⟩] else[] from rfl));have HFL:=Lib.hid (fnds_len d);clear h;obtain⟨N,hN⟩:∃N,d.now.length=N:=⟨_,rfl⟩;rw[hN] at HL HA hmax;unfold AllPost;rw[hN];clear hN;go_enter Tryz.func70,Tryz.ntmps70;go_wp2_with (first|((with_reducible refine xmm rfl rfl hst ?_);clear hst;intro m w' hm;have hst:=hm.start)|(with_reducible (refine callB (HL.out _ (hm.move hst).sx.end) hst ?_;clear hst;intro w' hst))|fail);go_loopw [12] (fun iv wr=>∃(k:Nat) (rs:List Rc) (clock:Nat),k≤N∧iv=.int .i64 k∧Hid (MapRel rs (fnds d k))∧Mx [] w wr (rs.flatMap (·.lo)) D m (mapO (rs.map (·.g)) clock)) (fun iv _=>N-(intOf iv).toNat)
 case atStart=>exact⟨0,[],0,Nat.zero_le _,by go_num,Lib.hid (by rw[HF0.out];exact⟨by simp,by simp,by simp,by simp⟩),hm.move hst⟩
 case round=>
  clear hst hm;obtain⟨k,rs,clock,hk,rfl,HM,hm⟩:=hrel;have hst:=hm.start
  by_cases hlt:k<N
  ·have hz:=HZ.out k
   have HR:=Lib.hid (fun wx (h:Below w.heap.size w wx)=>HD.out wx h k);have hfa:=HFA.out k;generalize dRead d k=r at*;obtain⟨da,er⟩:=r;simp only at hz hfa HR;have HO:=Lib.hid (fun wx (h:GSums wx)=>sof_calls da (by omega) wx h);generalize slOf da=q at*;obtain⟨s,e2⟩:=q;simp only at hfa HO;have hfs:=HFS.out k;rw[hfa] at hfs
   by_cases her:er=0
   ·by_cases he2:e2=0
    ·subst her he2
     rw[if_pos ⟨rfl,rfl⟩] at hfs;obtain⟨Lo,rest,l,hown,hleq,hperm,hput⟩:=HM.out.look s.n clock
     have hll:l.length≤1000:=by
      have h1:=HFL.out k;have h2:=List.length_filter_le (fun f:Fnd=>decide (f.s.n=s.n)) (fnds d k);rw[←hleq] at h2;omega
     have HW:=Lib.hid hown;have HP:=Lib.hid hput;have HFs:=Lib.hid hfs;have HPm:=Lib.hid hperm;clear hown hput hfs hperm hleq hfa HM hz;go_wp2_with (first|(with_reducible first|(refine xsa rfl rfl rfl rfl hst ?_;clear hst;intro w' hst)|(refine xnw rfl rfl hst ?_;clear hst;intro bn w' hst))|(with_reducible (refine callB (HR.out _ (hm.move hst).sx.end) hst ?_;clear hst;intro w' hst))|(with_reducible (refine callB (HO.out _ (hU.below (hm.move hst).sx.end)) hst ?_;clear hst;intro w' hst)));have hm2:=(hm.move hst).perm ((HPm.out).cons _);generalize rs.map (·.g)=gs at*;refine Fm.wp_region_flow (allFlow w D m bn s (mapO gs clock)) (L:=(((bn,slC s,41)::(Lo++rest),mapO gs clock):List Blk×Obj)) (List.range 13) rfl hm2 (by kernel_rfl) (by kernel_rfl) (by kernel_rfl) (by kernel_rfl) (by kernel_rfl) ?_;show Fm.wpLX _ (allFlow w D m bn s (mapO gs clock)) _ [0,1,2,3,4,5,6,7,8,9,10,11,12] _ (Fx.mkO [] _);have hB:∀L',∀wx,(allFlow w D m bn s (mapO gs clock)).I ((bn,slC s,41)::L',mapO gs clock) wx→(allFlow w D m bn s (mapO gs clock)).B wx:=fun L' wx h=>⟨L',Mx.sx h,Mx.ob h⟩
     refine Fm.val rfl rfl rfl rfl (v:=.map (some m)) (Fx.e_mv rfl rfl) ?_;refine Fm.val rfl rfl rfl rfl (Fx.e_fa rfl rfl) ?_;refine Fm.rd rfl rfl rfl rfl (v:=.int .i64 s.n) (hB _) (fun w h=>by obtain⟨L',hs,ho⟩:=h;exact Fx.r_1 rfl rfl w hs) ?_;refine Fm.val rfl rfl rfl rfl (v:=.map (some m)) (Fx.e_mv rfl rfl) ?_;refine Fm.val rfl rfl rfl rfl (Fx.e_fa rfl rfl) ?_;refine Fm.rd rfl rfl rfl rfl (v:=.int .i64 s.n) (hB _) (fun w h=>by obtain⟨L',hs,ho⟩:=h;exact Fx.r_1 rfl rfl w hs) ?_;refine Fm.rd rfl rfl rfl rfl (v:=glook gs s.n (.slice none 0 0)) (hB _) (fun w h=>by obtain⟨L',hs,ho⟩:=h;exact all_look zeroFds rfl rfl rfl ho) ?_;refine Fm.rd rfl rfl rfl rfl (v:=.agg (slC s)) (hB _) (fun w h=>by obtain⟨L',hs,ho⟩:=h;exact Fx.r_a rfl rfl w hs) ?_;refine Fm.val rfl rfl rfl rfl (v:=.int .i64 k) (Fx.e_mv rfl rfl) ?_;refine Fm.val rfl rfl rfl rfl (v:=.agg (fdC ⟨s,k⟩)) (fun w=>by kernel_rfl) ?_;refine Fm.spec rfl rfl _ (all_mk (f:=⟨s,k⟩) rfl rfl) ?_;rintro L5 u5 ⟨b5,rfl,rfl⟩;refine⟨Or.inr (fun wx h=>hB _ wx (Mx.perm h (List.Perm.swap ..))),?_⟩;refine Fm.spec rfl rfl _ (all_ap rfl rfl rfl HW.out hll) ?_;rintro L6 u6 ⟨Lo6,q6,c6,rfl,rfl,hown6⟩;refine⟨Or.inr (fun wx h=>hB _ wx (Mx.perm h (show(Lo6++((b5,fdC ⟨s,k⟩,153)::(bn,slC s,41)::rest)).Perm ((bn,slC s,41)::(Lo6++((b5,fdC ⟨s,k⟩,153)::rest))) from perm_count fun x=>by simp only[List.count_append,List.count_cons];omega))),?_⟩;refine Fm.spec rfl rfl _ (all_up rfl rfl rfl rfl) ?_;rintro L7 u7 ⟨rfl,rfl⟩;refine⟨Or.inl rfl,?_⟩;intro w7 hm7;obtain⟨rs',e1,e2,e3⟩:=HP.out _ _ ⟨s,k⟩ rfl hown6
     have hm8:Mx [] w w7 (rs'.flatMap (·.lo)) D m (mapO (rs'.map (·.g)) (gput gs clock s.n (.slice q6 (l.length+1) c6)).2):=by
      rw[←e1];have h9:=Mx.perm hm7 (show(Lo6++((b5,fdC ⟨s,k⟩,153)::(bn,slC s,41)::rest)).Perm ((b5,fdC ⟨s,k⟩,153)::(bn,slC s,41)::(Lo6++rest)) from perm_count fun x=>by simp only[List.count_append,List.count_cons];omega);exact h9.drop.drop.perm e3.symm
     clear hB HP HPm HW hm hm2 hm7 hst;generalize hact:Fx.mkO _ _=act;have hv0:act.tmps.getD 0 undef=.pointer (some ⟨g,0,none⟩):=by rw[←hact];kernel_rfl
     have hv1:act.tmps.getD 1 undef=undef:=by rw[←hact];kernel_rfl
     have hv2:act.tmps.getD 2 undef=.map none:=by rw[←hact];kernel_rfl
     have hv3:act.tmps.getD 3 undef=.map (some m):=by rw[←hact];kernel_rfl
     have hv9:act.tmps.getD 9 undef=.map (some m):=by rw[←hact];kernel_rfl
     have hv10:act.tmps.getD 10 undef=.pointer (some ⟨g,0,none⟩):=by rw[←hact];kernel_rfl
     have hv11:act.tmps.getD 11 undef=.int .i64 N:=by rw[←hact];kernel_rfl
     have hv12:act.tmps.getD 12 undef=.int .i64 k:=by rw[←hact];kernel_rfl
     have hv43:act.tmps.getD 43 undef=undef:=by rw[←hact];kernel_rfl
     obtain⟨fZ,hfZ,hact2⟩:=act_lit act 44 (by rw[←hact];kernel_rfl) (by rw[←hact];kernel_rfl);clear hact;have he0:fZ 0=.pointer (some ⟨g,0,none⟩):=(hfZ 0).symm.trans hv0;have he1:fZ 1=undef:=(hfZ 1).symm.trans hv1;have he2:fZ 2=.map none:=(hfZ 2).symm.trans hv2;have he3:fZ 3=.map (some m):=(hfZ 3).symm.trans hv3;have he9:fZ 9=.map (some m):=(hfZ 9).symm.trans hv9;have he10:fZ 10=.pointer (some ⟨g,0,none⟩):=(hfZ 10).symm.trans hv10;have he11:fZ 11=.int .i64 N:=(hfZ 11).symm.trans hv11;have he12:fZ 12=.int .i64 k:=(hfZ 12).symm.trans hv12;have he43:fZ 43=undef:=(hfZ 43).symm.trans hv43;simp only[show List.range 44=[0,1,2,3,4,5,6,7,8,9,10,11,12,13,14,15,16,17,18,19,20,21,22,23,24,25,26,27,28,29,30,31,32,33,34,35,36,37,38,39,40,41,42,43] from rfl,List.map_cons,List.map_nil,he0,he1,he2,he3,he9,he10,he11,he12,he43] at hact2;clear hfZ hv0 he0 hv1 he1 hv2 he2 hv3 he3 hv9 he9 hv10 he10 hv11 he11 hv12 he12 hv43 he43;subst hact2;go_wp2_with fail;go_roundw
     case rel=>exact⟨k+1,rs',_,by omega,by go_num,Lib.hid (by rw[HFs.out];exact e2),hm8⟩
     case measure=>simp[intOf];omega
    ·have HFs:Hid (fnds d (k+1)=fnds d k):=Lib.hid (by rw[hfs,if_neg (by simp[he2]),List.append_nil])
     clear hfs hfa hz;go_wp2_with (first|(with_reducible first|(refine xsa rfl rfl rfl rfl hst ?_;clear hst;intro w' hst)|(refine xnw rfl rfl hst ?_;clear hst;intro bn w' hst))|(with_reducible (refine callB (HR.out _ (hm.move hst).sx.end) hst ?_;clear hst;intro w' hst))|(with_reducible (refine callB (HO.out _ (hU.below (hm.move hst).sx.end)) hst ?_;clear hst;intro w' hst)));go_roundw
     case rel=>exact⟨k+1,rs,clock,by omega,by go_num,Lib.hid (by rw[HFs.out];exact HM.out),(hm.move hst).drop⟩
     case measure=>simp[intOf];omega
   ·have HFs:Hid (fnds d (k+1)=fnds d k):=Lib.hid (by rw[hfs,if_neg (by simp[her]),List.append_nil])
    clear hfs hfa hz;go_wp2_with (first|fail |(with_reducible (refine callB (HR.out _ (hm.move hst).sx.end) hst ?_;clear hst;intro w' hst)));go_roundw
    case rel=>exact⟨k+1,rs,clock,by omega,by go_num,Lib.hid (by rw[HFs.out];exact HM.out),hm.move hst⟩
    case measure=>simp[intOf];omega
  ·obtain rfl:k=N:=by omega
   go_wp2_with fail;go_ret;exact⟨m,rs,clock,rfl,HM.out,hm.move hst⟩
end Go.Proofs.YtdkeiefgkgpcbaaGreatDoor
