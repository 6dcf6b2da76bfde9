/- Steps of the proof: FlowX. -/
import Derived.Orders
import Derived.Still
import Derived.Deep.Quiet
import Derived.Test.YtdkeiefgkgpcbaaGreatDoorP10
set_option linter.unusedVariables false
set_option linter.unusedSimpArgs false
set_option maxRecDepth 100000
namespace Go.Proofs.YtdkeiefgkgpcbaaGreatDoor.Fx
open Go.RowKit
structure Flow where
 S:List Nat
 w0:World
 D:Dat
 O:List Nat
 B:World→Prop
 special:Nat→Bool
 pure:Nat→Bool
 late:Nat→Bool
def Flow.cls (F:Flow) (i:Nat) (w:World):Prop:=F.pure i=true∨F.B w
def XQ (C:World→Prop) (o:Oper) (a:Act) (v:Value):Prop:=∀w,C w→o.quietAt Tryz.prog a (fun x=>Below w.heap.size w x) w v
def YX (ops:Array Oper) (C:World→Prop) (o:Oper) (a:Act) (v:Value):Prop:=(Region.wanted o (yielded ops a.tmps)=true∧XQ C o a v)∨(Region.wanted o (yielded ops a.tmps)=false∧v=undef)
def SP (F:Flow) (L:List Blk) (s:Sem Next) (R:List Blk→Value→Prop):Prop:=
 ∀w,Sx F.S F.w0 w L F.D F.O→(∃u w' L',s.run Tryz.prog w=.ok (.value u) w'∧R L' u∧Sx F.S F.w0 w' L' F.D F.O)∨(∃w' L',s.run Tryz.prog w=.ok .skip w'∧R L' undef∧Sx F.S F.w0 w' L' F.D F.O)∨(∃f args,s.run Tryz.prog w=.ok (.enter f args) w∧Calls Tryz.prog f args w fun e w'=>∃u L',e=.returned u∧R L' u∧Sx F.S F.w0 w' L' F.D F.O)
def xdo (ops:Array Oper) (F:Flow) (i:Nat) (o:Oper) (K:List Blk→Act→Prop) (L:List Blk) (a:Act):Prop:=
 if F.special i=true then ∃R,SP F L (execOp a.eval o) R∧∀L' u,R L' u→(F.late i=true∨∀w,Sx F.S F.w0 w L' F.D F.O→F.B w)∧K L' (a.put o.dst u)
 else ∃v,YX ops (F.cls i) o a v∧(∀w,Sx F.S F.w0 w L F.D F.O→F.cls i w)∧K L (a.put o.dst v)
section
variable {ops:Array Oper} {F:Flow} {Qf:List Blk→Act→Prop}
def xstep (ops:Array Oper) (F:Flow) (i:Nat) (K:List Blk→Act→Prop) (L:List Blk) (a:Act):Prop:=
 match ops[i]? with
 |none=>False
 |some o=>xdo ops F i o K L a
theorem xdo_mono {i:Nat} {o:Oper} {K K':List Blk→Act→Prop} {L:List Blk} {a:Act} (h:∀L a,K L a→K' L a) (hh:xdo ops F i o K L a):xdo ops F i o K' L a:=by
 unfold xdo at*;split
 ·rename_i h1;rw[if_pos h1] at hh;exact⟨hh.choose,hh.choose_spec.1,fun L' u hr=>⟨(hh.choose_spec.2 L' u hr).1,h _ _ (hh.choose_spec.2 L' u hr).2⟩⟩
 ·rename_i h1;rw[if_neg h1] at hh;exact⟨hh.choose,hh.choose_spec.1,hh.choose_spec.2.1,h _ _ hh.choose_spec.2.2⟩
def wpX (ops:Array Oper) (F:Flow) (Qf:List Blk→Act→Prop):Nat→Array Bool→List Blk→Act→Prop
 |0,listed,L,a=>Region.ready .any ops listed=[]∧Qf L a
 |f+1,listed,L,a=>(Region.ready .any ops listed=[]→Qf L a)∧
  ∀i∈Region.ready .any ops listed,xstep ops F i (wpX ops F Qf f (listed.setIfInBounds i true)) L a
theorem XQ.wp {C:World→Prop} {o:Oper} {a:Act} {v:Value} {w:World} {K:Act→World→Prop} {Q':Exit→Act→World→Prop} (h:XQ C o a v) (hw:C w) (hK:∀w',Below w.heap.size w w'→K (a.put o.dst v) w'):o.wp Tryz.prog a w K Q':=by
 have h3:=h w hw;unfold Oper.quietAt at h3;unfold Oper.wp;generalize (execOp a.eval o).run Tryz.prog w=r at*
 cases r with
 |ok n w'=>
  cases n<;>simp only[Oper.quietUpon] at h3<;>simp only[Oper.upon]
  case value u=>
   obtain⟨e1,e2⟩:=h3;rw[e1,e2];exact hK _ (Below.refl _ _)
  case skip=>
   obtain⟨e1,e2⟩:=h3;rw[e1,←e2];exact hK _ (Below.refl _ _)
  case enter f args=>
   obtain⟨e1,hc⟩:=h3;rw[e1];exact hc.mono fun e w'' ⟨he,hw''⟩=>by subst he;exact hK _ hw''
 |halt x w'=>simp only[Oper.quietUpon] at h3
theorem XQ.put {C:World→Prop} {o:Oper} {a:Act} {v u:Value} {d:Option Tmp} (hs:∀cs b,o.op≠.select cs b) (hd:∀t,d=some t→t∉o.looksAt ops) (h:XQ C o a v):XQ C o (a.put d u) v:=fun w hw=>by
 have:=h w hw;unfold Oper.quietAt at*;rw[execOp_put o hs a d u hd];exact this
theorem XQ.unput {C:World→Prop} {o:Oper} {a:Act} {v u:Value} {d:Option Tmp} (hs:∀cs b,o.op≠.select cs b) (hd:∀t,d=some t→t∉o.looksAt ops) (h:XQ C o (a.put d u) v):XQ C o a v:=fun w hw=>by
 have:=h w hw;unfold Oper.quietAt at*;rw[execOp_put o hs a d u hd] at this;exact this
theorem YX.put {C:World→Prop} {o:Oper} {a:Act} {v u:Value} {d:Option Tmp} (hs:∀cs b,o.op≠.select cs b) (hd:∀t,d=some t→t∉o.looksAt ops) (h:YX ops C o a v):YX ops C o (a.put d u) v:=by
 unfold YX at*;rw[wanted_put o a d u hd];exact h.imp (fun k=>⟨k.1,k.2.put (ops:=ops) hs hd⟩) id
theorem YX.unput {C:World→Prop} {o:Oper} {a:Act} {v u:Value} {d:Option Tmp} (hs:∀cs b,o.op≠.select cs b) (hd:∀t,d=some t→t∉o.looksAt ops) (h:YX ops C o (a.put d u) v):YX ops C o a v:=by
 unfold YX at*;rw[wanted_put o a d u hd] at h;exact h.imp (fun k=>⟨k.1,k.2.unput (ops:=ops) hs hd⟩) id
theorem wpAny_of_X (hg:∀(i:Nat) (o:Oper),ops[i]? =some o→F.special i=true→o.guard=none) {Q':Exit→Act→World→Prop} (hQ:∀L a w,Sx F.S F.w0 w L F.D F.O→Qf L a→Q' .normal a w):
  ∀(fuel:Nat) (listed:Array Bool) (L:List Blk) (a:Act) (w:World),Sx F.S F.w0 w L F.D F.O→wpX ops F Qf fuel listed L a→wpAny Tryz.prog .any ops Q' fuel listed a w
 |0,_,_,_,_,hw,h=>⟨h.1,hQ _ _ _ hw h.2⟩
 |fuel+1,listed,L,a,w,hw,h=>⟨fun h0=>hQ _ _ _ hw (h.1 h0),fun i hir=>by
   have hx:=h.2 i hir;unfold xstep at hx;unfold wpOp
   cases ho:ops[i]? with
   |none=>rw[ho] at hx;exact hx.elim
   |some o=>
    rw[ho] at hx;simp only at hx ⊢;unfold xdo at hx;split at hx
    ·rename_i hsi
     obtain⟨R,hsp,hk⟩:=hx;have hwant:Region.wanted o (yielded ops a.tmps)=true:=by unfold Region.wanted;rw[hg i o ho hsi]
     rw[if_pos hwant];left;unfold Oper.wp;rcases hsp w hw with⟨u,w',L',hr,hR,hst⟩ |⟨w',L',hr,hR,hst⟩ |⟨f,args,hr,hcall⟩
     ·rw[hr]
      exact wpAny_of_X hg hQ fuel _ _ _ _ hst (hk _ _ hR).2
     ·rw[hr]
      exact wpAny_of_X hg hQ fuel _ _ _ _ hst (hk _ _ hR).2
     ·rw[hr]
      exact hcall.mono fun e w' ⟨u,L',he,hR,hst⟩=>by subst he;exact wpAny_of_X hg hQ fuel _ _ _ _ hst (hk _ _ hR).2
    ·obtain⟨v,hq,hc,hk⟩:=hx
     rcases hq with⟨hwant,hq⟩ |⟨hwant,rfl⟩
     ·rw[if_pos hwant]
      exact Or.inl (hq.wp (hc w hw) (fun w' hb=>wpAny_of_X hg hQ fuel _ _ _ _ (hw.below hb) hk))
     ·rw[if_neg (by rw[hwant];simp)]
      exact wpAny_of_X hg hQ fuel _ _ _ _ hw hk⟩
theorem wpX_first {i:Nat} {oi:Oper} {v:Value} (hi:ops[i]? =some oi) (his:F.special i=false) (hsel:∀(j:Nat) (o:Oper) cs b,ops[j]? =some o→o.op≠.select cs b)
  (hlate:∀(j:Nat) (oj:Oper),ops[j]? =some oj→F.late j=true→F.pure i=false→∃e∈oj.after,Region.binds .any e=true∧e.on=i):
  ∀(fuel:Nat) (listed:Array Bool) (L:List Blk) (a:Act),
   (∀j oj,ops[j]? =some oj→j≠i→listed.getD j true=false→(∀e∈oj.after,Region.binds .any e=true→e.on≠i)→oi.apart ops oj=true)→
   i∈Region.ready .any ops listed→YX ops (F.cls i) oi a v→(∀w,Sx F.S F.w0 w L F.D F.O→F.cls i w)→
   wpX ops F Qf fuel (listed.setIfInBounds i true) L (a.put oi.dst v)→wpX ops F Qf (fuel+1) listed L a:=by
 have taken:∀(K:List Blk→Act→Prop) (L:List Blk) (a:Act),YX ops (F.cls i) oi a v→(∀w,Sx F.S F.w0 w L F.D F.O→F.cls i w)→K L (a.put oi.dst v)→xstep ops F i K L a:=fun K L a hy hc H=>by
  unfold xstep;rw[hi];show xdo _ _ _ _ _ _ _;unfold xdo;rw[his,if_neg (by simp)];exact⟨v,hy,hc,H⟩
 intro fuel
 induction fuel with
 |zero=>
  intro listed L a _ hr hy hc H;refine⟨fun h=>(by rw[h] at hr;cases hr),fun j hj=>?_⟩
  by_cases hji:j=i
  ·subst hji;exact taken _ _ _ hy hc H
  ·have:=ready_mono hj hji
   rw[H.1] at this
   cases this
 |succ fuel ih=>
  intro listed L a hfree hr hy hc H;refine⟨fun h=>(by rw[h] at hr;cases hr),fun j hj=>?_⟩
  by_cases hji:j=i
  ·subst hji;exact taken _ _ _ hy hc H
  ·have h1:=H.2 j (ready_mono hj hji)
   obtain⟨hjun,oj,hoj,hall⟩:=mem_ready.1 hj
   have hnot:∀e∈oj.after,Region.binds .any e=true→e.on≠i:=fun e he hb heq=>by
    have h1:=hall e he hb;have h0:=(mem_ready.1 hr).1;rw[heq] at h1;rcases Nat.lt_or_ge i listed.size with h' |h'
    ·simp[h'] at h0 h1;rw[h0] at h1;cases h1
    ·simp[Array.getElem?_eq_none h'] at h1
   obtain⟨p1,p2,p3⟩:=Oper.apart_spec (hfree j oj hoj hji hjun hnot);have hfree':∀k ok,ops[k]? =some ok→k≠i→(listed.setIfInBounds j true).getD k true=false→
     (∀e∈ok.after,Region.binds .any e=true→e.on≠i)→oi.apart ops ok=true:=fun k ok hk hki hun hno=>by
    refine hfree k ok hk hki ?_ hno
    by_cases hjk:j=k
    ·subst hjk;exact hjun
    ·rw[getD_set_ne true hjk] at hun;exact hun
   have next:∀(L':List Blk) (u:Value),(∀w,Sx F.S F.w0 w L' F.D F.O→F.cls i w)→wpX ops F Qf fuel ((listed.setIfInBounds i true).setIfInBounds j true) L' ((a.put oi.dst v).put oj.dst u)→
     wpX ops F Qf (fuel+1) (listed.setIfInBounds j true) L' (a.put oj.dst u):=fun L' u hc' hh=>by
    refine ih (listed.setIfInBounds j true) L' _ hfree' (ready_mono hr (Ne.symm hji)) (hy.put (fun cs b=>hsel i oi cs b hi) p3) hc' ?_;rw[Array.setIfInBounds_comm _ _ hji,←Act.put_comm a v u p2];exact hh
   unfold xstep at h1 ⊢;rw[hoj] at h1 ⊢;simp only at h1 ⊢;unfold xdo at h1 ⊢
   by_cases hjs:F.special j=true
   ·rw[if_pos hjs] at h1 ⊢
    obtain⟨R,hsp,hk⟩:=h1;rw[execOp_put oj (fun cs b=>hsel j oj cs b hoj) a oi.dst v p1] at hsp;refine⟨R,hsp,fun L' u hR=>⟨(hk L' u hR).1,next _ _ ?_ (hk L' u hR).2⟩⟩;intro w hw
    cases hp:F.pure i with
    |true=>exact Or.inl hp
    |false=>
     rcases(hk L' u hR).1 with h2 |h2
     ·obtain⟨e,he,hb,hon⟩:=hlate j oj hoj h2 hp
      exact absurd hon (hnot e he hb)
     ·exact Or.inr (h2 w hw)
   ·rw[if_neg hjs] at h1 ⊢
    obtain⟨u,hu,hcj,hk⟩:=h1;exact⟨u,hu.unput (fun cs b=>hsel j oj cs b hoj) p1,hcj,next _ _ hc hk⟩
def wpLX (ops:Array Oper) (F:Flow) (Qf:List Blk→Act→Prop):List Nat→List Blk→Act→Prop
 | [],L,a=>Qf L a
 |i::is,L,a=>xstep ops F i (wpLX ops F Qf is) L a
def lexX (ops:Array Oper) (special:Nat→Bool):List Nat→Array Bool→Bool
 | [],listed=>(Region.ready .any ops listed).isEmpty
 |k::is,listed=>(if special k then Region.ready .any ops listed==[k] else(Region.ready .any ops listed).contains k&&Region.free .any ops listed k)&&lexX ops special is (listed.setIfInBounds k true)
def lateX (ops:Array Oper) (special pure late:Nat→Bool):Bool:=
 (List.range ops.size).all fun j=> !late j||(List.range ops.size).all fun i=>special i||pure i||(match ops[j]? with |some oj=>oj.after.any fun e=>Region.binds .any e&&e.on==i |none=>true)
theorem wpX_lex (hs:Region.noSelect ops=true) (hl8:lateX ops F.special F.pure F.late=true):∀(l:List Nat) (listed:Array Bool) (L:List Blk) (a:Act),
  lexX ops F.special l listed=true→wpLX ops F Qf l L a→wpX ops F Qf l.length listed L a
 | [],_,_,_,hB,h=>⟨by simpa[lexX] using hB,h⟩
 |k::l,listed,L,a,hB,h=>by
  simp only[lexX,Bool.and_eq_true] at hB;obtain⟨hr,hB'⟩:=hB;have ih:=fun L a=>wpX_lex hs hl8 l (listed.setIfInBounds k true) L a hB'
  have h:xstep ops F k (wpLX ops F Qf l) L a:=h
  cases h0:ops[k]? with
  |none=>unfold xstep at h;rw[h0] at h;exact h.elim
  |some o=>
  have h':xdo ops F k o (wpLX ops F Qf l) L a:=by unfold xstep at h;rw[h0] at h;exact h
  cases hk:F.special k with
  |true=>
   rw[hk] at hr;have hr':Region.ready .any ops listed=[k]:=by simpa using hr
   refine⟨fun e=>(by rw[hr'] at e;cases e),fun i hi=>?_⟩;rw[hr'] at hi;obtain rfl:i=k:=by simpa using hi
   unfold xstep;rw[h0];exact xdo_mono ih h'
  |false=>
   rw[hk] at hr;simp only[Bool.false_eq_true,if_false,Bool.and_eq_true] at hr;unfold xdo at h';rw[hk,if_neg (by simp)] at h';obtain⟨v,hq,hc,hk'⟩:=h';refine wpX_first h0 hk (Region.noSelect_spec hs) (fun j oj hj hlj hpi=>?_) l.length listed L a (Region.free_spec h0 hr.2) (by simpa using hr.1) hq hc (ih _ _ hk');have h1:=List.all_eq_true.1 hl8 j (List.mem_range.2 (Array.getElem?_eq_some_iff.1 hj).1);rw[hlj] at h1;simp only[Bool.not_true,Bool.false_or] at h1;have h2:=List.all_eq_true.1 h1 k (List.mem_range.2 (Array.getElem?_eq_some_iff.1 h0).1);rw[hk,hpi,hj] at h2;simp only[Bool.false_or] at h2;obtain⟨e,he,hb⟩:=Array.any_eq_true'.1 h2;simp only[Bool.and_eq_true,beq_iff_eq] at hb;exact⟨e,he,hb.1,hb.2⟩
def lexP (ops:Array Oper) (special:Nat→Bool):List Nat→Array Bool→Bool
 | [],_=>true
 |k::is,listed=>(if special k then Region.ready .any ops listed==[k] else(Region.ready .any ops listed).contains k&&Region.free .any ops listed k)&&lexP ops special is (listed.setIfInBounds k true)
def lst:List Nat→Array Bool→Array Bool
 | [],l=>l
 |k::is,l=>lst is (l.setIfInBounds k true)
theorem wpX_pre (hs:Region.noSelect ops=true) (hl8:lateX ops F.special F.pure F.late=true) (f:Nat) {K:List Blk→Act→Prop}:∀(l:List Nat) (listed:Array Bool) (L:List Blk) (a:Act),
  lexP ops F.special l listed=true→wpLX ops F K l L a→(∀L a,K L a→wpX ops F Qf f (lst l listed) L a)→wpX ops F Qf (l.length+f) listed L a
 | [],_,_,_,_,h,hK=>by rw[List.length_nil,Nat.zero_add];exact hK _ _ h
 |k::l,listed,L,a,hB,h,hK=>by
  simp only[lexP,Bool.and_eq_true] at hB;obtain⟨hr,hB'⟩:=hB;have ih:=fun L a h=>wpX_pre hs hl8 f l (listed.setIfInBounds k true) L a hB' h hK
  rw[show(k::l).length+f=(l.length+f)+1 by simp;omega];have h:xstep ops F k (wpLX ops F K l) L a:=h
  cases h0:ops[k]? with
  |none=>unfold xstep at h;rw[h0] at h;exact h.elim
  |some o=>
  have h':xdo ops F k o (wpLX ops F K l) L a:=by unfold xstep at h;rw[h0] at h;exact h
  cases hk:F.special k with
  |true=>
   rw[hk] at hr;have hr':Region.ready .any ops listed=[k]:=by simpa using hr
   refine⟨fun e=>(by rw[hr'] at e;cases e),fun i hi=>?_⟩;rw[hr'] at hi;obtain rfl:i=k:=by simpa using hi
   unfold xstep;rw[h0];exact xdo_mono ih h'
  |false=>
   rw[hk] at hr;simp only[Bool.false_eq_true,if_false,Bool.and_eq_true] at hr;unfold xdo at h';rw[hk,if_neg (by simp)] at h';obtain⟨v,hq,hc,hk'⟩:=h';refine wpX_first h0 hk (Region.noSelect_spec hs) (fun j oj hj hlj hpi=>?_) (l.length+f) listed L a (Region.free_spec h0 hr.2) (by simpa using hr.1) hq hc (ih _ _ hk');have h1:=List.all_eq_true.1 hl8 j (List.mem_range.2 (Array.getElem?_eq_some_iff.1 hj).1);rw[hlj] at h1;simp only[Bool.not_true,Bool.false_or] at h1;have h2:=List.all_eq_true.1 h1 k (List.mem_range.2 (Array.getElem?_eq_some_iff.1 h0).1);rw[hk,hpi,hj] at h2;simp only[Bool.false_or] at h2;obtain⟨e,he,hb⟩:=Array.any_eq_true'.1 h2;simp only[Bool.and_eq_true,beq_iff_eq] at hb;exact⟨e,he,hb.1,hb.2⟩
inductive OT
 |run (l:List Nat)
 |two (l:List Nat) (k1:Nat) (t1:OT) (k2:Nat) (t2:OT)
def OT.fuel:OT→Nat
 | .run l=>l.length
 | .two l _ t1 _ _=>l.length+(t1.fuel+1)
def OT.ok (ops:Array Oper) (special:Nat→Bool):OT→Array Bool→Bool
 | .run l,listed=>lexX ops special l listed
 | .two l k1 t1 k2 t2,listed=>lexP ops special l listed&&(Region.ready .any ops (lst l listed)==[k1,k2])&&(special k1&&(special k2&&(t1.fuel==t2.fuel&&(t1.ok ops special ((lst l listed).setIfInBounds k1 true)&&t2.ok ops special ((lst l listed).setIfInBounds k2 true)))))
def wpOT (ops:Array Oper) (F:Flow) (Qf:List Blk→Act→Prop):OT→List Blk→Act→Prop
 | .run l,L,a=>wpLX ops F Qf l L a
 | .two l k1 t1 k2 t2,L,a=>wpLX ops F (fun L a=>xstep ops F k1 (wpOT ops F Qf t1) L a∧xstep ops F k2 (wpOT ops F Qf t2) L a) l L a
theorem xstep_mono {i:Nat} {K K':List Blk→Act→Prop} {L:List Blk} {a:Act} (h:∀L a,K L a→K' L a) (hh:xstep ops F i K L a):xstep ops F i K' L a:=by
 unfold xstep at*
 cases h0:ops[i]? with
 |none=>rw[h0] at hh;exact hh
 |some o=>rw[h0] at hh;exact xdo_mono h hh
theorem wpX_OT (hs:Region.noSelect ops=true) (hl8:lateX ops F.special F.pure F.late=true):∀(t:OT) (listed:Array Bool) (L:List Blk) (a:Act),
  t.ok ops F.special listed=true→wpOT ops F Qf t L a→wpX ops F Qf t.fuel listed L a
 | .run l,listed,L,a,hB,h=>wpX_lex hs hl8 l listed L a hB h
 | .two l k1 t1 k2 t2,listed,L,a,hB,h=>by
  simp only[OT.ok,Bool.and_eq_true,beq_iff_eq] at hB;obtain⟨⟨hp,hr⟩,_,_,hf,h1,h2⟩:=hB;refine wpX_pre hs hl8 (t1.fuel+1) l listed L a hp h (fun L a hh=>?_);refine⟨fun e=>(by rw[hr] at e;cases e),fun i hi=>?_⟩;rw[hr] at hi;rcases List.mem_cons.1 hi with rfl |hi
  ·exact xstep_mono (fun L a hx=>wpX_OT hs hl8 t1 _ L a h1 hx) hh.1
  ·obtain rfl:i=k2:=by simpa using hi
   rw[hf];exact xstep_mono (fun L a hx=>wpX_OT hs hl8 t2 _ L a h2 hx) hh.2
theorem wp_region_OT {id:Nat} {Q':Exit→Act→World→Prop} {a:Act} {w:World} {l:List Oper} {L:List Blk} (F:Flow) (order:OT) (hlen:order.fuel=l.length) (hst:Sx F.S F.w0 w L F.D F.O) (hm:Tryz.prog.follows .mixedOrders=true)
  (hg:(List.range l.length).all (fun i=> !F.special i||(match l[i]? with |some o=>o.guard.isNone |none=>true))=true) (hs:Region.noSelect l.toArray=true) (hlex:order.ok l.toArray F.special (Array.replicate l.length false)=true) (hl8:lateX l.toArray F.special F.pure F.late=true)
  (h:wpOT l.toArray F (fun L' a'=>∀w',Sx F.S F.w0 w' L' F.D F.O→Q' .normal a' w') order L a):(Code.region id l.toArray true).wp Tryz.prog Q' a w:=by
 refine wp_region_any hm (wpAny_of_X (F:=F) (Qf:=fun L' a'=>∀w',Sx F.S F.w0 w' L' F.D F.O→Q' .normal a' w') (fun i o ho hsi=>?_) (fun L' a' w' hd hq=>hq w' hd) _ _ L _ _ (hst.below (Below.refl _ _).drew) ?_)
 ·have ho':l[i]? =some o:=by simpa using ho
  have h1:=List.all_eq_true.1 hg i (List.mem_range.2 (List.getElem?_eq_some_iff.1 ho').1);simp only[hsi,ho'] at h1;simpa using h1
 ·have:=wpX_OT (F:=F) (Qf:=fun L' a'=>∀w',Sx F.S F.w0 w' L' F.D F.O→Q' .normal a' w') hs hl8 order (Array.replicate l.length false) L a hlex h
  rw[hlen] at this;simpa using this
theorem wp_region_flow {id:Nat} {Q':Exit→Act→World→Prop} {a:Act} {w:World} {l:List Oper} {L:List Blk} (F:Flow) (order:List Nat) (hlen:order.length=l.length) (hst:Sx F.S F.w0 w L F.D F.O) (hm:Tryz.prog.follows .mixedOrders=true)
  (hg:(List.range l.length).all (fun i=> !F.special i||(match l[i]? with |some o=>o.guard.isNone |none=>true))=true) (hs:Region.noSelect l.toArray=true) (hlex:lexX l.toArray F.special order (Array.replicate l.length false)=true) (hl8:lateX l.toArray F.special F.pure F.late=true)
  (h:wpLX l.toArray F (fun L' a'=>∀w',Sx F.S F.w0 w' L' F.D F.O→Q' .normal a' w') order L a):(Code.region id l.toArray true).wp Tryz.prog Q' a w:=by
 refine wp_region_any hm (wpAny_of_X (F:=F) (Qf:=fun L' a'=>∀w',Sx F.S F.w0 w' L' F.D F.O→Q' .normal a' w') (fun i o ho hsi=>?_) (fun L' a' w' hd hq=>hq w' hd) _ _ L _ _ (hst.below (Below.refl _ _).drew) ?_)
 ·have ho':l[i]? =some o:=by simpa using ho
  have h1:=List.all_eq_true.1 hg i (List.mem_range.2 (List.getElem?_eq_some_iff.1 ho').1);simp only[hsi,ho'] at h1;simpa using h1
 ·have:=wpX_lex (F:=F) (Qf:=fun L' a'=>∀w',Sx F.S F.w0 w' L' F.D F.O→Q' .normal a' w') hs hl8 order (Array.replicate l.length false) L a hlex h
  rw[hlen] at this;simpa using this
def nthO:List Oper→Nat→Option Oper
 | [],_=>none
 |o::_,0=>some o
 |_::l,n+1=>nthO l n
theorem nthO_eq:∀(l:List Oper) (k:Nat),nthO l k=l[k]?
 | [],_=>by simp[nthO]
 |o::l,0=>by simp[nthO]
 |o::l,k+1=>by simp[nthO,nthO_eq l k]
theorem nth_some {ops:Array Oper} {k:Nat} {o:Oper} (h:nthO ops.toList k=some o):ops[k]? =some o:=by rw[nthO_eq] at h;simpa using h
def mkO (r:List (Nat×Value)) (a:Act):Act:=r.foldr (fun p a=>a.put (some p.1) p.2) a
def nxt (d:Option Tmp) (v:Value) (r:List (Nat×Value)):List (Nat×Value):=match d with
 |some t=>(t,v)::r
 |none=>r
theorem mkO_nil (a:Act):mkO [] a=a:=rfl
theorem mkO_cons (k:Nat) (v:Value) (r:List (Nat×Value)) (a:Act):mkO ((k,v)::r) a=(mkO r a).put (some k) v:=rfl
theorem nxt_some (t:Tmp) (v:Value) (r:List (Nat×Value)):nxt (some t) v r=(t,v)::r:=rfl
theorem nxt_none (v:Value) (r:List (Nat×Value)):nxt none v r=r:=rfl
theorem mkO_nxt (d:Option Tmp) (v:Value) (r:List (Nat×Value)) (a:Act):mkO (nxt d v r) a=(mkO r a).put d v:=by cases d<;>rfl
def getV:List Value→Nat→Value
 | [],_=>undef
 |v::_,0=>v
 |_::vs,n+1=>getV vs n
theorem getV_eq:∀(l:List Value) (t:Nat),getV l t=l.toArray.getD t undef
 | [],t=>by simp[getV]
 |v::vs,0=>by simp[getV]
 |v::vs,t+1=>by
  rw[getV,getV_eq vs t];simp
def getA (base:List Value):List (Nat×Value)→Nat→Value
 | [],t=>getV base t
 |p::r,t=>cond (Nat.beq p.1 t) p.2 (getA base r t)
def evO (r:List (Nat×Value)) (a:Act):Operand→Value
 | .tmp t=>cond (Nat.blt t a.tmps.toList.length) (getA a.tmps.toList r t) undef
 | .const v=>v
 | .global g=>.pointer (some ⟨g,0,none⟩)
 | .func f=>.func (.func f) #[] #[]
theorem mkO_size (a:Act):∀r:List (Nat×Value),(mkO r a).tmps.size=a.tmps.size
 | []=>rfl
 |p::r=>by
  show((mkO r a).tmps.setIfInBounds p.1 p.2).size=_;rw[Array.size_setIfInBounds,mkO_size a r]
theorem getA_eq (a:Act) (t:Nat) (ht:t<a.tmps.size):∀r:List (Nat×Value),getA a.tmps.toList r t=(mkO r a).tmps.getD t undef
 | []=>by show getV _ _=_;rw[getV_eq];rfl
 |p::r=>by
  show cond _ _ _=((mkO r a).tmps.setIfInBounds p.1 p.2).getD t undef;rw[getA_eq a t ht r]
  by_cases h:p.1=t
  ·subst h
   have hs:p.1<(mkO r a).tmps.size:=by rw[mkO_size];exact ht
   simp[Nat.beq_eq_true_eq,hs]
  ·have hb:Nat.beq p.1 t=false:=by
    cases hh:Nat.beq p.1 t
    ·rfl
    ·exact absurd (Nat.eq_of_beq_eq_true hh) h
   rw[hb];simp only[cond_false,Array.getD_eq_getD_getElem?,Array.getElem?_setIfInBounds_ne h]
theorem evO_eq (r:List (Nat×Value)) (a:Act):evO r a=(mkO r a).eval:=by
 funext x
 cases x with
 |tmp t=>
  show cond _ _ _=(mkO r a).tmps.getD t undef
  by_cases h:t<a.tmps.size
  ·have hb:Nat.blt t a.tmps.toList.length=true:=by simp[Nat.blt_eq,h]
   rw[hb,cond_true,getA_eq a t h]
  ·have hb:Nat.blt t a.tmps.toList.length=false:=by
    cases hh:Nat.blt t a.tmps.toList.length
    ·rfl
    ·exact absurd (by rw[Nat.blt_eq] at hh;simpa using hh) h
   rw[hb,cond_false,Array.getD_eq_getD_getElem?,Array.getElem?_eq_none (Nat.le_of_not_lt (by rw[mkO_size];exact h))];rfl
 |_=>rfl
variable {l:List Nat} {k:Nat} {o:Oper} {L:List Blk} {a:Act} {r:List (Nat×Value)}
theorem stp (h0:nthO ops.toList k=some o) (hs:F.special k=false) (v:Value) (hy:YX ops (F.cls k) o (mkO r a) v) (hc:∀w,Sx F.S F.w0 w L F.D F.O→F.cls k w) (hk:wpLX ops F Qf l L (mkO (nxt o.dst v r) a)):wpLX ops F Qf (k::l) L (mkO r a):=by
 show xstep _ _ _ _ _ _;unfold xstep;rw[nth_some h0];show xdo _ _ _ _ _ _ _;unfold xdo;rw[hs,if_neg (by simp)];exact⟨v,hy,hc,by rw[←mkO_nxt];exact hk⟩
theorem val (h0:nthO ops.toList k=some o) (hs:F.special k=false) (hp:F.pure k=true) (hw:Region.wanted o (yielded ops (mkO r a).tmps)=true) {v:Value} (h:∀w,(execOp (evO r a) o).run Tryz.prog w=.ok (.value v) w) (hk:wpLX ops F Qf l L (mkO (nxt o.dst v r) a)):wpLX ops F Qf (k::l) L (mkO r a):=
 stp h0 hs v (Or.inl ⟨hw,fun w _=>by unfold Oper.quietAt;rw[←evO_eq,h w];exact⟨rfl,rfl⟩⟩) (fun w _=>Or.inl hp) hk
theorem skip (h0:nthO ops.toList k=some o) (hs:F.special k=false) (hw:Region.wanted o (yielded ops (mkO r a).tmps)=false) (hp:F.pure k=true) (hk:wpLX ops F Qf l L (mkO (nxt o.dst undef r) a)):wpLX ops F Qf (k::l) L (mkO r a):=
 stp h0 hs undef (Or.inr ⟨hw,rfl⟩) (fun w _=>Or.inl hp) hk
theorem skipB (h0:nthO ops.toList k=some o) (hs:F.special k=false) (hw:Region.wanted o (yielded ops (mkO r a).tmps)=false) (hB:∀w,Sx F.S F.w0 w L F.D F.O→F.B w) (hk:wpLX ops F Qf l L (mkO (nxt o.dst undef r) a)):wpLX ops F Qf (k::l) L (mkO r a):=
 stp h0 hs undef (Or.inr ⟨hw,rfl⟩) (fun w hw=>Or.inr (hB w hw)) hk
theorem rd (h0:nthO ops.toList k=some o) (hs:F.special k=false) (hp:F.pure k=false) (hw:Region.wanted o (yielded ops (mkO r a).tmps)=true) {v:Value} (hB:∀w,Sx F.S F.w0 w L F.D F.O→F.B w) (h:∀w,F.B w→(execOp (evO r a) o).run Tryz.prog w=.ok (.value v) w) (hk:wpLX ops F Qf l L (mkO (nxt o.dst v r) a)):wpLX ops F Qf (k::l) L (mkO r a):=
 stp h0 hs v (Or.inl ⟨hw,fun w hw'=>by
  rcases hw' with h1 |h1
  ·rw[hp] at h1;cases h1
  ·unfold Oper.quietAt;rw[←evO_eq,h w h1];exact⟨rfl,rfl⟩⟩) (fun w hw'=>Or.inr (hB w hw')) hk
theorem call (h0:nthO ops.toList k=some o) (hs:F.special k=false) {f:FuncId} {args:Array Value} {v:Value} (hc:∀w,Calls Tryz.prog f args w (Ret v w)) (hp:F.pure k=true) (hw:Region.wanted o (yielded ops (mkO r a).tmps)=true) (h:∀w,(execOp (evO r a) o).run Tryz.prog w=.ok (.enter f args) w) (hk:wpLX ops F Qf l L (mkO (nxt o.dst v r) a)):wpLX ops F Qf (k::l) L (mkO r a):=
 stp h0 hs v (Or.inl ⟨hw,fun w _=>by unfold Oper.quietAt;rw[←evO_eq,h w];exact⟨rfl,hc w⟩⟩) (fun w _=>Or.inl hp) hk
theorem callB (h0:nthO ops.toList k=some o) (hs:F.special k=false) {f:FuncId} {args:Array Value} {v:Value} (hB:∀w,Sx F.S F.w0 w L F.D F.O→F.B w) (hc:∀w,F.B w→Calls Tryz.prog f args w (Ret v w)) (hp:F.pure k=false) (hw:Region.wanted o (yielded ops (mkO r a).tmps)=true) (h:∀w,(execOp (evO r a) o).run Tryz.prog w=.ok (.enter f args) w) (hk:wpLX ops F Qf l L (mkO (nxt o.dst v r) a)):wpLX ops F Qf (k::l) L (mkO r a):=
 stp h0 hs v (Or.inl ⟨hw,fun w hw'=>by
  rcases hw' with h1 |h1
  ·rw[hp] at h1;cases h1
  ·unfold Oper.quietAt;rw[←evO_eq,h w];exact⟨rfl,hc w h1⟩⟩) (fun w hw'=>Or.inr (hB w hw')) hk
theorem spec (h0:nthO ops.toList k=some o) (hs:F.special k=true) (R:List Blk→Value→Prop) (hsp:SP F L (execOp (evO r a) o) R) (hk:∀L' u,R L' u→(F.late k=true∨∀w,Sx F.S F.w0 w L' F.D F.O→F.B w)∧wpLX ops F Qf l L' (mkO (nxt o.dst u r) a)):wpLX ops F Qf (k::l) L (mkO r a):=by
 show xstep _ _ _ _ _ _;unfold xstep;rw[nth_some h0];show xdo _ _ _ _ _ _ _;unfold xdo;rw[if_pos hs];rw[evO_eq] at hsp;exact⟨R,hsp,fun L' u hr=>⟨(hk L' u hr).1,by rw[←mkO_nxt];exact(hk L' u hr).2⟩⟩
theorem st (h0:nthO ops.toList k=some o) (hs:F.special k=true) {T:TypeId} {x y:Operand} (ho:o.op=.store T x y) {ad:Addr} (hx:evO r a x=.pointer (some ad)) {v:Value} (hy:evO r a y=v)
  {g off:Nat} [e:AdrIs ad g off] {C C':Array Value} {Tb:TypeId} {n:Nat} {L':List Blk} [t:SizeT T n] [kk:Has L g C Tb] [c:WrAt C off n v C'] [u:Upd L g C Tb C' L'] (hB:F.late k=true∨∀w,Sx F.S F.w0 w L' F.D F.O→F.B w) (hk:wpLX ops F Qf l L' (mkO (nxt o.dst undef r) a)):wpLX ops F Qf (k::l) L (mkO r a):=by
 refine spec h0 hs (fun L'' u=>L''=L'∧u=undef) (fun w hw=>Or.inr (Or.inl ⟨w.setRow g C',L',?_,⟨rfl,rfl⟩,hw.upd (St.write1 hw.st.has)⟩)) ?_
 ·obtain rfl:=e.eq
  unfold execOp;simp only[ho,hx,hy,Instr.storeAt,Instr.sureAddr,Sem.run_bind,Sem.run_pure,Result.andThen_ok,run_storeVar_at t.size hw.st.has c]
 ·rintro L'' u ⟨rfl,rfl⟩
  exact⟨hB,hk⟩
theorem stI (h0:nthO ops.toList k=some o) (hs:F.special k=true) {T:TypeId} {x y:Operand} (ho:o.op=.store T x y) {ad:Addr} (hx:evO r a x=.pointer (some ad)) {kk:IntKind} {z:Int} (hy:evO r a y=.int kk z)
  {g off:Nat} [e:AdrIs ad g off] {C C':Array Value} {Tb:TypeId} {n:Nat} {L':List Blk} [t:SizeT T n] [h1:Has L g C Tb] [c:WrAt C off n (.int kk z) C'] [u:Upd L g C Tb C' L'] (hB:F.late k=true∨∀w,Sx F.S F.w0 w L' F.D F.O→F.B w) (hk:wpLX ops F Qf l L' (mkO (nxt o.dst undef r) a)):wpLX ops F Qf (k::l) L (mkO r a):=st h0 hs ho hx hy hB hk
theorem stL (h0:nthO ops.toList k=some o) (hs:F.special k=true) {T:TypeId} {x y:Operand} (ho:o.op=.store T x y) {ad:Addr} (hx:evO r a x=.pointer (some ad)) {z:Option Addr} {ln cp:Nat} (hy:evO r a y=.slice z ln cp)
  {g off:Nat} [e:AdrIs ad g off] {C C':Array Value} {Tb:TypeId} {n:Nat} {L':List Blk} [t:SizeT T n] [h1:Has L g C Tb] [c:WrAt C off n (.slice z ln cp) C'] [u:Upd L g C Tb C' L'] (hB:F.late k=true∨∀w,Sx F.S F.w0 w L' F.D F.O→F.B w) (hk:wpLX ops F Qf l L' (mkO (nxt o.dst undef r) a)):wpLX ops F Qf (k::l) L (mkO r a):=st h0 hs ho hx hy hB hk
theorem stA (h0:nthO ops.toList k=some o) (hs:F.special k=true) {T:TypeId} {x y:Operand} (ho:o.op=.store T x y) {ad:Addr} (hx:evO r a x=.pointer (some ad)) {z:Array Value} (hy:evO r a y=.agg z)
  {g off:Nat} [e:AdrIs ad g off] {C C':Array Value} {Tb:TypeId} {n:Nat} {L':List Blk} [t:SizeT T n] [h1:Has L g C Tb] [c:WrAt C off n (.agg z) C'] [u:Upd L g C Tb C' L'] (hB:F.late k=true∨∀w,Sx F.S F.w0 w L' F.D F.O→F.B w) (hk:wpLX ops F Qf l L' (mkO (nxt o.dst undef r) a)):wpLX ops F Qf (k::l) L (mkO r a):=st h0 hs ho hx hy hB hk
theorem nw (h0:nthO ops.toList k=some o) (hs:F.special k=true) {T:TypeId} (ho:o.op=.alloc T) {C:Array Value} [z:ZeroT T C] (hB:∀b,F.late k=true∨∀w,Sx F.S F.w0 w ((b,C,T)::L) F.D F.O→F.B w) (hk:∀b,wpLX ops F Qf l ((b,C,T)::L) (mkO (nxt o.dst (.pointer (some ⟨b,0,none⟩)) r) a)):wpLX ops F Qf (k::l) L (mkO r a):=by
 refine spec h0 hs (fun L' u=>∃b,L'=(b,C,T)::L∧u=.pointer (some ⟨b,0,none⟩)) (fun w hw=>Or.inl ?_) ?_
 ·obtain⟨v,hz,rfl⟩:=z.run w
  have hr:(Instr.alloc T true (.tuple #[])).run Tryz.prog w=.ok (.pointer (some ⟨w.heap.size,0,none⟩)) (w.alloc (.cells v.cells T)):=by
   unfold Instr.alloc;simp only[Sem.run_bind,hz,Result.andThen_ok,newVar_one];rfl
  refine⟨.pointer (some ⟨w.heap.size,0,none⟩),_,(w.heap.size,v.cells,T)::L,?_,⟨_,rfl,rfl⟩,hw.alloc v.cells T⟩;unfold execOp;simp only[ho,Sem.run_bind,hr,Result.andThen_ok];rfl
 ·rintro L' u ⟨b,rfl,rfl⟩
  exact⟨hB b,hk b⟩
section
variable {ρ:Operand→Value} {o:Oper} {x y z:Operand} {v:Value}
theorem e_mv (ho:o.op=.move x) (hx:ρ x=v) (w:World):(execOp ρ o).run Tryz.prog w=.ok (.value v) w:=by unfold execOp;rw[ho,←hx];rfl
theorem e_as (ho:o.op=.assign x) (hx:ρ x=v) (w:World):(execOp ρ o).run Tryz.prog w=.ok (.value v) w:=by unfold execOp;rw[ho,←hx];rfl
theorem e_nil (ho:o.op=.nilCheck x) {ad:Addr} (hx:ρ x=.pointer (some ad)) (w:World):(execOp ρ o).run Tryz.prog w=.ok (.value (.pointer (some ad))) w:=by unfold execOp;rw[ho];simp only[hx];rfl
end
class FldT (s f:Nat) (n:outParam Nat):Prop where run:∀(ad:Addr) (w:World),(Instr.fieldAt s (.pointer (some ad)) f).run Tryz.prog w=.ok (.pointer (some (ad.add n))) w
section
variable {ρ:Operand→Value} {o:Oper} {x y z:Operand} {v:Value}
theorem e_fa {s f n:Nat} (ho:o.op=.fieldAddr s x f) {ad:Addr} (hx:ρ x=.pointer (some ad)) [h:FldT s f n] (w:World):(execOp ρ o).run Tryz.prog w=.ok (.value (.pointer (some (ad.add n)))) w:=by
 unfold execOp;rw[ho];simp only[hx,Sem.run_bind,h.run ad w,Result.andThen_ok];rfl
theorem e_bin {p:BinOp} {T U:TypeId} (ho:o.op=.binOp p T x y U) {k k':IntKind} {m n:Int} (hx:ρ x=.int k m) (hy:ρ y=.int k' n) (hr:∀w,(binOp p T (.int k m) (.int k' n)).run Tryz.prog w=.ok v w) (w:World):(execOp ρ o).run Tryz.prog w=.ok (.value v) w:=by
 unfold execOp;rw[ho];have hg:(eqGuard p T x y (.int k m) (.int k' n)).run Tryz.prog w=.ok () w:=by cases p<;>rfl
 simp only[hx,hy,Sem.run_bind,hg,Result.andThen_ok,hr w];rfl
variable {T U:TypeId} {k:IntKind} {m n:Int}
theorem e_lss {b:Bool} (ho:o.op=.binOp .lss T x y U) (hx:ρ x=.int k m) (hy:ρ y=.int k n) (hb:decide (m<n)=b) (w:World):(execOp ρ o).run Tryz.prog w=.ok (.value (.bool b)) w:=e_bin ho hx hy (fun w=>by rw[←hb,binOp_lss];rfl) w
theorem e_leq {b:Bool} (ho:o.op=.binOp .leq T x y U) (hx:ρ x=.int k m) (hy:ρ y=.int k n) (hb:decide (m≤n)=b) (w:World):(execOp ρ o).run Tryz.prog w=.ok (.value (.bool b)) w:=e_bin ho hx hy (fun w=>by rw[←hb,binOp_leq];rfl) w
theorem e_gtr {b:Bool} (ho:o.op=.binOp .gtr T x y U) (hx:ρ x=.int k m) (hy:ρ y=.int k n) (hb:decide (n<m)=b) (w:World):(execOp ρ o).run Tryz.prog w=.ok (.value (.bool b)) w:=e_bin ho hx hy (fun w=>by rw[←hb,binOp_gtr];rfl) w
theorem e_geq {b:Bool} (ho:o.op=.binOp .geq T x y U) (hx:ρ x=.int k m) (hy:ρ y=.int k n) (hb:decide (n≤m)=b) (w:World):(execOp ρ o).run Tryz.prog w=.ok (.value (.bool b)) w:=e_bin ho hx hy (fun w=>by rw[←hb,binOp_geq];rfl) w
theorem e_eql {b:Bool} (ho:o.op=.binOp .eql T x y U) (hx:ρ x=.int k m) (hy:ρ y=.int k n) (hb:decide (m=n)=b) (w:World):(execOp ρ o).run Tryz.prog w=.ok (.value (.bool b)) w:=e_bin ho hx hy (fun w=>by rw[←hb,binOp_eql];rfl) w
theorem e_neq {b:Bool} (ho:o.op=.binOp .neq T x y U) (hx:ρ x=.int k m) (hy:ρ y=.int k n) (hb:decide (m≠n)=b) (w:World):(execOp ρ o).run Tryz.prog w=.ok (.value (.bool b)) w:=e_bin ho hx hy (fun w=>by
 rw[←hb,binOp_neq];have:(m !=n)=decide (m≠n):=by by_cases h:m=n<;>simp[h]
 rw[this];rfl) w
theorem wrap64_id {m:Int} (h: -9223372036854775808≤m∧m≤9223372036854775807):IntKind.i64.wrap m=m:=wrap_i64 h.1 (by omega)
theorem e_add (ho:o.op=.binOp .add T x y U) (hx:ρ x=.int .i64 m) (hy:ρ y=.int .i64 n) (hb: -9223372036854775808≤m+n∧m+n≤9223372036854775807) (w:World):(execOp ρ o).run Tryz.prog w=.ok (.value (.int .i64 (m+n))) w:=e_bin ho hx hy (fun w=>by rw[binOp_add];unfold Op.intArith;simp[wrap64_id hb]) w
theorem e_sub (ho:o.op=.binOp .sub T x y U) (hx:ρ x=.int .i64 m) (hy:ρ y=.int .i64 n) (hb: -9223372036854775808≤m-n∧m-n≤9223372036854775807) (w:World):(execOp ρ o).run Tryz.prog w=.ok (.value (.int .i64 (m-n))) w:=e_bin ho hx hy (fun w=>by rw[binOp_sub];unfold Op.intArith;simp[wrap64_id hb]) w
theorem e_mul (ho:o.op=.binOp .mul T x y U) (hx:ρ x=.int .i64 m) (hy:ρ y=.int .i64 n) (hb: -9223372036854775808≤m*n∧m*n≤9223372036854775807) (w:World):(execOp ρ o).run Tryz.prog w=.ok (.value (.int .i64 (m*n))) w:=e_bin ho hx hy (fun w=>by rw[binOp_mul];unfold Op.intArith;simp[wrap64_id hb]) w
theorem e_not {b:Bool} (ho:o.op=.unOp .not T x) (hx:ρ x=.bool b) (w:World):(execOp ρ o).run Tryz.prog w=.ok (.value (.bool (!b))) w:=by unfold execOp;rw[ho];simp only[hx];rfl
theorem e_pkT (ho:o.op=.pick x y z) (hx:ρ x=.bool true) (hy:ρ y=v) (w:World):(execOp ρ o).run Tryz.prog w=.ok (.value v) w:=by unfold execOp;rw[ho];simp only[hx,hy];rfl
theorem e_pkF (ho:o.op=.pick x y z) (hx:ρ x=.bool false) (hy:ρ z=v) (w:World):(execOp ρ o).run Tryz.prog w=.ok (.value v) w:=by unfold execOp;rw[ho];simp only[hx,hy];rfl
theorem e_len {TS T:TypeId} (ho:o.op=.call {callee:=.builtin .len,args:=#[x],argTypes:=#[TS]}) {p:Option Addr} {n c:Nat} (hx:ρ x=.slice p n c) [sl:SlT TS T] (w:World):(execOp ρ o).run Tryz.prog w=.ok (.value (.int .i64 n)) w:=by
 unfold execOp;simp[ho,resolve,invoke,builtin,hx,Builtin.len_,run_underlying sl.under,goInt]
theorem e_ix {TS T:TypeId} {k':Nat} (ho:o.op=.indexAddr TS x y) {ad:Addr} {n c:Nat} (hx:ρ x=.slice (some ad) n c) {kk:IntKind} {j:Nat} (hy:ρ y=.int kk (j:Int)) [sl:SlT TS T] [e:Elt T k'] (hj:j<n) (w:World):(execOp ρ o).run Tryz.prog w=.ok (.value (.pointer (some (ad.add (j*k'))))) w:=by
 obtain⟨i,z,hi,hz,hs,hb,hzs,hk⟩:=elt_info T k';unfold execOp;rw[ho];have h1:(0:Int)≤(j:Int)∧(j:Int)<(n:Int):=by omega
 simp[hx,hy,Instr.indexAt,asIntOf,run_underlying sl.under,h1,sizeOf,typeInfo,hi,hs];omega
end
section
variable {ρ:Operand→Value} {o:Oper} {x y z:Operand} {v:Value} {w:World} {S:List Nat} {w0:World} {D:Dat} {O:List Nat}
theorem r_1 {T:TypeId} (ho:o.op=.load T x) {ad:Addr} (hx:ρ x=.pointer (some ad)) {L:List Blk} {g off:Nat} [e:AdrIs ad g off] {C:Array Value} {Tb:TypeId} [t:OneT T] [kk:Has L g C Tb] [c:CellAt C off v] (w:World) (h:Sx S w0 w L D O):(execOp ρ o).run Tryz.prog w=.ok (.value v) w:=by
 obtain rfl:=e.eq;unfold execOp;simp only[ho,hx,Instr.loadAt,Instr.sureAddr,Sem.run_bind,Sem.run_pure,Result.andThen_ok,run_loadVar_one (t.agg w) h.st.has c.eq]
theorem r_a {T:TypeId} (ho:o.op=.load T x) {ad:Addr} (hx:ρ x=.pointer (some ad)) {L:List Blk} {g off:Nat} [e:AdrIs ad g off] {C:Array Value} {Tb:TypeId} {n:Nat} {cs:List Value} [t:AggT T n] [kk:Has L g C Tb] [c:PartAt C off n cs] (w:World) (h:Sx S w0 w L D O):(execOp ρ o).run Tryz.prog w=.ok (.value (.agg cs.toArray)) w:=by
 obtain rfl:=e.eq;unfold execOp;simp only[ho,hx,Instr.loadAt,Instr.sureAddr,Sem.run_bind,Sem.run_pure,Result.andThen_ok,run_loadVar_agg (t.agg w) (by rw[c.len];exact t.size) h.st.has c.eq]
theorem r_d {T:TypeId} (ho:o.op=.load T x) {ad:Addr} (hx:ρ x=.pointer (some ad)) {L:List Blk} {g off:Nat} [e:AdrIs ad g off] [c:LdD D T ⟨g,off,none⟩ v] (w:World) (h:Sx S w0 w L D O):(execOp ρ o).run Tryz.prog w=.ok (.value v) w:=by
 obtain rfl:=e.eq;unfold execOp;simp only[ho,hx,Instr.loadAt,Instr.sureAddr,Sem.run_bind,Sem.run_pure,Result.andThen_ok,c.run w h.data]
end
end
section
variable {ops:Array Oper} {Qf:List Blk→Act→Prop} {l:List Nat} {k:Nat} {o:Oper} {L:List Blk} {a:Act} {r:List (Nat×Value)} {S:List Nat} {w0:World} {D:Dat} {O:List Nat} {L0:List Blk} {sp pu la:Nat→Bool}
abbrev FB (S:List Nat) (w0:World) (L0:List Blk) (D:Dat) (O:List Nat) (sp pu la:Nat→Bool):Flow:=⟨S,w0,D,O,fun w=>Sx S w0 w L0 D O,sp,pu,la⟩
theorem l1 (h0:nthO ops.toList k=some o) (hs:sp k=false) (hp:pu k=false) (hw:Region.wanted o (yielded ops (mkO r a).tmps)=true) {T:TypeId} {x:Operand} (ho:o.op=.load T x) {ad:Addr} (hx:evO r a x=.pointer (some ad)) {g off:Nat} [AdrIs ad g off] {C:Array Value} {Tb:TypeId} {v:Value} [OneT T] [Has L0 g C Tb] [CellAt C off v] (hk:wpLX ops (FB S w0 L0 D O sp pu la) Qf l L0 (mkO (nxt o.dst v r) a)):wpLX ops (FB S w0 L0 D O sp pu la) Qf (k::l) L0 (mkO r a):=
 rd h0 hs hp hw (fun _ h=>h) (r_1 ho hx) hk
theorem lA (h0:nthO ops.toList k=some o) (hs:sp k=false) (hp:pu k=false) (hw:Region.wanted o (yielded ops (mkO r a).tmps)=true) {T:TypeId} {x:Operand} (ho:o.op=.load T x) {ad:Addr} (hx:evO r a x=.pointer (some ad)) {g off:Nat} [AdrIs ad g off] {C:Array Value} {Tb:TypeId} {n:Nat} {cs:List Value} [AggT T n] [Has L0 g C Tb] [PartAt C off n cs] (hk:wpLX ops (FB S w0 L0 D O sp pu la) Qf l L0 (mkO (nxt o.dst (.agg cs.toArray) r) a)):wpLX ops (FB S w0 L0 D O sp pu la) Qf (k::l) L0 (mkO r a):=
 rd h0 hs hp hw (fun _ h=>h) (r_a ho hx) hk
theorem lD (h0:nthO ops.toList k=some o) (hs:sp k=false) (hp:pu k=false) (hw:Region.wanted o (yielded ops (mkO r a).tmps)=true) {T:TypeId} {x:Operand} (ho:o.op=.load T x) {ad:Addr} (hx:evO r a x=.pointer (some ad)) {v:Value} {g off:Nat} [AdrIs ad g off] [LdD D T ⟨g,off,none⟩ v] (hk:wpLX ops (FB S w0 L0 D O sp pu la) Qf l L0 (mkO (nxt o.dst v r) a)):wpLX ops (FB S w0 L0 D O sp pu la) Qf (k::l) L0 (mkO r a):=
 rd h0 hs hp hw (fun _ h=>h) (r_d ho hx) hk
abbrev FD (S:List Nat) (w0:World) (D:Dat) (O:List Nat) (sp pu la:Nat→Bool):Flow:=⟨S,w0,D,O,fun w=>Holds D w,sp,pu,la⟩
theorem ldD (h0:nthO ops.toList k=some o) (hs:sp k=false) (hp:pu k=false) (hw:Region.wanted o (yielded ops (mkO r a).tmps)=true) {T:TypeId} {x:Operand} (ho:o.op=.load T x) {ad:Addr} (hx:evO r a x=.pointer (some ad)) {v:Value} {g off:Nat} [e:AdrIs ad g off] [c:LdD D T ⟨g,off,none⟩ v] (hk:wpLX ops (FD S w0 D O sp pu la) Qf l L (mkO (nxt o.dst v r) a)):wpLX ops (FD S w0 D O sp pu la) Qf (k::l) L (mkO r a):=
 rd h0 hs hp hw (fun _ h=>h.data) (fun w h=>by
  obtain rfl:=e.eq;unfold execOp
  simp only[ho,hx,Instr.loadAt,Instr.sureAddr,Sem.run_bind,Sem.run_pure,Result.andThen_ok,c.run w h]) hk
variable {F:Flow}
theorem rdS (h0:nthO ops.toList k=some o) (hs:F.special k=true) {v:Value} (h:∀w,Sx F.S F.w0 w L F.D F.O→(execOp (evO r a) o).run Tryz.prog w=.ok (.value v) w) (hB:F.late k=true∨∀w,Sx F.S F.w0 w L F.D F.O→F.B w) (hk:wpLX ops F Qf l L (mkO (nxt o.dst v r) a)):wpLX ops F Qf (k::l) L (mkO r a):=
 spec h0 hs (fun L' u=>L'=L∧u=v) (fun w hw=>Or.inl ⟨v,w,L,h w hw,⟨rfl,rfl⟩,hw⟩) (fun L' u h=>by obtain⟨rfl,rfl⟩:=h;exact⟨hB,hk⟩)
theorem callS (h0:nthO ops.toList k=some o) (hs:F.special k=true) (R:List Blk→Value→Prop) {f:FuncId} {args:Array Value} (hc:∀w,Sx F.S F.w0 w L F.D F.O→Calls Tryz.prog f args w fun e w'=>∃u L',e=.returned u∧R L' u∧Sx F.S F.w0 w' L' F.D F.O) (h:∀w,(execOp (evO r a) o).run Tryz.prog w=.ok (.enter f args) w) (hk:∀L' u,R L' u→(F.late k=true∨∀w,Sx F.S F.w0 w L' F.D F.O→F.B w)∧wpLX ops F Qf l L' (mkO (nxt o.dst u r) a)):wpLX ops F Qf (k::l) L (mkO r a):=
 spec h0 hs R (fun w hw=>Or.inr (Or.inr ⟨f,args,h w,hc w hw⟩)) hk
theorem mkS {α:Type} {enc:α→List Value} {k':Nat} {T TS:TypeId} (h0:nthO ops.toList k=some o) (hs:F.special k=true) {x y:Operand} (ho:o.op=.makeSlice TS x y) {n:Nat} (hx:evO r a x=.int .i64 (n:Int)) (hy:evO r a y=.int .i64 (n:Int)) [sl:SlT TS T] (C:Array Value) (hr:∀w:World,(Instr.makeSlice TS (.int .i64 (n:Int)) (.int .i64 (n:Int))).run Tryz.prog w=.ok (.slice (some ⟨w.heap.size,0,none⟩) n n) (w.alloc (.cells C T))) (hk:∀b,(F.late k=true∨∀w,Sx F.S F.w0 w ((b,C,T)::L) F.D F.O→F.B w)∧wpLX ops F Qf l ((b,C,T)::L) (mkO (nxt o.dst (.slice (some ⟨b,0,none⟩) n n) r) a)):wpLX ops F Qf (k::l) L (mkO r a):=by
 refine spec h0 hs (fun L' u=>∃b,L'=(b,C,T)::L∧u=.slice (some ⟨b,0,none⟩) n n) (fun w hw=>Or.inl ?_) ?_
 ·refine⟨_,_,(w.heap.size,C,T)::L,?_,⟨_,rfl,rfl⟩,hw.alloc C T⟩
  unfold execOp;simp only[ho,hx,hy,Sem.run_bind,hr,Result.andThen_ok];rfl
 ·rintro L' u ⟨b,rfl,rfl⟩
  exact hk b
theorem fa (h0:nthO ops.toList k=some o) (hs:F.special k=false) (hp:F.pure k=true) (hw:Region.wanted o (yielded ops (mkO r a).tmps)=true) {s f n:Nat} {x:Operand} (ho:o.op=.fieldAddr s x f) {ad:Addr} (hx:evO r a x=.pointer (some ad)) [FldT s f n] (hk:wpLX ops F Qf l L (mkO (nxt o.dst (.pointer (some (ad.add n))) r) a)):wpLX ops F Qf (k::l) L (mkO r a):=val h0 hs hp hw (e_fa ho hx) hk
theorem ix (h0:nthO ops.toList k=some o) (hs:F.special k=false) (hp:F.pure k=true) (hw:Region.wanted o (yielded ops (mkO r a).tmps)=true) {TS T:TypeId} {k':Nat} {x y:Operand} (ho:o.op=.indexAddr TS x y) {ad:Addr} {n c:Nat} (hx:evO r a x=.slice (some ad) n c) {kk:IntKind} {j:Nat} (hy:evO r a y=.int kk (j:Int)) [SlT TS T] [Elt T k'] (hj:j<n) (hk:wpLX ops F Qf l L (mkO (nxt o.dst (.pointer (some (ad.add (j*k')))) r) a)):wpLX ops F Qf (k::l) L (mkO r a):=val h0 hs hp hw (e_ix ho hx hy hj) hk
theorem ln (h0:nthO ops.toList k=some o) (hs:F.special k=false) (hp:F.pure k=true) (hw:Region.wanted o (yielded ops (mkO r a).tmps)=true) {TS T:TypeId} {x:Operand} (ho:o.op=.call {callee:=.builtin .len,args:=#[x],argTypes:=#[TS]}) {p:Option Addr} {n c:Nat} (hx:evO r a x=.slice p n c) [SlT TS T] (hk:wpLX ops F Qf l L (mkO (nxt o.dst (.int .i64 n) r) a)):wpLX ops F Qf (k::l) L (mkO r a):=val h0 hs hp hw (e_len ho hx) hk
end
theorem go {id:Nat} {Q':Exit→Act→World→Prop} {a:Act} {w:World} {l:List Oper} {S:List Nat} {w0:World} {L:List Blk} {D:Dat} {O:List Nat} (special pure late:Nat→Bool) (order:List Nat) (hlen:order.length=l.length) (hst:Sx S w0 w L D O) (hm:Tryz.prog.follows .mixedOrders=true)
  (hg:(List.range l.length).all (fun i=> !special i||(match l[i]? with |some o=>o.guard.isNone |none=>true))=true) (hs:Region.noSelect l.toArray=true) (hlex:lexX l.toArray special order (Array.replicate l.length false)=true) (hl8:lateX l.toArray special pure late=true)
  (h:wpLX l.toArray (FB S w0 L D O special pure late) (fun L' a'=>∀w',Sx S w0 w' L' D O→Q' .normal a' w') order L (mkO [] a)):(Code.region id l.toArray true).wp Tryz.prog Q' a w:=
 wp_region_flow ⟨S,w0,D,O,fun w=>Sx S w0 w L D O,special,pure,late⟩ order hlen hst hm hg hs hlex hl8 h
theorem goD {id:Nat} {Q':Exit→Act→World→Prop} {a:Act} {w:World} {l:List Oper} {S:List Nat} {w0:World} {L:List Blk} {D:Dat} {O:List Nat} (special pure late:Nat→Bool) (order:List Nat) (hlen:order.length=l.length) (hst:Sx S w0 w L D O) (hm:Tryz.prog.follows .mixedOrders=true)
  (hg:(List.range l.length).all (fun i=> !special i||(match l[i]? with |some o=>o.guard.isNone |none=>true))=true) (hs:Region.noSelect l.toArray=true) (hlex:lexX l.toArray special order (Array.replicate l.length false)=true) (hl8:lateX l.toArray special pure late=true)
  (h:wpLX l.toArray (FD S w0 D O special pure late) (fun L' a'=>∀w',Sx S w0 w' L' D O→Q' .normal a' w') order L (mkO [] a)):(Code.region id l.toArray true).wp Tryz.prog Q' a w:=
 wp_region_flow (FD S w0 D O special pure late) order hlen hst hm hg hs hlex hl8 h
theorem runOf {ops:Array Oper} {F:Flow} {Qf:List Blk→Act→Prop} {l:List Nat} {k:Nat} {L:List Blk} {a:Act} (h:wpLX ops F Qf (k::l) L a):xstep ops F k (wpOT ops F Qf (.run l)) L a:=h
theorem goT {id:Nat} {Q':Exit→Act→World→Prop} {a:Act} {w:World} {l:List Oper} {S:List Nat} {w0:World} {L:List Blk} {D:Dat} {O:List Nat} (special pure late:Nat→Bool) (order:OT) (hlen:order.fuel=l.length) (hst:Sx S w0 w L D O) (hm:Tryz.prog.follows .mixedOrders=true)
  (hg:(List.range l.length).all (fun i=> !special i||(match l[i]? with |some o=>o.guard.isNone |none=>true))=true) (hs:Region.noSelect l.toArray=true) (hlex:order.ok l.toArray special (Array.replicate l.length false)=true) (hl8:lateX l.toArray special pure late=true)
  (h:wpOT l.toArray (FB S w0 L D O special pure late) (fun L' a'=>∀w',Sx S w0 w' L' D O→Q' .normal a' w') order L (mkO [] a)):(Code.region id l.toArray true).wp Tryz.prog Q' a w:=
 wp_region_OT ⟨S,w0,D,O,fun w=>Sx S w0 w L D O,special,pure,late⟩ order hlen hst hm hg hs hlex hl8 h
end Go.Proofs.YtdkeiefgkgpcbaaGreatDoor.Fx
