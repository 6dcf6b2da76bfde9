/- Steps of the proof: Commit, FlowM, Maps. -/
import Derived.MapKept
import Derived.Carry
import Derived.Test.YtdkeiefgkgpcbaaGreatDoorP19
set_option linter.unusedVariables false
set_option linter.unusedSimpArgs false
set_option maxRecDepth 100000
namespace Go.Proofs.YtdkeiefgkgpcbaaGreatDoor
open Go.RowKit
theorem freeGo_wf:∀(l:List Int) (i:Nat) (f:Int) (out:List Rn),i+l.length≤1000000000→ -1≤f∧f≤i→(∀r∈out,r.Wf)→∀r∈freeGo i f l out,r.Wf
 | [],_,_,_,_,_,h=>h
 |s::l,i,f,out,hl,hf,h=>by
  simp only[List.length_cons] at hl
  unfold freeGo
  split
  ·exact freeGo_wf l (i+1) i out (by omega) (by omega) h
  ·split
   ·refine freeGo_wf l (i+1) (-1) _ (by omega) (by omega) (fun r hr=>?_)
    rcases List.mem_append.1 hr with hr |hr
    ·exact h r hr
    ·obtain rfl:=List.mem_singleton.1 hr
     exact⟨⟨by show -9223372036854775808≤f;omega,by show f≤_;omega⟩,⟨by show -9223372036854775808≤(i:Int)-f;omega,by show(i:Int)-f≤_;omega⟩⟩
   ·exact freeGo_wf l (i+1) f out (by omega) (by omega) h
theorem rFree_wf {l:List Int} (h:l.length≤100000000):∀r∈rFree l,r.Wf:=freeGo_wf _ _ _ _ (by rw[List.length_append,List.length_singleton];omega) (by omega) (by simp)
theorem freeGo_len:∀(l:List Int) (i:Nat) (f:Int) (out:List Rn),(freeGo i f l out).length≤out.length+l.length
 | [],_,_,out=>by simp[freeGo]
 |s::l,i,f,out=>by
  unfold freeGo
  split
  ·have:=freeGo_len l (i+1) i out;rw[List.length_cons];omega
  ·split
   ·have:=freeGo_len l (i+1) (-1) (out++[⟨f,i-f⟩]);rw[List.length_append,List.length_singleton] at this;rw[List.length_cons];omega
   ·have:=freeGo_len l (i+1) f out;rw[List.length_cons];omega
def placeF (d:Dv) (n:Int):Int×Bool:=if n<1 then(0,false) else((rTake (rFree (dStates d)) n).1.s,(rTake (rFree (dStates d)) n).2)
section
variable {D:Dat} {F:List Nat} {w:World} {g:Nat} {d:Dv}
set_option maxHeartbeats 1000000 in
theorem place_calls (h:DevW D F w g d) (n:Int) (hn:I64 n):Calls Tryz.prog 14 #[.pointer (some ⟨g,0,none⟩),.int .i64 n] w (Ret (.tuple #[.int .i64 (placeF d n).1,.bool (placeF d n).2]) w):=by
 have hst:=Sx.start0 w h.data
 by_cases h1:n<1
 ·have HP:=Lib.hid (show placeF d n=(0,false) by unfold placeF;rw[if_pos h1])
  go_enter Tryz.func14,Tryz.ntmps14
  go_wp2_with fail
  go_ret2
  exact⟨by rw[HP.out];rfl,hst.end⟩
 ·have HP:=Lib.hid (show placeF d n=((rTake (rFree (dStates d)) n).1.s,(rTake (rFree (dStates d)) n).2) by unfold placeF;rw[if_neg h1])
  have hmax:=h.ok.max
  have hdl:(dStates d).length=d.now.length:=by unfold dStates;rw[List.length_map]
  have hfl:(rFree (dStates d)).length≤1000:=by have:=freeGo_len (dStates d++[1]) 0 (-1) [];rw[List.length_append,List.length_singleton] at this;unfold rFree;simp only[List.length_nil] at this;omega
  have hwf:=rFree_wf (l:=dStates d) (by omega)
  have HS:=Lib.hid (fun wx (hb:Below w.heap.size w wx)=>dstates_calls (h.below hb))
  obtain⟨ss,hss⟩:∃x,dStates d=x:=⟨_,rfl⟩
  rw[hss] at hdl hfl hwf HP HS
  have hsl:ss.length≤512:=by omega
  clear hdl hmax
  obtain⟨fr,hfr⟩:∃x,rFree ss=x:=⟨_,rfl⟩
  rw[hfr] at hfl hwf HP
  obtain⟨rq,hrq⟩:∃x,rTake fr n=x:=⟨_,rfl⟩
  rw[hrq] at HP
  go_enter Tryz.func14,Tryz.ntmps14
  go_wp2_with fail
  refine(HS.out _ hst.end).mono ?_
  rintro e w2 ⟨v,Lo,rfl,hown,hs2⟩
  have hst:=(hst.take hs2).lay
  obtain⟨p1,c1,rfl,hrow⟩:=hown.row (by omega) (D:=fun p=>D p∨p∈Lo) (fun p hp=>Or.inr hp)
  go_wp2_with fail
  refine(free_calls hrow (by omega) _ hst.data).mono ?_
  rintro e w3 ⟨v2,Lo2,rfl,hown2,hs3⟩
  rw[hfr] at hown2
  have hst:=(hst.take hs3).lay
  obtain⟨p2,c2,rfl,hrow2⟩:=hown2.row (by omega) (D:=fun p=>(D p∨p∈Lo)∨p∈Lo2) (fun p hp=>Or.inr hp)
  go_wp2_with fail
  refine(rtake_calls hrow2 n hn hwf _ hst.data).mono ?_
  rintro e w4 ⟨v3,rfl,hb⟩
  have hst:=hst.below hb
  rw[hrq]
  obtain⟨⟨qs,qc⟩,qb⟩:=rq
  simp only
  go_wp2_with (with_reducible first|refine x1 rfl rfl rfl hst ?_|(refine xsa rfl rfl rfl rfl hst ?_;clear hst;intro w' hst)|(refine xnw rfl rfl hst ?_;clear hst;intro bn w' hst))
  go_ret2
  exact⟨by rw[HP.out];rfl,hst.end⟩
def cwGo (start:Int) (last:Nat):Nat→List ByteArray→Dv→Dv×Int
 |_,[],d=>dFlush d
 |i,b::bs,d=>
  if(if i=last then dFlush d else(d,0)).2≠0 then(if i=last then dFlush d else(d,0)) else
  if(dWrite (if i=last then dFlush d else(d,0)).1 (start+i) b).2≠0 then dWrite (if i=last then dFlush d else(d,0)).1 (start+i) b else
  cwGo start last (i+1) bs (dWrite (if i=last then dFlush d else(d,0)).1 (start+i) b).1
def cWrite (d:Dv) (start count:Int) (l:List ByteArray):Dv×Int:=if l.length=0∨count≠l.length then(d,2) else cwGo start (l.length-1) 0 l d
theorem dFails_acts (d:Dv):(dFails d).1.acts=d.acts:=by unfold dFails;split<;>rfl
theorem dCrash_acts (d:Dv) (k:List Int):(dCrash d k).1.acts.length≤d.acts.length:=by unfold dCrash;split<;>simp
theorem dFlush_acts (d:Dv):(dFlush d).1.acts.length≤d.acts.length:=by
 unfold dFlush
 split
 ·exact Nat.le_refl _
 ·simp only
  split
  ·exact Nat.le_trans (dCrash_acts _ _) (by rw[dFails_acts];exact Nat.le_refl _)
  ·simp
theorem dDo_acts (d:Dv) (x:Ac):(dDo d x).1.acts.length≤d.acts.length+1:=by
 unfold dDo
 simp only
 have h:(dPut (dFails d).1 x).acts.length=d.acts.length+1:=by unfold dPut;simp[dFails_acts]
 split
 ·exact Nat.le_trans (dCrash_acts _ _) (by omega)
 ·simp only;omega
theorem dWrite_acts (d:Dv) (i:Int) (s:ByteArray):(dWrite d i s).1.acts.length≤d.acts.length+1:=by
 unfold dWrite
 split
 ·exact Nat.le_succ _
 ·split
  ·exact Nat.le_succ _
  ·split
   ·exact Nat.le_succ _
   ·split
    ·exact Nat.le_succ _
    ·exact dDo_acts _ _
set_option maxHeartbeats 4000000 in
theorem cwrite_calls (h:DevW D F w g d) {start count:Int} {pb:Option Addr} {cb:Nat} {pe:Option Addr} {ne ce:Nat} {sl:Sl} {l:List ByteArray} (hr:RowAt D 9 1 strL pb cb l) (hs:∀s∈l,s.size≤100000) (hst0:0≤start∧start≤1000000) (hl:l.length≤100000) (hal:d.acts.length+l.length<1000000):
  Calls Tryz.prog 25 #[.pointer (some ⟨g,0,none⟩),.agg (plC ⟨start,count,pb,l.length,cb,pe,ne,ce,sl⟩)] w (DevRet (.int .i64 (cWrite d start count l).2) D F w g (cWrite d start count l).1):=by
 obtain⟨q,m,_,hst⟩:=h.open h.lt
 clear h
 obtain⟨R,hR⟩:∃R,cWrite d start count l=R:=⟨_,rfl⟩
 rw[hR]
 have HR0:∀ {u:Dv×Int},R=u→Ending.returned (.int .i64 u.2)=.returned (.int .i64 R.2):=fun e=>by rw[e]
 by_cases hz:l.length=0
 ·have HR:Hid (R=(d,2)):=Lib.hid (by rw[←hR];unfold cWrite;rw[if_pos (Or.inl hz)])
  clear hR
  go_enter Tryz.func25,Tryz.ntmps25
  go_wp2_with (first|(with_reducible (refine xval rfl 15 rfl (.bool true) (fun w=>Fx.e_lss rfl rfl rfl (decide_eq_true (by omega)) w) ?_))|(with_reducible first|refine x1 rfl rfl rfl hst ?_|(refine xba rfl rfl hst rfl ?_;clear hst;intro bb w' hst)))
  go_ret
  rw[HR.out]
  exact hst.drop.devRet m rfl
 by_cases hz2:count≠l.length
 ·have HR:Hid (R=(d,2)):=Lib.hid (by rw[←hR];unfold cWrite;rw[if_pos (Or.inr hz2)])
  clear hR
  have hd1:=decide_eq_true hz2
  go_enter Tryz.func25,Tryz.ntmps25
  go_wp2_with (first|(with_reducible (refine xval rfl 15 rfl (.bool false) (fun w=>Fx.e_lss rfl rfl rfl (decide_eq_false (by omega)) w) ?_))|(with_reducible (refine xval rfl 23 rfl (.bool true) (fun w=>Fx.e_neq rfl rfl rfl hd1 w) ?_))|(with_reducible first|refine x1 rfl rfl rfl hst ?_|(refine xba rfl rfl hst rfl ?_;clear hst;intro bb w' hst)))
  go_ret
  rw[HR.out]
  exact hst.drop.devRet m rfl
 have hct:count=l.length:=by simpa using hz2
 subst hct
 have HC0:Hid (cwGo start (l.length-1) 0 (l.drop 0) d=R):=Lib.hid (by rw[←hR];unfold cWrite;rw[if_neg (by simp[hz])];rfl)
 clear hR
 go_enter Tryz.func25,Tryz.ntmps25
 go_wp2_with (first|(with_reducible (refine xval rfl 15 rfl (.bool false) (fun w=>Fx.e_lss rfl rfl rfl (decide_eq_false (by omega)) w) ?_))|(with_reducible (refine xval rfl 23 rfl (.bool false) (fun w=>Fx.e_neq rfl rfl rfl (decide_eq_false (by simp)) w) ?_))|(with_reducible first|refine x1 rfl rfl rfl hst ?_|(refine xba rfl rfl hst rfl ?_;clear hst;intro bb w' hst)))
 obtain⟨b3,rfl⟩:∃b,b=bb:=⟨_,rfl⟩
 go_loopw [28] (fun iv wr=>∃(k:Nat) (d':Dv) (q:Dp),k≤l.length∧iv=.int .i64 k∧Hid (cwGo start (l.length-1) k (l.drop k) d'=R)∧Hid (d'.acts.length+(l.length-k)<1000000)∧DevMem D d' q∧Sx F w wr ((b3,plC ⟨start,l.length,pb,l.length,cb,pe,ne,ce,sl⟩,43)::devL g d' q) D []) (fun iv _=>l.length-(intOf iv).toNat)
 case atStart=>exact⟨0,d,q,Nat.zero_le _,by go_num,HC0,Lib.hid (by omega),m,hst⟩
 case round=>
  clear hst HC0 m
  obtain⟨k,d',q,hk,rfl,HC,HA,m,hst⟩:=hrel
  by_cases hlt:k<l.length
  ·obtain⟨g2,off,rfl⟩:=hr.at_some hlt
   have hld:=hr.ld1 hlt rfl
   have hxs:=hs _ (List.getElem_mem hlt)
   rw[List.drop_eq_getElem_cons hlt] at HC
   generalize l[k]=x at*
   obtain⟨f,hf⟩:∃f,(if k=l.length-1 then dFlush d' else(d',0))=f:=⟨_,rfl⟩
   have hfa:f.1.acts.length≤d'.acts.length:=by
    rw[←hf]
    split
    ·exact dFlush_acts d'
    ·exact Nat.le_refl _
   have hHC:(if f.2≠0 then f else if(dWrite f.1 (start+k) x).2≠0 then dWrite f.1 (start+k) x else cwGo start (l.length-1) (k+1) (l.drop (k+1)) (dWrite f.1 (start+k) x).1)=R:=by
    have:=HC.out
    simp only[cwGo,hf] at this
    exact this
   obtain⟨r,hrw⟩:∃r,dWrite f.1 (start+k) x=r:=⟨_,rfl⟩
   have hra:r.1.acts.length≤f.1.acts.length+1:=by rw[←hrw];exact dWrite_acts ..
   have HWr:=Lib.hid (fun F wx (hd:DevW D F wx g f.1)=>dwrite_calls hd (start+k) x hxs (by have:=HA.out;omega))
   rw[hrw] at HWr hHC
   have HHC:=Lib.hid hHC
   clear hHC hrw HC
   obtain⟨d2,e2⟩:=f
   obtain⟨d3,e3⟩:=r
   simp only at hfa hra HWr HHC
   by_cases hla:k=l.length-1
   ·rw[if_pos hla] at hf
    have HFl:=Lib.hid (fun F wx (hd:DevW D F wx g d')=>dflush_calls hd)
    rw[hf] at HFl
    have HKI:=Lib.hid (decide_eq_true (show(k:Int)=(l.length:Int)-1 by omega))
    clear hf hla
    by_cases he2:e2=0
    ·subst he2
     by_cases he3:e3=0
     ·subst he3
      have HN:Hid (cwGo start (l.length-1) (k+1) (l.drop (k+1)) d3=R):=Lib.hid (by have:=HHC.out;simpa using this)
      go_wp2_with (first|(with_reducible (refine xval rfl 35 rfl (.bool true) (fun w=>Fx.e_eql rfl rfl rfl HKI.out w) ?_))|(with_reducible first|refine x1 rfl rfl rfl hst ?_|refine xd rfl rfl rfl hst ?_)|(with_reducible (refine callO (HFl.out) hst m ?_;clear hst m;intro w5 q5 hst m))|(with_reducible (refine callO (HWr.out) hst m ?_;clear hst m;intro w5 q5 hst m)))
      go_roundw
      case rel=>exact⟨k+1,d3,_,by omega,by go_num,HN,Lib.hid (by have:=HA.out;omega),m,hst⟩
      case measure=>simp[intOf];omega
     ·have HR:Hid (R=(d3,e3)):=Lib.hid (by have:=HHC.out;simp[he3] at this;exact this.symm)
      go_wp2_with (first|(with_reducible (refine xval rfl 35 rfl (.bool true) (fun w=>Fx.e_eql rfl rfl rfl HKI.out w) ?_))|(with_reducible first|refine x1 rfl rfl rfl hst ?_|refine xd rfl rfl rfl hst ?_)|(with_reducible (refine callO (HFl.out) hst m ?_;clear hst m;intro w5 q5 hst m))|(with_reducible (refine callO (HWr.out) hst m ?_;clear hst m;intro w5 q5 hst m)))
      go_ret
      rw[HR.out]
      exact hst.drop.devRet m rfl
    ·have HR:Hid (R=(d2,e2)):=Lib.hid (by have:=HHC.out;simp[he2] at this;exact this.symm)
     go_wp2_with (first|(with_reducible (refine xval rfl 35 rfl (.bool true) (fun w=>Fx.e_eql rfl rfl rfl HKI.out w) ?_))|(with_reducible refine xd rfl rfl rfl hst ?_)|(with_reducible (refine callO (HFl.out) hst m ?_;clear hst m;intro w5 q5 hst m))|(with_reducible (refine callO (HWr.out) hst m ?_;clear hst m;intro w5 q5 hst m)))
     go_ret
     rw[HR.out]
     exact hst.drop.devRet m rfl
   ·rw[if_neg hla] at hf
    injection hf with hf1 hf2
    subst hf1 hf2
    have HKI:=Lib.hid (decide_eq_false (show ¬(k:Int)=(l.length:Int)-1 by omega))
    clear hla
    by_cases he3:e3=0
    ·subst he3
     have HN:Hid (cwGo start (l.length-1) (k+1) (l.drop (k+1)) d3=R):=Lib.hid (by have:=HHC.out;simpa using this)
     go_wp2_with (first|(with_reducible (refine xval rfl 35 rfl (.bool false) (fun w=>Fx.e_eql rfl rfl rfl HKI.out w) ?_))|(with_reducible first|refine x1 rfl rfl rfl hst ?_|refine xd rfl rfl rfl hst ?_)|(with_reducible (refine callO (HWr.out) hst m ?_;clear hst m;intro w5 q5 hst m)))
     go_roundw
     case rel=>exact⟨k+1,d3,_,by omega,by go_num,HN,Lib.hid (by have:=HA.out;omega),m,hst⟩
     case measure=>simp[intOf];omega
    ·have HR:Hid (R=(d3,e3)):=Lib.hid (by have:=HHC.out;simp[he3] at this;exact this.symm)
     go_wp2_with (first|(with_reducible (refine xval rfl 35 rfl (.bool false) (fun w=>Fx.e_eql rfl rfl rfl HKI.out w) ?_))|(with_reducible first|refine x1 rfl rfl rfl hst ?_|refine xd rfl rfl rfl hst ?_)|(with_reducible (refine callO (HWr.out) hst m ?_;clear hst m;intro w5 q5 hst m)))
     go_ret
     rw[HR.out]
     exact hst.drop.devRet m rfl
  ·obtain rfl:k=l.length:=by omega
   have HFl:=Lib.hid (fun F wx (hd:DevW D F wx g d')=>dflush_calls hd)
   have HR:Hid (dFlush d'=R):=Lib.hid (by have:=HC.out;rw[List.drop_length] at this;exact this)
   rw[HR.out] at HFl
   go_wp2_with (first|fail |(with_reducible (refine callO (HFl.out) hst m ?_;clear hst m;intro w5 q5 hst m)))
   go_ret
   exact hst.drop.devRet m rfl
end
end Go.Proofs.YtdkeiefgkgpcbaaGreatDoor
namespace Go.Proofs.YtdkeiefgkgpcbaaGreatDoor.Fm
open Go.RowKit
structure Flow where
 σ:Type
 I:σ→World→Prop
 below:∀s w w',I s w→Below w.heap.size w w'→I s w'
 B:World→Prop
 special:Nat→Bool
 pure:Nat→Bool
 late:Nat→Bool
def Flow.cls (F:Flow) (i:Nat) (w:World):Prop:=F.pure i=true∨F.B w
def SP (F:Flow) (L:F.σ) (s:Sem Next) (R:F.σ→Value→Prop):Prop:=
 ∀w,F.I L w→(∃u w' L',s.run Tryz.prog w=.ok (.value u) w'∧R L' u∧F.I L' w')∨(∃w' L',s.run Tryz.prog w=.ok .skip w'∧R L' undef∧F.I L' w')∨(∃f args,s.run Tryz.prog w=.ok (.enter f args) w∧Calls Tryz.prog f args w fun e w'=>∃u L',e=.returned u∧R L' u∧F.I L' w')
def xdo (ops:Array Oper) (F:Flow) (i:Nat) (o:Oper) (K:F.σ→Act→Prop) (L:F.σ) (a:Act):Prop:=
 if F.special i=true then ∃R,SP F L (execOp a.eval o) R∧∀L' u,R L' u→(F.late i=true∨∀w,F.I L' w→F.B w)∧K L' (a.put o.dst u)
 else ∃v,Fx.YX ops (F.cls i) o a v∧(∀w,F.I L w→F.cls i w)∧K L (a.put o.dst v)
section
variable {ops:Array Oper} {F:Flow} {Qf:F.σ→Act→Prop}
def xstep (ops:Array Oper) (F:Flow) (i:Nat) (K:F.σ→Act→Prop) (L:F.σ) (a:Act):Prop:=
 match ops[i]? with
 |none=>False
 |some o=>xdo ops F i o K L a
theorem xdo_mono {i:Nat} {o:Oper} {K K':F.σ→Act→Prop} {L:F.σ} {a:Act} (h:∀L a,K L a→K' L a) (hh:xdo ops F i o K L a):xdo ops F i o K' L a:=by
 unfold xdo at*
 split
 ·rename_i h1;rw[if_pos h1] at hh;exact⟨hh.choose,hh.choose_spec.1,fun L' u hr=>⟨(hh.choose_spec.2 L' u hr).1,h _ _ (hh.choose_spec.2 L' u hr).2⟩⟩
 ·rename_i h1;rw[if_neg h1] at hh;exact⟨hh.choose,hh.choose_spec.1,hh.choose_spec.2.1,h _ _ hh.choose_spec.2.2⟩
def wpX (ops:Array Oper) (F:Flow) (Qf:F.σ→Act→Prop):Nat→Array Bool→F.σ→Act→Prop
 |0,listed,L,a=>Region.ready .any ops listed=[]∧Qf L a
 |f+1,listed,L,a=>(Region.ready .any ops listed=[]→Qf L a)∧
  ∀i∈Region.ready .any ops listed,xstep ops F i (wpX ops F Qf f (listed.setIfInBounds i true)) L a
theorem wpAny_of_X (hg:∀(i:Nat) (o:Oper),ops[i]? =some o→F.special i=true→o.guard=none) {Q':Exit→Act→World→Prop} (hQ:∀L a w,F.I L w→Qf L a→Q' .normal a w):
  ∀(fuel:Nat) (listed:Array Bool) (L:F.σ) (a:Act) (w:World),F.I L w→wpX ops F Qf fuel listed L a→wpAny Tryz.prog .any ops Q' fuel listed a w
 |0,_,_,_,_,hw,h=>⟨h.1,hQ _ _ _ hw h.2⟩
 |fuel+1,listed,L,a,w,hw,h=>⟨fun h0=>hQ _ _ _ hw (h.1 h0),fun i hir=>by
   have hx:=h.2 i hir
   unfold xstep at hx
   unfold wpOp
   cases ho:ops[i]? with
   |none=>rw[ho] at hx;exact hx.elim
   |some o=>
    rw[ho] at hx
    simp only at hx ⊢
    unfold xdo at hx
    split at hx
    ·rename_i hsi
     obtain⟨R,hsp,hk⟩:=hx
     have hwant:Region.wanted o (yielded ops a.tmps)=true:=by unfold Region.wanted;rw[hg i o ho hsi]
     rw[if_pos hwant]
     left
     unfold Oper.wp
     rcases hsp w hw with⟨u,w',L',hr,hR,hst⟩ |⟨w',L',hr,hR,hst⟩ |⟨f,args,hr,hcall⟩
     ·rw[hr]
      exact wpAny_of_X hg hQ fuel _ _ _ _ hst (hk _ _ hR).2
     ·rw[hr]
      exact wpAny_of_X hg hQ fuel _ _ _ _ hst (hk _ _ hR).2
     ·rw[hr]
      exact hcall.mono fun e w' ⟨u,L',he,hR,hst⟩=>by subst he;exact wpAny_of_X hg hQ fuel _ _ _ _ hst (hk _ _ hR).2
    ·obtain⟨v,hq,hc,hk⟩:=hx
     rcases hq with⟨hwant,hq⟩ |⟨hwant,rfl⟩
     ·rw[if_pos hwant]
      exact Or.inl (hq.wp (hc w hw) (fun w' hb=>wpAny_of_X hg hQ fuel _ _ _ _ (F.below _ _ _ hw hb) hk))
     ·rw[if_neg (by rw[hwant];simp)]
      exact wpAny_of_X hg hQ fuel _ _ _ _ hw hk⟩
theorem wpX_first {i:Nat} {oi:Oper} {v:Value} (hi:ops[i]? =some oi) (his:F.special i=false) (hsel:∀(j:Nat) (o:Oper) cs b,ops[j]? =some o→o.op≠.select cs b)
  (hlate:∀(j:Nat) (oj:Oper),ops[j]? =some oj→F.late j=true→F.pure i=false→∃e∈oj.after,Region.binds .any e=true∧e.on=i):
  ∀(fuel:Nat) (listed:Array Bool) (L:F.σ) (a:Act),
   (∀j oj,ops[j]? =some oj→j≠i→listed.getD j true=false→(∀e∈oj.after,Region.binds .any e=true→e.on≠i)→oi.apart ops oj=true)→
   i∈Region.ready .any ops listed→Fx.YX ops (F.cls i) oi a v→(∀w,F.I L w→F.cls i w)→
   wpX ops F Qf fuel (listed.setIfInBounds i true) L (a.put oi.dst v)→wpX ops F Qf (fuel+1) listed L a:=by
 have taken:∀(K:F.σ→Act→Prop) (L:F.σ) (a:Act),Fx.YX ops (F.cls i) oi a v→(∀w,F.I L w→F.cls i w)→K L (a.put oi.dst v)→xstep ops F i K L a:=fun K L a hy hc H=>by
  unfold xstep
  rw[hi]
  show xdo _ _ _ _ _ _ _
  unfold xdo
  rw[his,if_neg (by simp)]
  exact⟨v,hy,hc,H⟩
 intro fuel
 induction fuel with
 |zero=>
  intro listed L a _ hr hy hc H
  refine⟨fun h=>(by rw[h] at hr;cases hr),fun j hj=>?_⟩
  by_cases hji:j=i
  ·subst hji;exact taken _ _ _ hy hc H
  ·have:=ready_mono hj hji
   rw[H.1] at this
   cases this
 |succ fuel ih=>
  intro listed L a hfree hr hy hc H
  refine⟨fun h=>(by rw[h] at hr;cases hr),fun j hj=>?_⟩
  by_cases hji:j=i
  ·subst hji;exact taken _ _ _ hy hc H
  ·have h1:=H.2 j (ready_mono hj hji)
   obtain⟨hjun,oj,hoj,hall⟩:=mem_ready.1 hj
   have hnot:∀e∈oj.after,Region.binds .any e=true→e.on≠i:=fun e he hb heq=>by
    have h1:=hall e he hb
    have h0:=(mem_ready.1 hr).1
    rw[heq] at h1
    rcases Nat.lt_or_ge i listed.size with h' |h'
    ·simp[h'] at h0 h1;rw[h0] at h1;cases h1
    ·simp[Array.getElem?_eq_none h'] at h1
   obtain⟨p1,p2,p3⟩:=Oper.apart_spec (hfree j oj hoj hji hjun hnot)
   have hfree':∀k ok,ops[k]? =some ok→k≠i→(listed.setIfInBounds j true).getD k true=false→
     (∀e∈ok.after,Region.binds .any e=true→e.on≠i)→oi.apart ops ok=true:=fun k ok hk hki hun hno=>by
    refine hfree k ok hk hki ?_ hno
    by_cases hjk:j=k
    ·subst hjk;exact hjun
    ·rw[getD_set_ne true hjk] at hun;exact hun
   have next:∀(L':F.σ) (u:Value),(∀w,F.I L' w→F.cls i w)→wpX ops F Qf fuel ((listed.setIfInBounds i true).setIfInBounds j true) L' ((a.put oi.dst v).put oj.dst u)→
     wpX ops F Qf (fuel+1) (listed.setIfInBounds j true) L' (a.put oj.dst u):=fun L' u hc' hh=>by
    refine ih (listed.setIfInBounds j true) L' _ hfree' (ready_mono hr (Ne.symm hji)) (hy.put (fun cs b=>hsel i oi cs b hi) p3) hc' ?_
    rw[Array.setIfInBounds_comm _ _ hji,←Act.put_comm a v u p2]
    exact hh
   unfold xstep at h1 ⊢
   rw[hoj] at h1 ⊢
   simp only at h1 ⊢
   unfold xdo at h1 ⊢
   by_cases hjs:F.special j=true
   ·rw[if_pos hjs] at h1 ⊢
    obtain⟨R,hsp,hk⟩:=h1
    rw[execOp_put oj (fun cs b=>hsel j oj cs b hoj) a oi.dst v p1] at hsp
    refine⟨R,hsp,fun L' u hR=>⟨(hk L' u hR).1,next _ _ ?_ (hk L' u hR).2⟩⟩
    intro w hw
    cases hp:F.pure i with
    |true=>exact Or.inl hp
    |false=>
     rcases(hk L' u hR).1 with h2 |h2
     ·obtain⟨e,he,hb,hon⟩:=hlate j oj hoj h2 hp
      exact absurd hon (hnot e he hb)
     ·exact Or.inr (h2 w hw)
   ·rw[if_neg hjs] at h1 ⊢
    obtain⟨u,hu,hcj,hk⟩:=h1
    exact⟨u,hu.unput (fun cs b=>hsel j oj cs b hoj) p1,hcj,next _ _ hc hk⟩
def wpLX (ops:Array Oper) (F:Flow) (Qf:F.σ→Act→Prop):List Nat→F.σ→Act→Prop
 | [],L,a=>Qf L a
 |i::is,L,a=>xstep ops F i (wpLX ops F Qf is) L a
theorem wpX_lex (hs:Region.noSelect ops=true) (hl8:Fx.lateX ops F.special F.pure F.late=true):∀(l:List Nat) (listed:Array Bool) (L:F.σ) (a:Act),
  Fx.lexX ops F.special l listed=true→wpLX ops F Qf l L a→wpX ops F Qf l.length listed L a
 | [],_,_,_,hB,h=>⟨by simpa[Fx.lexX] using hB,h⟩
 |k::l,listed,L,a,hB,h=>by
  simp only[Fx.lexX,Bool.and_eq_true] at hB
  obtain⟨hr,hB'⟩:=hB
  have ih:=fun L a=>wpX_lex hs hl8 l (listed.setIfInBounds k true) L a hB'
  have h:xstep ops F k (wpLX ops F Qf l) L a:=h
  cases h0:ops[k]? with
  |none=>unfold xstep at h;rw[h0] at h;exact h.elim
  |some o=>
  have h':xdo ops F k o (wpLX ops F Qf l) L a:=by unfold xstep at h;rw[h0] at h;exact h
  cases hk:F.special k with
  |true=>
   rw[hk] at hr
   have hr':Region.ready .any ops listed=[k]:=by simpa using hr
   refine⟨fun e=>(by rw[hr'] at e;cases e),fun i hi=>?_⟩
   rw[hr'] at hi
   obtain rfl:i=k:=by simpa using hi
   unfold xstep
   rw[h0]
   exact xdo_mono ih h'
  |false=>
   rw[hk] at hr
   simp only[Bool.false_eq_true,if_false,Bool.and_eq_true] at hr
   unfold xdo at h'
   rw[hk,if_neg (by simp)] at h'
   obtain⟨v,hq,hc,hk'⟩:=h'
   refine wpX_first h0 hk (Region.noSelect_spec hs) (fun j oj hj hlj hpi=>?_) l.length listed L a (Region.free_spec h0 hr.2) (by simpa using hr.1) hq hc (ih _ _ hk')
   have h1:=List.all_eq_true.1 hl8 j (List.mem_range.2 (Array.getElem?_eq_some_iff.1 hj).1)
   rw[hlj] at h1
   simp only[Bool.not_true,Bool.false_or] at h1
   have h2:=List.all_eq_true.1 h1 k (List.mem_range.2 (Array.getElem?_eq_some_iff.1 h0).1)
   rw[hk,hpi,hj] at h2
   simp only[Bool.false_or] at h2
   obtain⟨e,he,hb⟩:=Array.any_eq_true'.1 h2
   simp only[Bool.and_eq_true,beq_iff_eq] at hb
   exact⟨e,he,hb.1,hb.2⟩
theorem wp_region_flow {id:Nat} {Q':Exit→Act→World→Prop} {a:Act} {w:World} {l:List Oper} (F:Flow) {L:F.σ} (order:List Nat) (hlen:order.length=l.length) (hst:F.I L w) (hm:Tryz.prog.follows .mixedOrders=true)
  (hg:(List.range l.length).all (fun i=> !F.special i||(match l[i]? with |some o=>o.guard.isNone |none=>true))=true) (hs:Region.noSelect l.toArray=true) (hlex:Fx.lexX l.toArray F.special order (Array.replicate l.length false)=true) (hl8:Fx.lateX l.toArray F.special F.pure F.late=true)
  (h:wpLX l.toArray F (fun L' a'=>∀w',F.I L' w'→Q' .normal a' w') order L a):(Code.region id l.toArray true).wp Tryz.prog Q' a w:=by
 refine wp_region_any hm (wpAny_of_X (F:=F) (Qf:=fun L' a'=>∀w',F.I L' w'→Q' .normal a' w') (fun i o ho hsi=>?_) (fun L' a' w' hd hq=>hq w' hd) _ _ L _ _ (F.below _ _ _ hst (Below.refl _ _).drew) ?_)
 ·have ho':l[i]? =some o:=by simpa using ho
  have h1:=List.all_eq_true.1 hg i (List.mem_range.2 (List.getElem?_eq_some_iff.1 ho').1)
  simp only[hsi,ho'] at h1
  simpa using h1
 ·have:=wpX_lex (F:=F) (Qf:=fun L' a'=>∀w',F.I L' w'→Q' .normal a' w') hs hl8 order (Array.replicate l.length false) L a hlex h
  rw[hlen] at this
  simpa using this
variable {l:List Nat} {k:Nat} {o:Oper} {L:F.σ} {a:Act} {r:List (Nat×Value)}
theorem stp (h0:Fx.nthO ops.toList k=some o) (hs:F.special k=false) (v:Value) (hy:Fx.YX ops (F.cls k) o (Fx.mkO r a) v) (hc:∀w,F.I L w→F.cls k w) (hk:wpLX ops F Qf l L (Fx.mkO (Fx.nxt o.dst v r) a)):wpLX ops F Qf (k::l) L (Fx.mkO r a):=by
 show xstep _ _ _ _ _ _
 unfold xstep
 rw[Fx.nth_some h0]
 show xdo _ _ _ _ _ _ _
 unfold xdo
 rw[hs,if_neg (by simp)]
 exact⟨v,hy,hc,by rw[←Fx.mkO_nxt];exact hk⟩
theorem val (h0:Fx.nthO ops.toList k=some o) (hs:F.special k=false) (hp:F.pure k=true) (hw:Region.wanted o (yielded ops (Fx.mkO r a).tmps)=true) {v:Value} (h:∀w,(execOp (Fx.evO r a) o).run Tryz.prog w=.ok (.value v) w) (hk:wpLX ops F Qf l L (Fx.mkO (Fx.nxt o.dst v r) a)):wpLX ops F Qf (k::l) L (Fx.mkO r a):=
 stp h0 hs v (Or.inl ⟨hw,fun w _=>by unfold Oper.quietAt;rw[←Fx.evO_eq,h w];exact⟨rfl,rfl⟩⟩) (fun w _=>Or.inl hp) hk
theorem skip (h0:Fx.nthO ops.toList k=some o) (hs:F.special k=false) (hw:Region.wanted o (yielded ops (Fx.mkO r a).tmps)=false) (hp:F.pure k=true) (hk:wpLX ops F Qf l L (Fx.mkO (Fx.nxt o.dst undef r) a)):wpLX ops F Qf (k::l) L (Fx.mkO r a):=
 stp h0 hs undef (Or.inr ⟨hw,rfl⟩) (fun w _=>Or.inl hp) hk
theorem skipB (h0:Fx.nthO ops.toList k=some o) (hs:F.special k=false) (hw:Region.wanted o (yielded ops (Fx.mkO r a).tmps)=false) (hB:∀w,F.I L w→F.B w) (hk:wpLX ops F Qf l L (Fx.mkO (Fx.nxt o.dst undef r) a)):wpLX ops F Qf (k::l) L (Fx.mkO r a):=
 stp h0 hs undef (Or.inr ⟨hw,rfl⟩) (fun w hw=>Or.inr (hB w hw)) hk
theorem rd (h0:Fx.nthO ops.toList k=some o) (hs:F.special k=false) (hp:F.pure k=false) (hw:Region.wanted o (yielded ops (Fx.mkO r a).tmps)=true) {v:Value} (hB:∀w,F.I L w→F.B w) (h:∀w,F.B w→(execOp (Fx.evO r a) o).run Tryz.prog w=.ok (.value v) w) (hk:wpLX ops F Qf l L (Fx.mkO (Fx.nxt o.dst v r) a)):wpLX ops F Qf (k::l) L (Fx.mkO r a):=
 stp h0 hs v (Or.inl ⟨hw,fun w hw'=>by
  rcases hw' with h1 |h1
  ·rw[hp] at h1;cases h1
  ·unfold Oper.quietAt;rw[←Fx.evO_eq,h w h1];exact⟨rfl,rfl⟩⟩) (fun w hw'=>Or.inr (hB w hw')) hk
theorem call (h0:Fx.nthO ops.toList k=some o) (hs:F.special k=false) {f:FuncId} {args:Array Value} {v:Value} (hc:∀w,Calls Tryz.prog f args w (Ret v w)) (hp:F.pure k=true) (hw:Region.wanted o (yielded ops (Fx.mkO r a).tmps)=true) (h:∀w,(execOp (Fx.evO r a) o).run Tryz.prog w=.ok (.enter f args) w) (hk:wpLX ops F Qf l L (Fx.mkO (Fx.nxt o.dst v r) a)):wpLX ops F Qf (k::l) L (Fx.mkO r a):=
 stp h0 hs v (Or.inl ⟨hw,fun w _=>by unfold Oper.quietAt;rw[←Fx.evO_eq,h w];exact⟨rfl,hc w⟩⟩) (fun w _=>Or.inl hp) hk
theorem callB (h0:Fx.nthO ops.toList k=some o) (hs:F.special k=false) {f:FuncId} {args:Array Value} {v:Value} (hB:∀w,F.I L w→F.B w) (hc:∀w,F.B w→Calls Tryz.prog f args w (Ret v w)) (hp:F.pure k=false) (hw:Region.wanted o (yielded ops (Fx.mkO r a).tmps)=true) (h:∀w,(execOp (Fx.evO r a) o).run Tryz.prog w=.ok (.enter f args) w) (hk:wpLX ops F Qf l L (Fx.mkO (Fx.nxt o.dst v r) a)):wpLX ops F Qf (k::l) L (Fx.mkO r a):=
 stp h0 hs v (Or.inl ⟨hw,fun w hw'=>by
  rcases hw' with h1 |h1
  ·rw[hp] at h1;cases h1
  ·unfold Oper.quietAt;rw[←Fx.evO_eq,h w];exact⟨rfl,hc w h1⟩⟩) (fun w hw'=>Or.inr (hB w hw')) hk
theorem spec (h0:Fx.nthO ops.toList k=some o) (hs:F.special k=true) (R:F.σ→Value→Prop) (hsp:SP F L (execOp (Fx.evO r a) o) R) (hk:∀L' u,R L' u→(F.late k=true∨∀w,F.I L' w→F.B w)∧wpLX ops F Qf l L' (Fx.mkO (Fx.nxt o.dst u r) a)):wpLX ops F Qf (k::l) L (Fx.mkO r a):=by
 show xstep _ _ _ _ _ _
 unfold xstep
 rw[Fx.nth_some h0]
 show xdo _ _ _ _ _ _ _
 unfold xdo
 rw[if_pos hs]
 rw[Fx.evO_eq] at hsp
 exact⟨R,hsp,fun L' u hr=>⟨(hk L' u hr).1,by rw[←Fx.mkO_nxt];exact(hk L' u hr).2⟩⟩
end
end Go.Proofs.YtdkeiefgkgpcbaaGreatDoor.Fm
namespace Go.Proofs.YtdkeiefgkgpcbaaGreatDoor
open Go.RowKit
structure Gr where
 key:Int
 val:Value
 born:Nat
def Gr.ent (g:Gr):MapEntry:=⟨.int .i64 g.key,g.val,g.born⟩
def mapO (gs:List Gr) (clock:Nat):Obj:=.map (gs.map Gr.ent).toArray clock
def gfind (n:Int):List Gr→Nat→Option (Nat×Value)
 | [],_=>none
 |g::gs,i=>if n=g.key then some (i,g.val) else gfind n gs (i+1)
theorem findNow_gs (n:Int):∀(gs:List Gr) (i:Nat),Instr.findNow (.int .i64) (.int .i64 n) (gs.map Gr.ent) i=some (gfind n gs i)
 | [],_=>rfl
 |g::gs,i=>by
  have ih:=findNow_gs n gs (i+1)
  by_cases h:n=g.key
  ·simp[Instr.findNow,Instr.sameNow,Gr.ent,gfind,h]
  ·simp only[List.map_cons,Instr.findNow,Instr.sameNow,Gr.ent,gfind,if_neg h]
   have:(n==g.key)=false:=by simpa using h
   simp only[this,if_true]
   exact ih
theorem gfind_none {n:Int}:∀ {gs:List Gr} {i:Nat},(∀g∈gs,g.key≠n)→gfind n gs i=none
 | [],_,_=>rfl
 |g::gs,i,h=>by
  unfold gfind
  rw[if_neg (fun e=>h g (by simp) e.symm)]
  exact gfind_none (fun x hx=>h x (List.mem_cons_of_mem _ hx))
theorem gfind_at {n:Int} {g:Gr} {b:List Gr} (hg:g.key=n):∀ {a:List Gr} {i:Nat},(∀x∈a,x.key≠n)→gfind n (a++g::b) i=some (i+a.length,g.val)
 | [],i,_=>by simp[gfind,hg]
 |x::a,i,h=>by
  rw[List.cons_append]
  unfold gfind
  rw[if_neg (fun e=>h x (by simp) e.symm),gfind_at hg (fun y hy=>h y (List.mem_cons_of_mem _ hy)),List.length_cons]
  congr 2
  omega
theorem gsplit (n:Int):∀gs:List Gr,(∀g∈gs,g.key≠n)∨∃a g b,gs=a++g::b∧g.key=n∧∀x∈a,x.key≠n
 | []=>Or.inl (by simp)
 |g::gs=>by
  by_cases h:g.key=n
  ·exact Or.inr ⟨[],g,gs,rfl,h,by simp⟩
  ·rcases gsplit n gs with h1 |⟨a,x,b,rfl,hx,ha⟩
   ·exact Or.inl (fun x hx=>by rcases List.mem_cons.1 hx with rfl |hx;exact h;exact h1 x hx)
   ·exact Or.inr ⟨g::a,x,b,rfl,hx,fun y hy=>by rcases List.mem_cons.1 hy with rfl |hy;exact h;exact ha y hy⟩
def gput (gs:List Gr) (clock:Nat) (n:Int) (v:Value):List Gr×Nat:=
 match gfind n gs 0 with
 |some p=>(gs.modify p.1 fun g=>{g with val:=v},clock)
 |none=>(gs++[⟨n,v,clock⟩],clock+1)
def glook (gs:List Gr) (n:Int) (z:Value):Value:=match gfind n gs 0 with |some p=>p.2 |none=>z
class MapT (T:TypeId) (E:outParam TypeId):Prop where
 run:∃K,Tryz.prog.underlying T=some (.map K E)∧Tryz.prog.underlying K=some (.int .i64)
section
variable {T E:TypeId} {w:World} {m:Nat} {gs:List Gr} {clock:Nat} {n:Int} {v z:Value}
theorem run_glook [t:MapT T E] (hz:(zeroValue E).run Tryz.prog w=.ok z w) (hb:w.heap[m]? =some (mapO gs clock)):(Instr.lookup T (.map (some m)) (.int .i64 n) false).run Tryz.prog w=.ok (glook gs n z) w:=by
 obtain⟨K,h1,h2⟩:=t.run
 have hc:∀e,(Instr.checkKey e 10000 K (.int .i64 n)).run Tryz.prog w=.ok () w:=fun e=>MapKept.run_checkKey (k:=.int .i64 n) h2 rfl e 9999
 have hf:=findNow_gs n gs 0
 have hk:=MapKept.run_findKey (P:=Tryz.prog) (w:=w) (kt:=K) (k:=.int .i64 n) (l:=gs.map Gr.ent) h2 hf
 have ho:=MapKept.run_getObj_map (P:=Tryz.prog) (w:=w) (r:=m) hb
 unfold Instr.lookup glook
 cases hg:gfind n gs 0 with
 |none=>rw[hg] at hk;simp[Sem.run_bind,run_underlying h1,ho,hc,hk,hz]
 |some p=>rw[hg] at hk;simp[Sem.run_bind,run_underlying h1,ho,hc,hk]
theorem run_gput [t:MapT T E] (hb:w.heap[m]? =some (mapO gs clock)):(Instr.mapUpdate T (.map (some m)) (.int .i64 n) v).run Tryz.prog w=.ok () {w with heap:=w.heap.setIfInBounds m (mapO (gput gs clock n v).1 (gput gs clock n v).2)}:=by
 obtain⟨K,h1,h2⟩:=t.run
 have hc:(Instr.checkKey false 10000 K (.int .i64 n)).run Tryz.prog w=.ok () w:=MapKept.run_checkKey (k:=.int .i64 n) h2 rfl false 9999
 have hf:=findNow_gs n gs 0
 have hk:=MapKept.run_findKey (P:=Tryz.prog) (w:=w) (kt:=K) (k:=.int .i64 n) (l:=gs.map Gr.ent) h2 hf
 have ho:=MapKept.run_getObj_map (P:=Tryz.prog) (w:=w) (r:=m) hb
 have hs:=fun o=>MapKept.run_setObj_map (P:=Tryz.prog) (w:=w) (r:=m) o hb
 unfold Instr.mapUpdate gput
 rcases gsplit n gs with h |⟨a,g,b,hgs,hg,ha⟩
 ·rw[gfind_none h] at hk ⊢
  simp[Sem.run_bind,run_underlying h1,ho,hc,hk,hs,mapO,Gr.ent]
 ·have hfi:gfind n gs 0=some (a.length,g.val):=by rw[hgs,gfind_at hg ha,Nat.zero_add]
  have hgi:gs[a.length]? =some g:=by rw[hgs];simp
  generalize a.length=i at*
  clear hgs ha
  rw[hfi] at hk ⊢
  have e1:((gs.map Gr.ent).toArray[i]?).map (·.key)=some (.int .i64 n):=by
   rw[List.getElem?_toArray,List.getElem?_map,hgi]
   simp[Gr.ent,hg]
  have e2:(Instr.keyThatStays (.int .i64 n) (.int .i64 n)).run Tryz.prog w=.ok (.int .i64 n) w:=by
   unfold Instr.keyThatStays
   rw[if_pos (by simp[Instr.sameBits])]
   rfl
  have e3:((gs.map Gr.ent).toArray.modify i fun e=>{e with key:=.int .i64 n,val:=v})=((gs.modify i fun g=>{g with val:=v}).map Gr.ent).toArray:=by
   apply Array.ext_getElem?
   intro j
   rw[Array.getElem?_modify,List.getElem?_toArray,List.getElem?_toArray,List.getElem?_map,List.getElem?_map,List.getElem?_modify]
   by_cases hj:i=j
   ·subst hj
    rw[if_pos rfl,hgi]
    simp[Gr.ent,hg]
   ·rw[if_neg hj]
    simp[hj]
  generalize gs.map Gr.ent=G at*
  simp only[Sem.run_bind,run_underlying h1,Result.andThen_ok,ho,hc,hk,e1,Option.getD_some,e2,e3,hs,mapO]
end
structure Mx (S:List Nat) (w0 w:World) (L:List Blk) (D:Dat) (m:Nat) (o:Obj):Prop where
 sx:Sx S w0 w L D [m]
 ob:w.heap[m]? =some o
section
variable {S:List Nat} {w0 w1 w w':World} {L L1:List Blk} {D:Dat} {m:Nat} {o:Obj}
theorem Mx.below (h:Mx S w0 w L D m o) (hb:Below w.heap.size w w'):Mx S w0 w' L D m o:=
 ⟨h.sx.below hb,(hb.block m (h.sx.flt m (by simp))).trans h.ob⟩
theorem Mx.perm {L':List Blk} (h:Mx S w0 w L D m o) (hp:L.Perm L'):Mx S w0 w L' D m o:=⟨h.sx.perm hp,h.ob⟩
theorem Mx.drop {b:Blk} (h:Mx S w0 w (b::L) D m o):Mx S w0 w L D m o:=⟨h.sx.drop,h.ob⟩
theorem Mx.dropL (h:Mx S w0 w (L1++L) D m o):Mx S w0 w L D m o:=⟨h.sx.dropL,h.ob⟩
theorem Mx.start (h:Mx S w0 w L D m o):Sx (L.map (·.1)) w w L D []:=
 ⟨⟨rfl,rfl,rfl,Nat.le_refl _,fun _ _ _=>rfl,fun p hp=>Or.inr (List.mem_map.2 ⟨p,hp,rfl⟩),h.sx.st.nodup,h.sx.st.blk⟩,h.sx.data,h.sx.apart,fun x hx=>by simp at hx,fun x hx=>by simp at hx,fun x hx=>by simp at hx,fun x hx=>by simp at hx⟩
theorem Mx.move (h:Mx S w0 w1 L1 D m o) (hs:Sx (L1.map (·.1)) w1 w L D []):Mx S w0 w L D m o:=by
 have hm:=h.sx.flt m (by simp)
 have hmL:m∉L1.map (·.1):=fun hx=>by
  obtain⟨p,hp,e⟩:=List.mem_map.1 hx
  exact h.sx.fL m (by simp) p hp e
 have hown:∀p∈L,w1.heap.size≤p.1∨∃q∈L1,q.1=p.1:=fun p hp=>by
  rcases hs.st.own p hp with h1 |h1
  ·exact Or.inl h1
  ·obtain⟨q,hq,e⟩:=List.mem_map.1 h1
   exact Or.inr ⟨q,hq,e⟩
 refine⟨⟨⟨hs.st.os.trans h.sx.st.os,hs.st.tape.trans h.sx.st.tape,hs.st.output.trans h.sx.st.output,Nat.le_trans h.sx.st.size hs.st.size,fun j hj hjS=>?_,fun p hp=>?_,hs.st.nodup,hs.st.blk⟩,hs.data,hs.apart,fun x hx=>?_,fun x hx p hp=>?_,h.sx.fD,h.sx.fS⟩,(hs.st.kept m hm hmL).trans h.ob⟩
 ·refine(hs.st.kept j (Nat.lt_of_lt_of_le hj h.sx.st.size) (fun hx=>?_)).trans (h.sx.st.kept j hj hjS)
  obtain⟨p,hp,rfl⟩:=List.mem_map.1 hx
  rcases h.sx.st.own p hp with h1 |h1
  ·omega
  ·exact hjS h1
 ·rcases hown p hp with h1 |⟨q,hq,e⟩
  ·exact Or.inl (Nat.le_trans h.sx.st.size h1)
  ·rw[←e];exact h.sx.st.own q hq
 ·simp at hx;subst hx;exact Nat.lt_of_lt_of_le hm hs.st.size
 ·simp at hx;subst hx
  rcases hown p hp with h1 |⟨q,hq,e⟩
  ·omega
  ·rw[←e];exact h.sx.fL x (by simp) q hq
theorem Mx.set {o':Obj} (h:Mx S w0 w L D m o):Mx S w0 {w with heap:=w.heap.setIfInBounds m o'} L D m o':=by
 have hm:=h.sx.flt m (by simp)
 have hne:∀j,j≠m→(w.heap.setIfInBounds m o')[j]? =w.heap[j]? :=fun j hj=>by simp[Ne.symm hj]
 refine⟨⟨⟨h.sx.st.os,h.sx.st.tape,h.sx.st.output,by simpa using h.sx.st.size,fun j hj hjS=>?_,h.sx.st.own,h.sx.st.nodup,fun p hp=>?_⟩,fun p hp=>?_,h.sx.apart,fun x hx=>by simpa using h.sx.flt x hx,h.sx.fL,h.sx.fD,h.sx.fS⟩,by simp[hm]⟩
 ·refine(hne j (fun e=>?_)).trans (h.sx.st.kept j hj hjS)
  subst e
  rcases h.sx.fS j (by simp) with h1 |h1
  ·exact hjS h1
  ·omega
 ·exact(hne p.1 (h.sx.fL m (by simp) p hp)).trans (h.sx.st.blk p hp)
 ·obtain⟨z,hz⟩:=h.sx.data p hp
  exact⟨z,(hne p.1 (h.sx.fD m (by simp) p hp)).trans hz⟩
theorem Sx.newMap (h:Sx S w0 w L D []) (o:Obj):Mx S w0 (w.alloc o) L D w.heap.size o:=by
 have hb:Below w.heap.size w (w.alloc o):=(Below.refl _ _).alloc (Nat.le_refl _) _
 have h1:=h.below hb
 refine⟨⟨h1.st,h1.data,h1.apart,fun x hx=>?_,fun x hx p hp=>?_,fun x hx p hp=>?_,fun x hx=>?_⟩,heap_alloc_new w o⟩
 ·simp at hx;subst hx;simp
 ·simp at hx;subst hx;have:=h.st.lt p hp;omega
 ·simp at hx;subst hx;have:=h.data.lt hp;omega
 ·simp at hx;subst hx;exact Or.inr h.st.size
variable {ops:Array Oper} {rest:List Oper} {op:Oper} {a:Act} {Q:Exit→Act→World→Prop} {gs:List Gr} {clock:Nat} {T E:TypeId}
theorem xmm (hw:Region.wanted op (yielded ops a.tmps)=true) {T:TypeId} (ho:op.op=.makeMap T none) (h:Sx S w0 w L D [])
  (hk:∀m w',Mx S w0 w' L D m (mapO [] 0)→wpList Tryz.prog ops Q rest (a.put op.dst (.map (some m))) w'):wpList Tryz.prog ops Q (op::rest) a w:=
 BigFrame.wpList_want hw fun K hK=>by
  unfold Oper.wp execOp
  simp only[ho,Option.map_none,Sem.run_bind,run_makeMap,Result.andThen_ok]
  exact hK _ _ (hk _ _ (h.newMap _))
theorem xmu (hw:Region.wanted op (yielded ops a.tmps)=true) {x y v:Operand} (ho:op.op=.mapUpdate T x y v) [t:MapT T E] (hm:Mx S w0 w1 L1 D m (mapO gs clock)) (hs:Sx (L1.map (·.1)) w1 w L D []) {n:Int} {u:Value} (hx:a.eval x=.map (some m)) (hy:a.eval y=.int .i64 n) (hv:a.eval v=u)
  (hk:∀w',Mx S w0 w' L D m (mapO (gput gs clock n u).1 (gput gs clock n u).2)→wpList Tryz.prog ops Q rest (a.put op.dst undef) w'):wpList Tryz.prog ops Q (op::rest) a w:=
 BigFrame.wpList_want hw fun K hK=>by
  have hr:=run_gput (T:=T) (E:=E) (n:=n) (v:=u) (hm.move hs).ob
  unfold Oper.wp execOp
  simp only[ho,hx,hy,hv,Sem.run_bind,hr,Result.andThen_ok]
  exact hK _ _ (hk _ (hm.move hs).set)
end
end Go.Proofs.YtdkeiefgkgpcbaaGreatDoor
