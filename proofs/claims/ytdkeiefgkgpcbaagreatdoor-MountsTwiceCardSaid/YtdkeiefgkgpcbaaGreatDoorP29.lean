/- Steps of the proof: TtApply, TtApply2, TtAll, LoadGen. -/
import Derived.Test.YtdkeiefgkgpcbaaGreatDoorP28
set_option linter.unusedVariables false
set_option linter.unusedSimpArgs false
set_option maxRecDepth 100000
namespace Go.Proofs.YtdkeiefgkgpcbaaGreatDoor
open Go.RowKit
def goodT (clock:Int) (l:List Stm) (k:Nat):Bool:=match l[k]? with
 |some s=>(stmOk s&& !lateT clock s)&&decide (max (atN l s.name) 0=(k:Int))
 |none=>true
def ttOk (t:Tt):Bool:=decide (0≤t.clock)&&(decide (t.clock≤1073741824)&&(decide ((t.l.length:Int)≤8)&&(List.range t.l.length).all (goodT t.clock t.l)))
theorem tvOk_t (v:Tv):tvOk v=ttOk v.t:=by
 unfold tvOk ttOk Tv.t;simp only[List.length_map];congr 3;apply List.all_congr rfl;intro k;unfold goodAt goodT;rw[List.getElem?_map]
 cases v.l[k]? with
 |none=>rfl
 |some x=>simp only[Option.map_some,ttAt_map]
def applyTt (t:Tt) (e:Ent):Tt×Int:=
 if ttOk t=false then(tt0,2) else if e.kind=1 then createF t e.name else if e.stream<0∨(t.l.length:Int)≤e.stream then(tt0,4) else if e.kind=2∧t.clock<e.n then(tt0,2)
 else if(applySm (t.l.getD e.stream.toNat stm0) e).2=0 then(⟨t.clock,t.l.set e.stream.toNat (applySm (t.l.getD e.stream.toNat stm0) e).1⟩,0) else(tt0,(applySm (t.l.getD e.stream.toNat stm0) e).2)
section
variable {D:Dat} {p:Option Addr} {c:Nat} {clock:Int} {l:List Sv}
set_option maxHeartbeats 4000000 in
theorem ttapply_early (hv:TtAt D ⟨p,c,clock,l⟩) (e:Ent) (w:World) (hD:Holds D w) (er:Int)
  (h:(ttOk ⟨clock,l.map (·.s)⟩=false∧er=2)∨(ttOk ⟨clock,l.map (·.s)⟩=true∧e.kind≠1∧(e.stream<0∨(l.length:Int)≤e.stream)∧er=4)∨(ttOk ⟨clock,l.map (·.s)⟩=true∧e.kind=2∧0≤e.stream∧e.stream<l.length∧clock<e.n∧er=2)):
  Calls Tryz.prog 29 #[.agg [.int .i64 clock,.slice p l.length c].toArray,.agg (entL e).toArray] w (TtPost w D (tt0,er)):=by
 have hst:=Sx.start0 w hD;have HCk:=Lib.hid (fun wx hx=>ttcheck_calls hv wx hx);rw[tvOk_t] at HCk;have ht:(⟨p,c,clock,l⟩:Tv).t=⟨clock,l.map (·.s)⟩:=rfl;rw[ht] at HCk;clear ht hv;have hC:[.int .i64 clock,.slice p l.length c].toArray=tC clock (.slice p l.length c):=rfl;have hC1:(entL e).toArray=entC e:=rfl;rw[hC,hC1];clear hC hC1;rcases h with⟨hk,rfl⟩ |⟨hk,h1,h2,rfl⟩ |⟨hk,h1,h2,h3,h4,rfl⟩
 ·rw[hk] at HCk
  clear hk;go_enter Tryz.func29,Tryz.ntmps29;go_wp2_with (first|(with_reducible (refine xval rfl 12 rfl (.agg [.int .i64 0,.slice none 0 0].toArray) (fun w=>by kernel_rfl) ?_))|((with_reducible refine xbaS 2 rfl rfl rfl hst rfl ?_);clear hst;intro b2 w' hst)|((with_reducible refine xbaS 3 rfl rfl rfl hst rfl ?_);clear hst;intro b3 w' hst)|(with_reducible refine xnwS 4 rfl rfl rfl hst ?_;clear hst;intro b4 w' hst)|(with_reducible first|refine xa rfl rfl rfl hst ?_|(refine xsa rfl rfl rfl rfl hst ?_;clear hst;intro w' hst))|(with_reducible (refine callB (HCk.out _ hst.data) hst ?_;clear hst;intro w' hst)));refine bodyPost_ret (results2 rfl (res_agg rfl hst.st.has) res_tmp) rfl ⟨tv0,[],rfl,rfl,TtAt.zero _,hst.drop.drop.drop.st⟩
 ·rw[hk] at HCk
  have HK1:=Lib.hid (show decide (e.kind=1)=false from decide_eq_false h1);obtain⟨b1,g1⟩:∃b,decide (e.stream<0)=b:=⟨_,rfl⟩;obtain⟨b2',g2⟩:∃b,decide ((l.length:Int)≤e.stream)=b:=⟨_,rfl⟩
  have hb:b1=true∨(b1=false∧b2'=true):=by
   cases b1 with
   |true=>exact Or.inl rfl
   |false=>exact Or.inr ⟨rfl,by
     rcases h2 with h2 |h2
     ·have:=of_decide_eq_false g1;omega
     ·rw[←g2];exact decide_eq_true h2⟩
  replace g1:=Lib.hid g1;replace g2:=Lib.hid g2;clear hk h1 h2;rcases hb with rfl |⟨rfl,rfl⟩
  all_goals
   go_enter Tryz.func29,Tryz.ntmps29;go_wp2_with (first|(with_reducible (refine xval rfl 16 rfl _ (fun w=>Fx.e_eql rfl rfl rfl HK1.out w) ?_))|(with_reducible (refine xval rfl 26 rfl _ (fun w=>Fx.e_lss rfl rfl rfl g1.out w) ?_))|(with_reducible (refine xval rfl 33 rfl _ (fun w=>Fx.e_geq rfl rfl rfl g2.out w) ?_))|(with_reducible (refine xval rfl 35 rfl (.agg [.int .i64 0,.slice none 0 0].toArray) (fun w=>by kernel_rfl) ?_))|((with_reducible refine xbaS 2 rfl rfl rfl hst rfl ?_);clear hst;intro b2 w' hst)|((with_reducible refine xbaS 3 rfl rfl rfl hst rfl ?_);clear hst;intro b3 w' hst)|(with_reducible refine xnwS 4 rfl rfl rfl hst ?_;clear hst;intro b4 w' hst)|(with_reducible first|refine x1 rfl rfl rfl hst ?_|refine xa rfl rfl rfl hst ?_|(refine xsa rfl rfl rfl rfl hst ?_;clear hst;intro w' hst))|(with_reducible (refine callB (HCk.out _ hst.data) hst ?_;clear hst;intro w' hst)));refine bodyPost_ret (results2 rfl (res_agg rfl hst.st.has) res_tmp) rfl ⟨tv0,[],rfl,rfl,TtAt.zero _,hst.drop.drop.drop.st⟩
 ·rw[hk] at HCk
  have HK1:=Lib.hid (show decide (e.kind=1)=false from decide_eq_false (by omega));have HK2:=Lib.hid (show decide (e.kind=2)=true from decide_eq_true h1);have g1:=Lib.hid (show decide (e.stream<0)=false from decide_eq_false (by omega));have g2:=Lib.hid (show decide ((l.length:Int)≤e.stream)=false from decide_eq_false (by omega));have g3:=Lib.hid (show decide (clock<e.n)=true from decide_eq_true h4);clear hk h1 h2 h3 h4;go_enter Tryz.func29,Tryz.ntmps29;go_wp2_with (first|(with_reducible (refine xval rfl 16 rfl _ (fun w=>Fx.e_eql rfl rfl rfl HK1.out w) ?_))|(with_reducible (refine xval rfl 26 rfl _ (fun w=>Fx.e_lss rfl rfl rfl g1.out w) ?_))|(with_reducible (refine xval rfl 33 rfl _ (fun w=>Fx.e_geq rfl rfl rfl g2.out w) ?_))|(with_reducible (refine xval rfl 39 rfl _ (fun w=>Fx.e_eql rfl rfl rfl HK2.out w) ?_))|(with_reducible (refine xval rfl 45 rfl _ (fun w=>Fx.e_gtr rfl rfl rfl g3.out w) ?_))|(with_reducible (refine xval rfl 47 rfl (.agg [.int .i64 0,.slice none 0 0].toArray) (fun w=>by kernel_rfl) ?_))|((with_reducible refine xbaS 2 rfl rfl rfl hst rfl ?_);clear hst;intro b2 w' hst)|((with_reducible refine xbaS 3 rfl rfl rfl hst rfl ?_);clear hst;intro b3 w' hst)|(with_reducible refine xnwS 4 rfl rfl rfl hst ?_;clear hst;intro b4 w' hst)|(with_reducible first|refine x1 rfl rfl rfl hst ?_|refine xa rfl rfl rfl hst ?_|(refine xsa rfl rfl rfl rfl hst ?_;clear hst;intro w' hst))|(with_reducible (refine callB (HCk.out _ hst.data) hst ?_;clear hst;intro w' hst)));refine bodyPost_ret (results2 rfl (res_agg rfl hst.st.has) res_tmp) rfl ⟨tv0,[],rfl,rfl,TtAt.zero _,hst.drop.drop.drop.st⟩
set_option maxHeartbeats 4000000 in
theorem ttapply_create (hv:TtAt D ⟨p,c,clock,l⟩) (hl:l.length≤1000) (e:Ent) (hnm:e.name.size≤maxLen) (w:World) (hD:Holds D w) (hk:ttOk ⟨clock,l.map (·.s)⟩=true) (h1:e.kind=1):
  Calls Tryz.prog 29 #[.agg [.int .i64 clock,.slice p l.length c].toArray,.agg (entL e).toArray] w (TtPost w D (createF ⟨clock,l.map (·.s)⟩ e.name)):=by
 have hst:=Sx.start0 w hD;have HCk:=Lib.hid (fun wx hx=>ttcheck_calls hv wx hx);rw[tvOk_t] at HCk;have ht:(⟨p,c,clock,l⟩:Tv).t=⟨clock,l.map (·.s)⟩:=rfl;rw[ht,hk] at HCk;have HV:=Lib.hid hv;have HK1:=Lib.hid (show decide (e.kind=1)=true from decide_eq_true h1);clear ht hv hk h1;obtain⟨x,hx⟩:∃x,createF ⟨clock,l.map (·.s)⟩ e.name=x:=⟨_,rfl⟩;rw[hx];replace hx:=Lib.hid hx;have hC:[.int .i64 clock,.slice p l.length c].toArray=tC clock (.slice p l.length c):=rfl;have hC1:(entL e).toArray=entC e:=rfl;rw[hC,hC1];clear hC hC1;go_enter Tryz.func29,Tryz.ntmps29;go_wp2_with (first|(with_reducible (refine xval rfl 16 rfl _ (fun w=>Fx.e_eql rfl rfl rfl HK1.out w) ?_))|((with_reducible refine xbaS 2 rfl rfl rfl hst rfl ?_);clear hst;intro b2 w' hst)|((with_reducible refine xbaS 3 rfl rfl rfl hst rfl ?_);clear hst;intro b3 w' hst)|(with_reducible refine xnwS 4 rfl rfl rfl hst ?_;clear hst;intro b4 w' hst)|(with_reducible first|refine x1 rfl rfl rfl hst ?_|refine xa rfl rfl rfl hst ?_)|(with_reducible (refine callB (HCk.out _ hst.data) hst ?_;clear hst;intro w' hst)));refine(ttcreate_calls HV.out hl e.name hnm _ hst.data).mono ?_;rintro en w2 ⟨v',Lo,rfl,hvt,hTt,hs⟩;replace hst:=hst.take hs;clear hs;obtain⟨p',c',k',l'⟩:=v';rw[show(ttL ⟨p',c',k',l'⟩).toArray=[.int .i64 k',.slice p' l'.length c'].toArray from rfl];rw[hx.out] at hvt ⊢;go_wp2_with (with_reducible (refine xsa rfl rfl rfl rfl hst ?_;clear hst;intro w' hst));refine bodyPost_ret (results2 rfl (res_agg rfl hst.st.has) res_tmp) rfl ⟨⟨p',c',k',l'⟩,Lo,rfl,hvt,hTt,hst.takeL.st⟩
end
end Go.Proofs.YtdkeiefgkgpcbaaGreatDoor
namespace Go.Proofs.YtdkeiefgkgpcbaaGreatDoor
open Go.RowKit
namespace Fx
theorem wpOT_mono {ops:Array Oper} {F:Flow} {Qf Qf':List Blk→Act→Prop} (h:∀L a,Qf L a→Qf' L a):∀(t:OT) (L:List Blk) (a:Act),wpOT ops F Qf t L a→wpOT ops F Qf' t L a
 | .run l,L,a,hh=>wpLX_mono h l L a hh
 | .two pre _ t _ t',L,a,hh=>wpLX_mono (fun L a h2=>⟨xstep_mono (fun L a=>wpOT_mono h t L a) h2.1,xstep_mono (fun L a=>wpOT_mono h t' L a) h2.2⟩) pre L a hh
theorem goTP {id:Nat} {Q':Exit→Act→World→Prop} {a:Act} {w:World} {l:List Oper} {S:List Nat} {w0:World} {L:List Blk} {D:Dat} {O:List Nat} (special pure late:Nat→Bool) (order:OT) (hlen:order.fuel=l.length) (hst:Sx S w0 w L D O) (hm:Tryz.prog.follows .mixedOrders=true)
  (hg:(List.range l.length).all (fun i=> !special i||(match l[i]? with |some o=>o.guard.isNone |none=>true))=true) (hs:Region.noSelect l.toArray=true) (hlex:order.ok l.toArray special (Array.replicate l.length false)=true) (hl8:lateX l.toArray special pure late=true) (P:List Blk→Act→Prop)
  (h:wpOT l.toArray (FB S w0 L D O special pure late) P order L (mkO [] a)) (hk:∀L' a',P L' a'→∀w',Sx S w0 w' L' D O→Q' .normal a' w'):(Code.region id l.toArray true).wp Tryz.prog Q' a w:=
 goT special pure late order hlen hst hm hg hs hlex hl8 (wpOT_mono (fun L' a' hp w' hs=>hk L' a' hp w' hs) _ _ _ h)
end Fx
section
variable {D:Dat} {p:Option Addr} {c:Nat} {clock:Int} {l:List Sv}
set_option maxHeartbeats 8000000 in
theorem ttapply_main (hv:TtAt D ⟨p,c,clock,l⟩) (hl:l.length≤1000) (e:Ent) (hnm:e.name.size≤maxLen) (w:World) (hD:Holds D w) (hk:ttOk ⟨clock,l.map (·.s)⟩=true) (h1:e.kind≠1) {i:Nat} (hi:e.stream=i) (hlt:i<l.length) (h2:¬(e.kind=2∧clock<e.n)) (x:Stm×Int) (hx:applySm l[i].s e=x):
  Calls Tryz.prog 29 #[.agg [.int .i64 clock,.slice p l.length c].toArray,.agg (entL e).toArray] w (TtPost w D (if x.2=0 then(⟨clock,(l.map (·.s)).set i x.1⟩,0) else(tt0,x.2))):=by
 have hst:=Sx.start0 w hD;obtain⟨R,hR⟩:∃R,(if x.2=0 then((⟨clock,(l.map (·.s)).set i x.1⟩:Tt),(0:Int)) else(tt0,x.2))=R:=⟨_,rfl⟩;rw[hR];replace hR:=Lib.hid hR;have HCk:=Lib.hid (fun wx hx=>ttcheck_calls hv wx hx);rw[tvOk_t] at HCk;have ht:(⟨p,c,clock,l⟩:Tv).t=⟨clock,l.map (·.s)⟩:=rfl;rw[ht,hk] at HCk;have hr:RowAt D 90 4 svL p c l:=hv.row;obtain⟨g,off,rfl⟩:=hr.at_some hlt;have e1:LdD D 90 ⟨g,off+i*4,none⟩ (.agg (svL l[i]).toArray):=hr.lda hlt;have HA:=Lib.hid (fun wx hx=>smapply_calls (hv.all _ (List.getElem_mem hlt)) e hnm wx hx);rw[hx] at HA;have HCl:=Lib.hid (fun wx hx=>cloneSv_calls hr wx hx);have HV:=Lib.hid hv.all;have HK1:=Lib.hid (show decide (e.kind=1)=false from decide_eq_false h1);have g1:=Lib.hid (show decide (e.stream<0)=false from decide_eq_false (by omega));have g2:=Lib.hid (show decide ((l.length:Int)≤e.stream)=false from decide_eq_false (by omega));obtain⟨b5,g5⟩:∃b,decide (e.kind=2)=b:=⟨_,rfl⟩;have g3:b5=true→Hid (decide (clock<e.n)=false):=fun h=>Lib.hid (decide_eq_false (fun h3=>h2 ⟨by rw[h] at g5;exact of_decide_eq_true g5,h3⟩))
 replace g5:=Lib.hid g5;have hbg:=hr.big;clear ht hv hk h1 h2 hx;have hC:[.int .i64 clock,.slice (some ⟨g,off,none⟩) l.length c].toArray=tC clock (.slice (some ⟨g,off,none⟩) l.length c):=rfl;have hC1:(entL e).toArray=entC e:=rfl;rw[hC,hC1];clear hC hC1;generalize l[i]=y at*;go_enter Tryz.func29,Tryz.ntmps29
 cases b5
 case' true=>
  have g4:=g3 rfl;go_wp2_with (first|(with_reducible (refine xval rfl 16 rfl _ (fun w=>Fx.e_eql rfl rfl rfl HK1.out w) ?_))|(with_reducible (refine xval rfl 26 rfl _ (fun w=>Fx.e_lss rfl rfl rfl g1.out w) ?_))|(with_reducible (refine xval rfl 33 rfl _ (fun w=>Fx.e_geq rfl rfl rfl g2.out w) ?_))|(with_reducible (refine xval rfl 39 rfl _ (fun w=>Fx.e_eql rfl rfl rfl g5.out w) ?_))|(with_reducible (refine xval rfl 45 rfl _ (fun w=>Fx.e_gtr rfl rfl rfl g4.out w) ?_))|((with_reducible refine xbaS 2 rfl rfl rfl hst rfl ?_);clear hst;intro b2 w' hst)|((with_reducible refine xbaS 3 rfl rfl rfl hst rfl ?_);clear hst;intro b3 w' hst)|(with_reducible refine xnwS 4 rfl rfl rfl hst ?_;clear hst;intro b4 w' hst)|(with_reducible first|refine x1 rfl rfl rfl hst ?_|refine xa rfl rfl rfl hst ?_)|(with_reducible (refine callB (HCk.out _ hst.data) hst ?_;clear hst;intro w' hst)))
 case' false=>
  go_wp2_with (first|(with_reducible (refine xval rfl 16 rfl _ (fun w=>Fx.e_eql rfl rfl rfl HK1.out w) ?_))|(with_reducible (refine xval rfl 26 rfl _ (fun w=>Fx.e_lss rfl rfl rfl g1.out w) ?_))|(with_reducible (refine xval rfl 33 rfl _ (fun w=>Fx.e_geq rfl rfl rfl g2.out w) ?_))|(with_reducible (refine xval rfl 39 rfl _ (fun w=>Fx.e_eql rfl rfl rfl g5.out w) ?_))|((with_reducible refine xbaS 2 rfl rfl rfl hst rfl ?_);clear hst;intro b2 w' hst)|((with_reducible refine xbaS 3 rfl rfl rfl hst rfl ?_);clear hst;intro b3 w' hst)|(with_reducible refine xnwS 4 rfl rfl rfl hst ?_;clear hst;intro b4 w' hst)|(with_reducible first|refine x1 rfl rfl rfl hst ?_|refine xa rfl rfl rfl hst ?_)|(with_reducible (refine callB (HCk.out _ hst.data) hst ?_;clear hst;intro w' hst)))
 all_goals
  clear g3;refine Fx.goTP (fun i=>i==7||i==11||i==12) (fun i=> !(i==1||i==3||i==5||i==6)) (fun i=>i==12) (.two [0,1,2,3,4,5,6] 7 (.run [8,9,10,11,12,13]) 11 (.run [7,8,9,10,12,13])) rfl hst (by kernel_rfl) (by kernel_rfl) (by kernel_rfl) (by kernel_rfl) (by kernel_rfl)
   (fun L' a'=>∃b6 v' Lo,L'=(b6,svC v',90)::(Lo++((b4,tC 0 (.slice none 0 0),31)::(b3,entC e,66)::(b2,tC clock (.slice (some ⟨g,off,none⟩) l.length c),31)::[]))∧v'.s=x.1∧StmAt (fun p=>D p∨p∈Lo) v'∧a'.tmps.size=74∧a'.defers=[]∧[2,3,4,6,7].map (fun i=>a'.tmps.getD i undef)=[.pointer (some ⟨b2,0,none⟩),.pointer (some ⟨b3,0,none⟩),.pointer (some ⟨b4,0,none⟩),.pointer (some ⟨b6,0,none⟩),.int .i64 x.2]) ?_ ?_
  ·show Fx.wpLX _ _ _ _ _ _
   clear hst;refine Fx.fa rfl rfl rfl rfl rfl rfl ?_;refine Fx.l1 rfl rfl rfl rfl rfl rfl ?_;refine Fx.fa rfl rfl rfl rfl rfl rfl ?_;refine Fx.l1 rfl rfl rfl rfl rfl rfl ?_;rw[hi];refine Fx.ix rfl rfl rfl rfl rfl rfl rfl hlt ?_;refine Fx.lD rfl rfl rfl rfl rfl rfl ?_;refine Fx.lA rfl rfl rfl rfl rfl rfl ?_;refine And.intro (Fx.runOf ?_) (Fx.runOf ?_)
   ·refine Fx.callS rfl rfl (fun L' u=>∃v' Lo,u=.tuple #[.agg (svL v').toArray,.int .i64 x.2]∧v'.s=x.1∧StmAt (fun p=>D p∨p∈Lo) v'∧L'=Lo++((b4,tC 0 (.slice none 0 0),31)::(b3,entC e,66)::(b2,tC clock (.slice (some ⟨g,off,none⟩) l.length c),31)::[])) (f:=68) (args:=#[.agg (svL y).toArray,.agg (entL e).toArray]) (fun w hw=>?_) (fun w=>by kernel_rfl) ?_
    ·refine(HA.out w hw.data).mono ?_
     rintro en w' ⟨v',Lo,rfl,h3,h4,hs⟩;exact⟨_,_,rfl,⟨v',Lo,rfl,h3,h4,rfl⟩,hw.take hs⟩
    rintro L' u ⟨v',Lo,rfl,h3,h4,rfl⟩;refine⟨Or.inr (fun w h=>h.dropL),?_⟩;refine Fx.val rfl rfl rfl rfl (v:=.tuple #[.agg (svL v').toArray,.int .i64 x.2]) (Fx.e_mv rfl rfl) ?_;refine Fx.val rfl rfl rfl rfl (v:=.agg (svL v').toArray) (fun w=>by kernel_rfl) ?_;refine Fx.val rfl rfl rfl rfl (v:=.int .i64 x.2) (fun w=>by kernel_rfl) ?_;refine Fx.nw rfl rfl rfl (fun b=>Or.inr (fun w h=>h.drop.dropL)) ?_;intro b6;refine Fx.stA rfl rfl rfl rfl rfl (Or.inl rfl) ?_;refine Fx.val rfl rfl rfl rfl (v:=.int .i64 x.2) (Fx.e_as rfl rfl) ?_;exact⟨b6,v',Lo,rfl,h3,h4,by kernel_rfl,by kernel_rfl,by kernel_rfl⟩
   ·refine Fx.nw rfl rfl rfl (fun b=>Or.inr (fun w h=>h.drop)) ?_
    intro b6;refine Fx.callS rfl rfl (fun L' u=>∃v' Lo,u=.tuple #[.agg (svL v').toArray,.int .i64 x.2]∧v'.s=x.1∧StmAt (fun p=>D p∨p∈Lo) v'∧L'=(b6,sC noS 0 (.slice none 0 0) (.slice none 0 0),90)::(Lo++((b4,tC 0 (.slice none 0 0),31)::(b3,entC e,66)::(b2,tC clock (.slice (some ⟨g,off,none⟩) l.length c),31)::[]))) (f:=68) (args:=#[.agg (svL y).toArray,.agg (entL e).toArray]) (fun w hw=>?_) (fun w=>by kernel_rfl) ?_
    ·refine(HA.out w hw.data).mono ?_
     rintro en w' ⟨v',Lo,rfl,h3,h4,hs⟩;exact⟨_,_,rfl,⟨v',Lo,rfl,h3,h4,rfl⟩,(hw.take hs).perm (perm_count fun x=>by simp only[List.count_append,List.count_cons];omega)⟩
    rintro L' u ⟨v',Lo,rfl,h3,h4,rfl⟩;refine⟨Or.inr (fun w h=>h.drop.dropL),?_⟩;refine Fx.val rfl rfl rfl rfl (v:=.tuple #[.agg (svL v').toArray,.int .i64 x.2]) (Fx.e_mv rfl rfl) ?_;refine Fx.val rfl rfl rfl rfl (v:=.agg (svL v').toArray) (fun w=>by kernel_rfl) ?_;refine Fx.val rfl rfl rfl rfl (v:=.int .i64 x.2) (fun w=>by kernel_rfl) ?_;refine Fx.stA rfl rfl rfl rfl rfl (Or.inl rfl) ?_;refine Fx.val rfl rfl rfl rfl (v:=.int .i64 x.2) (Fx.e_as rfl rfl) ?_;exact⟨b6,v',Lo,rfl,h3,h4,by kernel_rfl,by kernel_rfl,by kernel_rfl⟩
  rintro L' a1 ⟨b6,v',Lo,rfl,hvs,hvS,hsz,hdf,hsl⟩ w' hst;simp only[List.map_cons,List.map_nil,List.cons.injEq,and_true] at hsl;obtain⟨hv2,hv3,hv4,hv6,hv7⟩:=hsl;obtain⟨fZ,hfZ,hact2⟩:=act_lit a1 74 hsz hdf;clear hsz hdf;have he2:fZ 2=.pointer (some ⟨b2,0,none⟩):=(hfZ 2).symm.trans hv2;have he3:fZ 3=.pointer (some ⟨b3,0,none⟩):=(hfZ 3).symm.trans hv3;have he4:fZ 4=.pointer (some ⟨b4,0,none⟩):=(hfZ 4).symm.trans hv4;have he6:fZ 6=.pointer (some ⟨b6,0,none⟩):=(hfZ 6).symm.trans hv6;have he7:fZ 7=.int .i64 x.2:=(hfZ 7).symm.trans hv7;simp only[show List.range 74=[0,1,2,3,4,5,6,7,8,9,10,11,12,13,14,15,16,17,18,19,20,21,22,23,24,25,26,27,28,29,30,31,32,33,34,35,36,37,38,39,40,41,42,43,44,45,46,47,48,49,50,51,52,53,54,55,56,57,58,59,60,61,62,63,64,65,66,67,68,69,70,71,72,73] from rfl,List.map_cons,List.map_nil,he2,he3,he4,he6,he7] at hact2;clear hfZ hv2 he2 hv3 he3 hv4 he4 hv6 he6 hv7 he7;subst hact2
  by_cases h0:x.2=0
  ·obtain rfl:(⟨clock,(l.map (·.s)).set i x.1⟩,0)=R:=by rw[←hR.out,if_pos h0]
   clear hR;have HE:=Lib.hid (decide_eq_false (show ¬x.2≠0 by omega));replace h0:=Lib.hid h0;go_wp2_with (first|(with_reducible (refine xval rfl 60 rfl _ (fun w=>Fx.e_neq rfl rfl rfl HE.out w) ?_))|(with_reducible refine x1 rfl rfl rfl hst ?_));refine(HCl.out _ hst.data).mono ?_;rintro en w3 ⟨vl,LoS,rfl,hown,hs⟩;replace hst:=hst.take hs;clear hs;rcases hown with⟨_,_,hn0⟩ |⟨g3,c3,C,rfl,rfl,h5,h6,h7,h8⟩
   ·rw[hn0] at hlt;cases hlt
   simp only[List.cons_append,List.nil_append] at hst;have hfit:i*4+4≤C.size:=by rw[h7];have:(i+1)*4≤c3*4:=Nat.mul_le_mul_right 4 (by omega);omega
   have w1:WrAt C (i*4) 4 (.agg (svL v').toArray) (wr C (i*4) (svL v')):=wrRow _ _ _ _ rfl (encSv.one v') hfit;have HO:=Lib.hid (own_set (enc:=svL) (l:=l) (by decide) h8 hlt v');replace h8:=Lib.hid h8;clear hfit;go_wp2_with (with_reducible first|refine x1 rfl rfl rfl hst ?_|refine xa rfl rfl rfl hst ?_|(refine xsl rfl rfl rfl rfl hst ?_;clear hst;intro w' hst)|(refine xsa rfl rfl rfl rfl hst ?_;clear hst;intro w' hst));have hll:(l.set i v').length=l.length:=List.length_set;refine bodyPost_ret (results2 rfl (res_agg rfl hst.st.has) res_tmp) rfl ⟨⟨some ⟨g3,0,none⟩,c3,clock,l.set i v'⟩,(g3,wr C (i*4) (svL v'),90)::Lo,?_,?_,⟨?_,?_⟩,?_⟩
   ·show _=Ending.returned (.tuple #[.agg [.int .i64 clock,.slice (some ⟨g3,0,none⟩) (l.set i v').length c3].toArray,.int .i64 0])
    rw[hll];rfl
   ·simp[Tv.t,List.map_set,hvs]
   ·exact RowAt.ofBlock (C:=wr C (i*4) (svL v')) (Or.inr (List.mem_cons_self ..)) (by simp only[hll];exact h5) (by simp only[hll];omega) (by simp only[hll];exact HO.out)
   ·intro z hz
    rcases List.mem_or_eq_of_mem_set hz with h |h
    ·exact(HV.out z h).mono (fun p hp=>Or.inl hp)
    ·subst h
     exact hvS.mono (fun p hp=>hp.elim Or.inl (fun h=>Or.inr (List.mem_cons_of_mem _ h)))
   ·exact(hst.perm (L':=((g3,wr C (i*4) (svL v'),90)::Lo)++((b6,svC v',90)::[(b4,tC clock (.slice (some ⟨g3,0,none⟩) l.length c3),31),(b3,entC e,66),(b2,tC clock (.slice (some ⟨g3,0,none⟩) l.length c3),31)])) (perm_count fun x=>by simp only[List.count_append,List.count_cons];omega)).takeL.st
  ·obtain rfl:(tt0,x.2)=R:=by rw[←hR.out,if_neg h0]
   clear hR;have HE:=Lib.hid (decide_eq_true h0);clear h0;go_wp2_with (first|(with_reducible (refine xval rfl 60 rfl _ (fun w=>Fx.e_neq rfl rfl rfl HE.out w) ?_))|(with_reducible (refine xval rfl 61 rfl (.agg [.int .i64 0,.slice none 0 0].toArray) (fun w=>by kernel_rfl) ?_))|(with_reducible (refine xsa rfl rfl rfl rfl hst ?_;clear hst;intro w' hst)));refine bodyPost_ret (results2 rfl (res_agg rfl hst.st.has) res_tmp) rfl ⟨tv0,[],rfl,rfl,TtAt.zero _,?_⟩;exact(show Sx [] w _ ([]++_) D [] from hst.drop.dropL.drop.drop.drop).takeL.st
theorem ttapply_calls (hv:TtAt D ⟨p,c,clock,l⟩) (hl:l.length≤1000) (e:Ent) (hnm:e.name.size≤maxLen) (w:World) (hD:Holds D w):
  Calls Tryz.prog 29 #[.agg [.int .i64 clock,.slice p l.length c].toArray,.agg (entL e).toArray] w (TtPost w D (applyTt ⟨clock,l.map (·.s)⟩ e)):=by
 unfold applyTt;simp only[List.length_map]
 cases hk:ttOk ⟨clock,l.map (·.s)⟩ with
 |false=>
  rw[if_pos rfl];exact ttapply_early hv e w hD 2 (Or.inl ⟨hk,rfl⟩)
 |true=>
  rw[if_neg (by decide)]
  by_cases h1:e.kind=1
  ·rw[if_pos h1]
   exact ttapply_create hv hl e hnm w hD hk h1
  rw[if_neg h1]
  by_cases h2:e.stream<0∨(l.length:Int)≤e.stream
  ·rw[if_pos h2]
   exact ttapply_early hv e w hD 4 (Or.inr (Or.inl ⟨hk,h1,h2,rfl⟩))
  rw[if_neg h2]
  by_cases h3:e.kind=2∧clock<e.n
  ·rw[if_pos h3]
   exact ttapply_early hv e w hD 2 (Or.inr (Or.inr ⟨hk,h3.1,by omega,by omega,h3.2,rfl⟩))
  rw[if_neg h3];have hlt:e.stream.toNat<l.length:=by omega
  have hg:(l.map (·.s)).getD e.stream.toNat stm0=l[e.stream.toNat].s:=by
   rw[List.getD_eq_getElem?_getD,List.getElem?_map,List.getElem?_eq_getElem hlt];rfl
  rw[hg];exact ttapply_main hv hl e hnm w hD hk h1 (i:=e.stream.toNat) (by omega) hlt h3 _ rfl
def allGo:List Ent→Tt→Tt×Int
 | [],t=>(t,0)
 |e::l,t=>if(applyTt t e).2=0 then allGo l (applyTt t e).1 else(tt0,(applyTt t e).2)
def allTt (t:Tt) (es:List Ent) (clock:Int):Tt×Int:=if ttOk t=false∨clock<t.clock∨1073741824<clock then(tt0,2) else allGo es ⟨clock,t.l⟩
end
end Go.Proofs.YtdkeiefgkgpcbaaGreatDoor
namespace Go.Proofs.YtdkeiefgkgpcbaaGreatDoor
open Go.RowKit
theorem apply_len {t:Tt} {e:Ent} (h:(applyTt t e).2=0):(applyTt t e).1.l.length≤8:=by
 unfold applyTt at h ⊢;split at h
 ·cases h
 rename_i hk;rw[if_neg hk]
 have h8:t.l.length≤8:=by
  have h1:ttOk t=true:=by simpa using hk
  unfold ttOk at h1;simp only[Bool.and_eq_true,decide_eq_true_eq] at h1;omega
 split at h
 ·rename_i h1
  rw[if_pos h1];unfold createF at h ⊢;split at h
  ·cases h
  split at h
  ·cases h
  split at h
  ·cases h
  rename_i a b c;rw[if_neg a,if_neg b,if_neg c];simp only[List.length_append,List.length_singleton];omega
 rename_i h1;rw[if_neg h1];split at h
 ·cases h
 rename_i h2;rw[if_neg h2];split at h
 ·cases h
 rename_i h3;rw[if_neg h3];split at h
 ·rename_i h4
  rw[if_pos h4];simp only[List.length_set];exact h8
 ·rename_i h4
  exact absurd h h4
def TtLay (w:World) (D:Dat) (x:Tt×Int) (en:Ending) (w':World):Prop:=
 ∃v' D',en=.returned (.tuple #[.agg (ttL v').toArray,.int .i64 x.2])∧v'.t=x.1∧TtAt D' v'∧(∀p,D p→D' p)∧(∀p,D' p→D p∨w.heap.size≤p.1)∧Sx [] w w' [] D' []
theorem permT3 (Lo:List Blk) (x y v:Blk) (La:List Blk):(Lo++(x::y::v::La)).Perm (x::y::v::(Lo++La)):=perm_count fun z=>by
 simp only[List.count_append,List.count_cons];omega
theorem Sx.holdsL {S:List Nat} {w0 w:World} {L La:List Blk} {D:Dat} {F:List Nat} (h:Sx S w0 w L D F) (hs:∀p∈La,p∈L):Holds (fun p=>D p∨p∈La) w:=
 fun p hp=>hp.elim (h.data p) (fun hp=>⟨_,h.st.blk p (hs p hp)⟩)
set_option maxHeartbeats 8000000 in
theorem ttall_post {D:Dat} {p:Option Addr} {c:Nat} {k0:Int} {l:List Sv} {pe:Option Addr} {ce:Nat} {es:List Ent} (hv:TtAt D ⟨p,c,k0,l⟩) (hr:RowAt D 66 39 entL pe ce es) (hes:∀e∈es,e.name.size≤maxLen) (clock:Int) (w:World) (hD:Holds D w):
  Calls Tryz.prog 10 #[.agg [.int .i64 k0,.slice p l.length c].toArray,.slice pe es.length ce,.int .i64 clock] w (TtPost w D (allTt ⟨k0,l.map (·.s)⟩ es clock)):=by
 have hst:=Sx.start0 w hD;have HCk:=Lib.hid (fun wx hx=>ttcheck_calls hv wx hx);rw[tvOk_t] at HCk;have ht:(⟨p,c,k0,l⟩:Tv).t=⟨k0,l.map (·.s)⟩:=rfl;rw[ht] at HCk;have hC:[.int .i64 k0,.slice p l.length c].toArray=tC k0 (.slice p l.length c):=rfl;rw[hC];clear ht hC;obtain⟨R,hR⟩:∃R,allTt ⟨k0,l.map (·.s)⟩ es clock=R:=⟨_,rfl⟩;rw[hR];obtain⟨b1,h1⟩:∃b,ttOk ⟨k0,l.map (·.s)⟩=b:=⟨_,rfl⟩;obtain⟨b2,h2⟩:∃b,decide (clock<k0)=b:=⟨_,rfl⟩;obtain⟨b3,h3⟩:∃b,decide (1073741824<clock)=b:=⟨_,rfl⟩
 have hbad:(b1=false∨b2=true∨b3=true)→R=(tt0,2):=fun h=>by
  rw[←hR];unfold allTt;refine if_pos ?_;rcases h with h |h |h
  ·exact Or.inl (h1.trans h)
  ·exact Or.inr (Or.inl (of_decide_eq_true (h2.trans h)))
  ·exact Or.inr (Or.inr (of_decide_eq_true (h3.trans h)))
 have hgood:b1=true→b2=false→b3=false→allGo es ⟨clock,l.map (·.s)⟩=R:=fun e1 e2 e3=>by
  rw[←hR];unfold allTt;refine(if_neg ?_).symm;rintro(h |h |h)
  ·rw[h1,e1] at h;cases h
  ·have:=of_decide_eq_false (h2.trans e2);exact this h
  ·have:=of_decide_eq_false (h3.trans e3);exact this h
 have hl8:b1=true→l.length≤8:=fun e1=>by
  have h4:=h1.trans e1;unfold ttOk at h4;simp only[Bool.and_eq_true,decide_eq_true_eq,List.length_map] at h4;omega
 rw[h1] at HCk;replace h2:=Lib.hid h2;replace h3:=Lib.hid h3;replace hbad:=Lib.hid hbad;replace hgood:=Lib.hid hgood;replace hl8:=Lib.hid hl8;have hcap:=hr.cap;have hbg:=hr.big;clear h1 hR
 have hcs:(b1=false∨(b1=true∧b2=true)∨(b1=true∧b2=false∧b3=true))∨(b1=true∧b2=false∧b3=false):=by
  cases b1<;>cases b2<;>cases b3<;>simp
 rcases hcs with hcs |⟨rfl,rfl,rfl⟩
 ·have HR:Hid (R=(tt0,2)):=Lib.hid (hbad.out (by rcases hcs with h |h |h;exact Or.inl h;exact Or.inr (Or.inl h.2);exact Or.inr (Or.inr h.2.2)))
  clear hbad hgood hl8;rcases hcs with rfl |⟨rfl,rfl⟩ |⟨rfl,rfl,rfl⟩
  all_goals
   go_enter Tryz.func10,Tryz.ntmps10;go_wp2_with (first|(with_reducible (refine xval rfl 19 rfl _ (fun w=>Fx.e_lss rfl rfl rfl h2.out w) ?_))|(with_reducible (refine xval rfl 23 rfl _ (fun w=>Fx.e_gtr rfl rfl rfl h3.out w) ?_))|(with_reducible (refine xval rfl 25 rfl (.agg [.int .i64 0,.slice none 0 0].toArray) (fun w=>by kernel_rfl) ?_))|((with_reducible refine xbaS 3 rfl rfl rfl hst rfl ?_);clear hst;intro b3 w' hst)|(with_reducible refine xnwS 6 rfl rfl rfl hst ?_;clear hst;intro b6 w' hst)|(with_reducible first|refine x1 rfl rfl rfl hst ?_|refine xa rfl rfl rfl hst ?_|(refine xsa rfl rfl rfl rfl hst ?_;clear hst;intro w' hst))|(with_reducible (refine callB (HCk.out _ hst.data) hst ?_;clear hst;intro w' hst)));refine bodyPost_ret (results2 rfl (res_agg rfl hst.st.has) res_tmp) rfl ⟨tv0,[],by rw[HR.out];rfl,by rw[HR.out];rfl,TtAt.zero _,hst.endF⟩
 ·have HGo:=Lib.hid (hgood.out rfl rfl rfl)
  have h8:=hl8.out rfl;have HV:Hid (TtAt D ⟨p,c,clock,l⟩):=Lib.hid ⟨hv.row,hv.all⟩;clear hbad hgood hl8 hv;go_enter Tryz.func10,Tryz.ntmps10;go_wp2_with (first|(with_reducible (refine xval rfl 19 rfl _ (fun w=>Fx.e_lss rfl rfl rfl h2.out w) ?_))|(with_reducible (refine xval rfl 23 rfl _ (fun w=>Fx.e_gtr rfl rfl rfl h3.out w) ?_))|((with_reducible refine xbaS 3 rfl rfl rfl hst rfl ?_);clear hst;intro b3 w' hst)|(with_reducible refine xnwS 6 rfl rfl rfl hst ?_;clear hst;intro b6 w' hst)|(with_reducible first|refine x1 rfl rfl rfl hst ?_|refine xa rfl rfl rfl hst ?_|(refine xsi rfl rfl rfl rfl hst ?_;clear hst;intro w' hst))|(with_reducible (refine callB (HCk.out _ hst.data) hst ?_;clear hst;intro w' hst)));clear HCk h2 h3;go_loopw [30] (fun iv wr=>∃(k:Nat) (v:Tv) (La:List Blk),k≤es.length∧iv=.int .i64 k∧v.l.length≤8∧Hid (allGo (es.drop k) v.t=R)∧Hid (TtAt (fun p=>D p∨p∈La) v)∧Sx [] w wr ((b6,tC 0 (.slice none 0 0),31)::(b3,tC v.clock (.slice v.p v.l.length v.c),31)::La) D []) (fun iv _=>es.length-(intOf iv).toNat)
  case atStart=>exact⟨0,⟨p,c,clock,l⟩,[],Nat.zero_le _,by go_num,h8,HGo,Lib.hid (HV.out.mono (fun p h=>Or.inl h)),hst⟩
  case round=>
   clear hst HGo HV h8;obtain⟨k,⟨p2,c2,k2,l2⟩,La,hk,rfl,hl2,HG,HT,hst⟩:=hrel;simp only at hl2 hst
   by_cases hlt:k<es.length
   ·obtain⟨g,off,rfl⟩:=hr.at_some hlt
    have e1:LdD D 66 ⟨g,off+k*39,none⟩ (.agg (entL es[k]).toArray):=hr.lda hlt;have hx:=hes _ (List.getElem_mem hlt);have hg:=HG.out;rw[List.drop_eq_getElem_cons hlt] at hg;generalize es[k]=x at*;have HA:Hid (∀wx,Holds (fun p=>D p∨p∈La) wx→Calls Tryz.prog 29 #[.agg [.int .i64 k2,.slice p2 l2.length c2].toArray,.agg (entL x).toArray] wx (TtPost wx (fun p=>D p∨p∈La) (applyTt ⟨k2,l2.map (·.s)⟩ x))):=Lib.hid (fun wx hx'=>ttapply_calls HT.out (by omega) x hx wx hx');have ht:(⟨p2,c2,k2,l2⟩:Tv).t=⟨k2,l2.map (·.s)⟩:=rfl;rw[ht] at hg;unfold allGo at hg;have hln:= @apply_len ⟨k2,l2.map (·.s)⟩ x;generalize applyTt ⟨k2,l2.map (·.s)⟩ x=y at*;replace hg:=Lib.hid hg;replace hln:=Lib.hid hln;clear ht HG hx;go_wp2_with (first|(with_reducible refine xnwS 9 rfl rfl rfl hst ?_;clear hst;intro b9 w' hst)|(with_reducible first|refine xa rfl rfl rfl hst ?_|refine xd rfl rfl rfl hst ?_|(refine xsa rfl rfl rfl rfl hst ?_;clear hst;intro w' hst)));refine(HA.out _ (hst.holdsL (fun p hp=>by simp[hp]))).mono ?_;rintro en w2 ⟨v',Lo,rfl,hvt,hTt,hs⟩
    replace hTt:TtAt (fun p=>D p∨p∈Lo++La) v':=hTt.mono (fun p hp=>by
     rcases hp with(h |h)|h
     ·exact Or.inl h
     ·exact Or.inr (List.mem_append_right _ h)
     ·exact Or.inr (List.mem_append_left _ h))
    replace hst:=(hst.take hs).perm (permT3 Lo _ _ _ La);replace hTt:=Lib.hid hTt;obtain⟨p',c',k',l'⟩:=v';rw[show(ttL ⟨p',c',k',l'⟩).toArray=[.int .i64 k',.slice p' l'.length c'].toArray from rfl];clear hs HA;generalize Lo++La=Lb at*
    by_cases h0:y.2=0
    ·have hl':l'.length≤8:=by
      have h1:=hln.out h0;rw[←hvt] at h1;simpa[Tv.t] using h1
     have hg2:=hg.out;rw[if_pos h0,←hvt] at hg2;replace hg2:=Lib.hid hg2;have HE:=Lib.hid (decide_eq_false (show ¬y.2≠0 by omega));clear hg hln hvt h0;go_wp2_with (first|(with_reducible (refine xval rfl 41 rfl _ (fun w=>Fx.e_neq rfl rfl rfl HE.out w) ?_))|(with_reducible refine xnwS 10 rfl rfl rfl hst ?_;clear hst;intro b10 w' hst)|(with_reducible first|refine xa rfl rfl rfl hst ?_|(refine xsa rfl rfl rfl rfl hst ?_;clear hst;intro w' hst)));go_roundw
     case rel=>exact⟨k+1,⟨p',c',k',l'⟩,Lb,by omega,by go_num,hl',hg2,hTt,hst.drop.drop⟩
     case measure=>simp[intOf];omega
    ·have hg2:=hg.out
     rw[if_neg h0] at hg2;replace hg2:=Lib.hid hg2;have HE:=Lib.hid (decide_eq_true h0);clear hg hln hvt h0;go_wp2_with (first|(with_reducible (refine xval rfl 41 rfl _ (fun w=>Fx.e_neq rfl rfl rfl HE.out w) ?_))|(with_reducible (refine xval rfl 42 rfl (.agg [.int .i64 0,.slice none 0 0].toArray) (fun w=>by kernel_rfl) ?_))|(with_reducible refine xnwS 10 rfl rfl rfl hst ?_;clear hst;intro b10 w' hst)|(with_reducible (refine xsa rfl rfl rfl rfl hst ?_;clear hst;intro w' hst)));refine bodyPost_ret (results2 rfl (res_agg rfl hst.st.has) res_tmp) rfl ⟨tv0,[],by rw[←hg2.out];rfl,by rw[←hg2.out];rfl,TtAt.zero _,hst.endF⟩
   ·obtain rfl:k=es.length:=by omega
    have hg:=HG.out;rw[List.drop_length] at hg;unfold allGo at hg;subst hg;go_wp2_with (with_reducible first|refine xa rfl rfl rfl hst ?_|(refine xsa rfl rfl rfl rfl hst ?_;clear hst;intro w' hst));refine bodyPost_ret (results2 rfl (res_agg rfl hst.st.has) res_tmp) rfl ⟨⟨p2,c2,k2,l2⟩,La,rfl,rfl,HT.out,hst.drop.drop.st⟩
theorem ttall_calls {D:Dat} {p:Option Addr} {c:Nat} {k0:Int} {l:List Sv} {pe:Option Addr} {ce:Nat} {es:List Ent} (hv:TtAt D ⟨p,c,k0,l⟩) (hr:RowAt D 66 39 entL pe ce es) (hes:∀e∈es,e.name.size≤maxLen) (clock:Int) (w:World) (hD:Holds D w):
  Calls Tryz.prog 10 #[.agg [.int .i64 k0,.slice p l.length c].toArray,.slice pe es.length ce,.int .i64 clock] w (TtLay w D (allTt ⟨k0,l.map (·.s)⟩ es clock)):=by
 refine(ttall_post hv hr hes clock w hD).mono ?_;rintro en w' ⟨v',Lo,rfl,h1,h2,hs⟩;refine⟨v',_,rfl,h1,h2,fun p hp=>Or.inl hp,fun p hp=>hp.elim Or.inl (fun h=>Or.inr ?_),?_⟩
 ·rcases hs.own p h with h |h
  ·exact h
  ·simp at h
 ·have h3:=((Sx.start0 w hD).take hs).lay
  exact h3
end Go.Proofs.YtdkeiefgkgpcbaaGreatDoor
namespace Go.Proofs.YtdkeiefgkgpcbaaGreatDoor
open Go.RowKit
theorem Sx.layNew {S:List Nat} {w0 w w2:World} {L:List Blk} {D D':Dat} (h:Sx S w0 w L D []) (hs:Sx [] w w2 [] D' []) (hN:∀p,D' p→D p∨w.heap.size≤p.1):Sx S w0 w2 L D' []:=by
 have h1:=h.take hs.st;rw[List.nil_append] at h1
 exact⟨h1.st,hs.data,fun p hp q hq=>by
  rcases hN p hp with h2 |h2
  ·exact h.apart p h2 q hq
  ·have:=h.st.lt q hq
   omega,by simp,by simp,by simp,by simp⟩
theorem decL_len {s:ByteArray}:∀ {n:Nat} {a:Int} {bad:Bool} {r:List Ent×Int×Bool},decL s n a bad=some r→r.1.length=n
 |0,a,bad,r,h=>by unfold decL at h;injection h with h;subst h;rfl
 |n+1,a,bad,r,h=>by
  unfold decL at h;split at h
  ·cases h
  ·obtain⟨r',hr',rfl⟩:=Option.map_eq_some_iff.1 h
   simp[decL_len hr']
theorem decF_len {s:ByteArray} {l:List Ent} (h:decF s=some l):l.length≤201:=by
 unfold decF at h;split at h
 ·cases h
 ·rename_i l' a bad h1
  split at h
  ·cases h
  ·injection h with h
   subst h;have:=decL_len h1;simp only at this;rw[this];unfold decN;omega
theorem entriesF_len (d:Dv) (s:Sl):(entriesF d s).1.length≤201:=by
 unfold entriesF;split
 ·exact Nat.zero_le _
 ·split
  ·exact Nat.zero_le _
  ·rename_i l h
   exact decF_len h
def loadGo (d:Dv):List Sl→Tt→Option Tt
 | [],t=>some t
 |x::l,t=>if(entriesF d x).2=0 then(if(allTt t (entriesF d x).1 x.clock).2=0 then loadGo d l (allTt t (entriesF d x).1 x.clock).1 else none) else none
def loadF (d:Dv):Tt×Sl×Int:=
 if d.off=true then(tt0,sl0,43) else if chainF d=[] then(tt0,sl0,4) else match loadGo d ((chainF d).map (·.s)) tt0 with
 |none=>(tt0,sl0,210)
 |some t=>(t,((chainF d).map (·.s)).getD ((chainF d).length-1) sl0,0)
def LoadLay (w:World) (D:Dat) (x:Tt×Sl×Int) (en:Ending) (w':World):Prop:=
 ∃v' D',en=.returned (.tuple #[.agg (ttL v').toArray,.agg (slC x.2.1),.int .i64 x.2.2])∧v'.t=x.1∧TtAt D' v'∧(∀p,D p→D' p)∧(∀p,D' p→D p∨w.heap.size≤p.1)∧Sx [] w w' [] D' []
section
variable {D:Dat} {F:List Nat} {w:World} {g:Nat} {d:Dv}
set_option maxHeartbeats 8000000 in
theorem load_gen (h:DevW D F w g d) (hoff:d.off=false) (hch:chainF d≠[]) (hU:GSums w) (hGB:GBegin w) (hGS:GSha w):Calls Tryz.prog 11 #[.pointer (some ⟨g,0,none⟩)] w (LoadLay w D (loadF d)):=by
 have hst:=Sx.start0 w h.data;have hmin:=h.ok.min;have hcok:=chainF_ok d h.ok;have HL:=Lib.hid (fun wx (hb:Below w.heap.size w wx)=>dlen_calls (h.below hb));have HU:=Lib.hid (fun wx (hb:Below w.heap.size w wx)=>dup_calls (h.below hb));have HCh:=Lib.hid (fun wx (hb:Below w.heap.size w wx)=>chain_calls (h.below hb) (hU.below hb) (hGB.below hb) (hGS.below hb))
 have HEn:=Lib.hid (fun x (hx:x∈(chainF d).map (·.s)) wx (hb:Below w.heap.size w wx)=>(show Calls Tryz.prog 32 #[.pointer (some ⟨g,0,none⟩),.agg (slC x)] wx (EntriesPost wx (entriesF d x)) from entries_calls (h.below hb) x (by
  obtain⟨y,hy,rfl⟩:=List.mem_map.1 hx;have hok:=(slOk_iff _).1 (hcok.2 y hy).1;unfold SlOk at hok
  omega) (hGB.below hb) (hGS.below hb) (hU.below hb)))
 have hF:loadF d=match loadGo d ((chainF d).map (·.s)) tt0 with |none=>(tt0,sl0,210)|some t=>(t,((chainF d).map (·.s)).getD ((chainF d).length-1) sl0,0):=by
  unfold loadF;rw[if_neg (by rw[hoff];decide),if_neg hch]
 rw[hoff] at HU;obtain⟨R,hR⟩:∃R,loadF d=R:=⟨_,rfl⟩;rw[hR] at hF ⊢;have hlen:0<((chainF d).map (·.s)).length:=by rw[List.length_map];exact List.length_pos_iff.2 hch
 have hlen2:((chainF d).map (·.s)).length≤513:=by rw[List.length_map];exact hcok.1
 have hll:(chainF d).length=((chainF d).map (·.s)).length:=by rw[List.length_map]
 rw[hll] at hF;have hF1:=Lib.hid hF;clear hF hR hll hcok hoff hch;generalize d.now.length=N at*;have hne:((N:Int)==0)=false:=by rw[beq_eq_false_iff_ne];omega
 clear h;have HCh2:Hid (∀wx,Below w.heap.size w wx→Calls Tryz.prog 31 #[.pointer (some ⟨g,0,none⟩)] wx fun e w'=>∃v1 v2 Lo1 Lo2,e=.returned (.tuple #[v1,v2])∧OwnR 41 69 slL Lo1 v1 ((chainF d).map (·.s))∧OwnR 3 1 inL Lo2 v2 ((chainF d).map (·.at_))∧St [] wx w' (Lo1++Lo2)):=Lib.hid HCh.out;clear HCh;generalize (chainF d).map (·.s)=ls at*;generalize (chainF d).map (·.at_)=as_ at*;have hF2:=hF1.out;clear hF1;obtain⟨G,hGd⟩:∃G,loadGo d ls tt0=G:=⟨_,rfl⟩;rw[hGd] at hF2;have hF1:=Lib.hid hF2;replace hGd:=Lib.hid hGd;clear hF2;go_enter Tryz.func11,Tryz.ntmps11;go_wp2_with (first|(with_reducible refine xnwS 2 rfl rfl rfl hst ?_;clear hst;intro b2 w' hst)|(with_reducible refine xnwS 3 rfl rfl rfl hst ?_;clear hst;intro b3 w' hst)|(with_reducible refine xnwS 5 rfl rfl rfl hst ?_;clear hst;intro b5 w' hst)|fail |(with_reducible (refine callB (HL.out _ hst.end) hst ?_;clear hst;intro w' hst))|(with_reducible (refine callB (HU.out _ hst.end) hst ?_;clear hst;intro w' hst)));refine(HCh2.out _ hst.end).mono ?_;rintro e w2 ⟨v1,v2,Lo1,Lo2,rfl,hown1,hown2,hs2⟩
 have hownN:∀q∈Lo1++Lo2,w.heap.size≤q.1:=fun q hq=>by
  rcases hs2.own q hq with h |h
  ·exact Nat.le_trans hst.st.size h
  ·simp at h
 replace hst:=(hst.take hs2).lay;obtain⟨p1,c1,rfl,hrow⟩:=hown1.row (by omega) (D:=fun p=>D p∨p∈Lo1++Lo2) (fun p hp=>Or.inr (by simp[hp]));have HD1:Hid ((∀p,D p→(fun p=>D p∨p∈Lo1++Lo2) p)∧∀p,(fun p=>D p∨p∈Lo1++Lo2) p→D p∨w.heap.size≤p.1):=Lib.hid ⟨fun p hp=>Or.inl hp,fun p hp=>hp.elim Or.inl (fun h=>Or.inr (hownN p h))⟩;generalize (fun p=>D p∨p∈Lo1++Lo2)=D1 at*;clear hs2 hown1 hown2 HCh2 HL HU hownN;have hl0:=Lib.hid (show decide ((ls.length:Int)=0)=false from decide_eq_false (by omega));go_wp2_with (first|(with_reducible (refine xval rfl 31 rfl _ (fun w=>Fx.e_eql rfl rfl rfl hl0.out w) ?_))|fail);clear hl0;go_loopw [36] (fun iv wr=>∃(k:Nat) (v:Tv) (D':Dat),k≤ls.length∧iv=.int .i64 k∧Hid (loadGo d (ls.drop k) v.t=G)∧Hid (TtAt D' v)∧Hid (∀p,D1 p→D' p)∧Hid (∀p,D' p→D p∨w.heap.size≤p.1)∧Sx [] w wr [(b5,tC v.clock (.slice v.p v.l.length v.c),31),(b3,slC sl0,41),(b2,tC 0 (.slice none 0 0),31)] D' []) (fun iv _=>ls.length-(intOf iv).toNat)
 case atStart=>exact⟨0,tv0,D1,Nat.zero_le _,by go_num,Lib.hid hGd.out,Lib.hid (TtAt.zero _),Lib.hid (fun p h=>h),Lib.hid HD1.out.2,hst⟩
 case round=>
  clear hst;obtain⟨k,⟨p2,c2,k2,l2⟩,D',hk,rfl,HG,HT,HS,HN,hst⟩:=hrel;simp only at hst
  by_cases hlt:k<ls.length
  ·obtain⟨g1,off1,rfl⟩:=hrow.at_some hlt
   have e1:LdD D' 41 ⟨g1,off1+k*69,none⟩ (.agg (slL ls[k]).toArray):=(hrow.mono HS.out).lda hlt;have HE:=Lib.hid (HEn.out _ (List.getElem_mem hlt));have hg:=HG.out;rw[List.drop_eq_getElem_cons hlt] at hg;unfold loadGo at hg;rw[show(⟨p2,c2,k2,l2⟩:Tv).t=⟨k2,l2.map (·.s)⟩ from rfl] at hg;generalize ls[k]=x at*;have hrl:=entriesF_len d x;obtain⟨r,hr⟩:∃r,entriesF d x=r:=⟨_,rfl⟩;rw[hr] at HE hg hrl;replace hg:=Lib.hid hg;clear hr HG;go_wp2_with (first|(with_reducible refine xnwS 9 rfl rfl rfl hst ?_;clear hst;intro b9 w' hst)|(with_reducible first|refine xa rfl rfl rfl hst ?_|refine xd rfl rfl rfl hst ?_|(refine xsa rfl rfl rfl rfl hst ?_;clear hst;intro w' hst)));refine(HE.out _ hst.end).mono ?_;rintro en w4 ⟨v4,Lo4,rfl,hown4,hwf4,hs4⟩;obtain⟨p4,c4,rfl⟩:=hown4.slice
   have hN4:∀q∈Lo4,w.heap.size≤q.1:=fun q hq=>by
    rcases hs4.own q hq with h |h
    ·exact Nat.le_trans hst.st.size h
    ·simp at h
   replace hst:=(hst.take hs4).lay;have hrow4:RowAt (fun p=>D' p∨p∈Lo4) 66 39 entL p4 c4 r.1:=hown4.rowAt (by omega) (fun p hp=>Or.inr hp);have HS2:Hid (∀p,D1 p→(fun p=>D' p∨p∈Lo4) p):=Lib.hid (fun p hp=>Or.inl (HS.out p hp));have HN2:Hid (∀p,(fun p=>D' p∨p∈Lo4) p→D p∨w.heap.size≤p.1):=Lib.hid (fun p hp=>hp.elim (HN.out p) (fun h=>Or.inr (hN4 p h)));have HT2:TtAt (fun p=>D' p∨p∈Lo4) ⟨p2,c2,k2,l2⟩:=HT.out.mono (fun p hp=>Or.inl hp);have hnm4:∀e∈r.1,e.name.size≤maxLen:=fun e he=>by have:=(hwf4 e he).name;unfold maxLen;omega
   clear HT HS HN hs4 hown4 hwf4 hN4 HE e1;generalize (fun p=>D' p∨p∈Lo4)=D2 at*;have HA:=Lib.hid (fun wx hx=>ttall_calls HT2 hrow4 hnm4 x.clock wx hx);obtain⟨y,hy⟩:∃y,allTt ⟨k2,l2.map (·.s)⟩ r.1 x.clock=y:=⟨_,rfl⟩;have hg2:=hg.out;rw[hy] at HA hg2;clear hg hy hrow4 HT2 hnm4;have hfin:G=none→R=(tt0,sl0,210):=fun h=>by rw[hF1.out,h]
   replace hfin:=Lib.hid hfin
   by_cases h0:r.2=0
   ·rw[if_pos h0] at hg2
    have HE1:=Lib.hid (show decide (r.2=0)=true from decide_eq_true h0);replace hg2:=Lib.hid hg2;clear h0;go_wp2_with (first|(with_reducible (refine xval rfl 47 rfl _ (fun w=>Fx.e_eql rfl rfl rfl HE1.out w) ?_))|(with_reducible first|refine x1 rfl rfl rfl hst ?_|refine xa rfl rfl rfl hst ?_));refine(HA.out _ hst.data).mono ?_;rintro en w5 ⟨v',D3,rfl,hvt,hTt,hDD,hNN,hst5⟩;have hsz:=hst.st.size;replace hst:=hst.layNew hst5 hNN;have HN3:=Lib.hid (fun p (hp:D3 p)=>(hNN p hp).elim (HN2.out p) (fun h=>Or.inr (Nat.le_trans hsz h)));have HS3:=Lib.hid (fun p (hp:D1 p)=>hDD p (HS2.out p hp));have HT3:=Lib.hid hTt;clear hst5 hNN hDD hTt hsz HA HN2 HS2;obtain⟨p',c',k',l'⟩:=v';rw[show(ttL ⟨p',c',k',l'⟩).toArray=[.int .i64 k',.slice p' l'.length c'].toArray from rfl]
    by_cases h1:y.2=0
    ·have hg3:=hg2.out
     rw[if_pos h1,←hvt] at hg3;replace hg3:=Lib.hid hg3;have HE2:=Lib.hid (decide_eq_false (show ¬y.2≠0 by omega));clear hg2 h1 hvt hfin;go_wp2_with (first|(with_reducible (refine xval rfl 57 rfl _ (fun w=>Fx.e_neq rfl rfl rfl HE2.out w) ?_))|(with_reducible (refine xsa rfl rfl rfl rfl hst ?_;clear hst;intro w' hst)));go_roundw
     case rel=>exact⟨k+1,⟨p',c',k',l'⟩,D3,by omega,by go_num,hg3,HT3,HS3,HN3,hst.drop⟩
     case measure=>simp[intOf];omega
    ·have hg3:=hg2.out
     rw[if_neg h1] at hg3;have HR:=Lib.hid (hfin.out hg3.symm);have HE2:=Lib.hid (decide_eq_true h1);clear hg2 hg3 h1 hvt hfin;go_wp2_with (first|(with_reducible (refine xval rfl 57 rfl _ (fun w=>Fx.e_neq rfl rfl rfl HE2.out w) ?_))|(with_reducible (refine xval rfl 58 rfl (.agg [.int .i64 0,.slice none 0 0].toArray) (fun w=>by kernel_rfl) ?_))|(with_reducible (refine xval rfl 59 rfl (.agg (slC sl0)) (fun w=>by kernel_rfl) ?_))|(with_reducible (refine xsa rfl rfl rfl rfl hst ?_;clear hst;intro w' hst)));refine bodyPost_ret (results3 rfl (res_agg rfl hst.st.has) (res_agg rfl hst.st.has) res_tmp) rfl ⟨tv0,D3,by rw[HR.out];rfl,by rw[HR.out];rfl,TtAt.zero _,fun p hp=>HS3.out p (HD1.out.1 p hp),HN3.out,hst.drop.drop.drop.drop⟩
   ·rw[if_neg h0] at hg2
    have HR:=Lib.hid (hfin.out hg2.symm);have HE1:=Lib.hid (show decide (r.2=0)=false from decide_eq_false h0);have HE2:=Lib.hid (decide_eq_true h0);clear hg2 h0 hfin HA;go_wp2_with (first|(with_reducible (refine xval rfl 47 rfl _ (fun w=>Fx.e_eql rfl rfl rfl HE1.out w) ?_))|(with_reducible (refine xval rfl 57 rfl _ (fun w=>Fx.e_neq rfl rfl rfl HE2.out w) ?_))|(with_reducible (refine xval rfl 58 rfl (.agg [.int .i64 0,.slice none 0 0].toArray) (fun w=>by kernel_rfl) ?_))|(with_reducible (refine xval rfl 59 rfl (.agg (slC sl0)) (fun w=>by kernel_rfl) ?_))|(with_reducible (refine xsa rfl rfl rfl rfl hst ?_;clear hst;intro w' hst)));refine bodyPost_ret (results3 rfl (res_agg rfl hst.st.has) (res_agg rfl hst.st.has) res_tmp) rfl ⟨tv0,D2,by rw[HR.out];rfl,by rw[HR.out];rfl,TtAt.zero _,fun p hp=>HS2.out p (HD1.out.1 p hp),HN2.out,hst.drop.drop.drop.drop⟩
  ·obtain rfl:k=ls.length:=by omega
   have hg:=HG.out;rw[List.drop_length] at hg;unfold loadGo at hg;have HR:Hid (R=(⟨k2,l2.map (·.s)⟩,ls.getD (ls.length-1) sl0,0)):=Lib.hid (by rw[hF1.out,←hg];rfl);have hk1:ls.length-1<ls.length:=by omega
   obtain⟨g1,off1,rfl⟩:=hrow.at_some hk1
   have e1:LdD D' 41 ⟨g1,off1+(ls.length-1)*69,none⟩ (.agg (slC (ls.getD (ls.length-1) sl0))):=by
    rw[List.getD_eq_getElem?_getD,List.getElem?_eq_getElem hk1];exact(hrow.mono HS.out).lda hk1
   have HS1:=Lib.hid (show((ls.length:Int)-1)=((ls.length-1:Nat):Int) by omega);generalize ls.getD (ls.length-1) sl0=x at*;clear hg HG hF1;go_wp2_with fail;refine Fx.wp_region_flow ⟨[],w,D',[],fun wx=>∃L',(b5,tC k2 (.slice p2 l2.length c2),31)∈L'∧Sx [] w wx L' D' [],fun i=>i==7||i==8,fun i=> !(i==0||i==6),fun i=>i==8⟩ (List.range 10) rfl hst (by kernel_rfl) (by kernel_rfl) (by kernel_rfl) (by kernel_rfl) (by kernel_rfl) ?_;show Fx.wpLX _ _ _ [0,1,2,3,4,5,6,7,8,9] _ (Fx.mkO [] _);refine Fx.rd rfl rfl rfl rfl (v:=.agg [.int .i64 k2,.slice p2 l2.length c2].toArray) (fun w h=>⟨_,by simp,h⟩) (fun w h=>by obtain⟨L',hm,hs⟩:=h;obtain⟨L2,hs⟩:=hs.front hm;exact Fx.r_a rfl rfl w hs) ?_;refine Fx.val rfl rfl rfl rfl (v:=.slice (some ⟨g1,off1,none⟩) ls.length c1) (Fx.e_mv rfl rfl) ?_;refine Fx.val rfl rfl rfl rfl (v:=.slice (some ⟨g1,off1,none⟩) ls.length c1) (Fx.e_mv rfl rfl) ?_;refine Fx.ln rfl rfl rfl rfl rfl rfl ?_;refine Fx.val rfl rfl rfl rfl (v:=.int .i64 ((ls.length-1:Nat):Int)) (fun w=>by rw[←HS1.out];exact Fx.e_sub rfl rfl rfl (by omega) w) ?_;refine Fx.ix rfl rfl rfl rfl rfl rfl rfl hk1 ?_
   refine Fx.rd rfl rfl rfl rfl (v:=.agg (slC x)) (fun w h=>⟨_,by simp,h⟩) (fun w h=>by
    obtain⟨L',hm,hs⟩:=h
    exact Fx.r_d rfl rfl w hs) ?_
   refine Fx.stA rfl rfl rfl rfl rfl (Or.inr (fun w h=>⟨_,by simp,h⟩)) ?_;refine Fx.stA rfl rfl rfl rfl rfl (Or.inl rfl) ?_;refine Fx.val rfl rfl rfl rfl (v:=.int .i64 0) (Fx.e_as rfl rfl) ?_;clear hst;intro w' hst;generalize hact:Fx.mkO _ _=act;have hv2:act.tmps.getD 2 undef=.pointer (some ⟨b2,0,none⟩):=by rw[←hact];kernel_rfl
   have hv3:act.tmps.getD 3 undef=.pointer (some ⟨b3,0,none⟩):=by rw[←hact];kernel_rfl
   have hv4:act.tmps.getD 4 undef=.int .i64 0:=by rw[←hact];kernel_rfl
   obtain⟨fZ,hfZ,hact2⟩:=act_lit act 68 (by rw[←hact];kernel_rfl) (by rw[←hact];kernel_rfl);clear hact;have he2:fZ 2=.pointer (some ⟨b2,0,none⟩):=(hfZ 2).symm.trans hv2;have he3:fZ 3=.pointer (some ⟨b3,0,none⟩):=(hfZ 3).symm.trans hv3;have he4:fZ 4=.int .i64 0:=(hfZ 4).symm.trans hv4;simp only[show List.range 68=[0,1,2,3,4,5,6,7,8,9,10,11,12,13,14,15,16,17,18,19,20,21,22,23,24,25,26,27,28,29,30,31,32,33,34,35,36,37,38,39,40,41,42,43,44,45,46,47,48,49,50,51,52,53,54,55,56,57,58,59,60,61,62,63,64,65,66,67] from rfl,List.map_cons,List.map_nil,he2,he3,he4] at hact2;clear hfZ hv2 he2 hv3 he3 hv4 he4;subst hact2;go_wp2_with fail;refine bodyPost_ret (results3 rfl (res_agg rfl hst.st.has) (res_agg rfl hst.st.has) res_tmp) rfl ⟨⟨p2,c2,k2,l2⟩,D',by rw[HR.out];rfl,by rw[HR.out];rfl,HT.out,fun p hp=>HS.out p (HD1.out.1 p hp),HN.out,hst.drop.drop.drop⟩
end
end Go.Proofs.YtdkeiefgkgpcbaaGreatDoor
