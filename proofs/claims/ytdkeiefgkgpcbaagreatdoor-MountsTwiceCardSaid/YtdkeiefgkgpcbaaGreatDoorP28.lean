/- Steps of the proof: SmApply, TtFind, TtCheck, TtCreate. -/
import Derived.Test.YtdkeiefgkgpcbaaGreatDoorP27
set_option linter.unusedVariables false
set_option linter.unusedSimpArgs false
set_option maxRecDepth 100000
namespace Go.Proofs.YtdkeiefgkgpcbaaGreatDoor
open Go.RowKit
def applySm (s:Stm) (e:Ent):Stm×Int:=if stmOk s=false then(stm0,2) else if(doesF s e).2=0 then doesF s e else(stm0,(doesF s e).2)
theorem addF_sub {l m:List ByteArray} {nm x:ByteArray} (h:addF l nm=some m) (hx:x∈m):x∈l∨x=nm:=by
 unfold addF at h;split at h
 ·injection h with h
  subst h;rcases List.mem_append.1 hx with h1 |h1
  ·exact Or.inl (List.mem_of_mem_take h1)
  ·rcases List.mem_append.1 h1 with h1 |h1
   ·exact Or.inr (List.mem_singleton.1 h1)
   ·exact Or.inl (List.mem_of_mem_drop h1)
 ·cases h
theorem remF_sub {l m:List ByteArray} {nm x:ByteArray} (h:remF l nm=some m) (hx:x∈m):x∈l:=by
 unfold remF at h;split at h
 ·injection h with h
  subst h;rcases List.mem_append.1 hx with h1 |h1
  ·exact List.mem_of_mem_take h1
  ·exact List.mem_of_mem_drop h1
 ·cases h
theorem holdF_sub {l:List ByteArray} {nm x:ByteArray} (hx:x∈(holdF l nm).1):x∈l∨x=nm:=by
 unfold holdF at hx;split at hx
 ·exact Or.inl hx
 ·split at hx
  ·exact Or.inl hx
  ·rename_i m hm
   split at hx
   ·exact Or.inl hx
   ·exact addF_sub hm hx
theorem relF_sub {l:List ByteArray} {nm x:ByteArray} (hx:x∈(relF l nm).1):x∈l:=by
 unfold relF at hx;split at hx
 ·exact hx
 ·rename_i m hm
  exact remF_sub hm hx
theorem does_name (s:Stm) (e:Ent):(doesF s e).1.name=s.name:=by
 unfold doesF;split
 ·rfl
 split
 ·rfl
 split
 ·rfl
 split
 ·rfl
 split<;>rfl
theorem does_holds (s:Stm) (e:Ent) {x:ByteArray} (hx:x∈(doesF s e).1.holds):x∈s.holds∨x=e.name:=by
 unfold doesF at hx;split at hx
 ·exact Or.inl hx
 split at hx
 ·exact Or.inl hx
 split at hx
 ·exact holdF_sub hx
 split at hx
 ·exact Or.inl (relF_sub hx)
 split at hx<;>exact Or.inl hx
theorem addF_len {l m:List ByteArray} {nm:ByteArray} (h:addF l nm=some m):m.length≤l.length+1:=by
 unfold addF at h;split at h
 ·injection h with h
  subst h;simp only[List.length_append,List.length_take,List.length_drop,List.length_singleton];omega
 ·cases h
theorem does_len (s:Stm) (e:Ent):(doesF s e).1.holds.length≤s.holds.length+1∧(doesF s e).1.recs.length≤s.recs.length+1:=by
 unfold doesF;split
 ·refine⟨Nat.le_succ _,?_⟩
  show(addR s.recs e).1.length≤_;unfold addR;split
  ·exact Nat.le_succ _
  ·split
   ·exact Nat.le_succ _
   ·simp
 split
 ·exact⟨Nat.le_succ _,Nat.le_succ _⟩
 split
 ·refine⟨?_,Nat.le_succ _⟩
  show(holdF s.holds e.name).1.length≤_;unfold holdF;split
  ·exact Nat.le_succ _
  ·split
   ·exact Nat.le_succ _
   ·rename_i m hm
    split
    ·exact Nat.le_succ _
    ·exact addF_len hm
 split
 ·refine⟨?_,Nat.le_succ _⟩
  show(relF s.holds e.name).1.length≤_;unfold relF;split
  ·exact Nat.le_succ _
  ·rename_i m hm
   unfold remF at hm;split at hm
   ·injection hm with hm
    subst hm;simp only[List.length_append,List.length_take,List.length_drop];omega
   ·cases hm
 split
 ·refine⟨Nat.le_succ _,?_⟩
  show(shrF s.recs e.n).1.length≤_;unfold shrF;split
  ·exact Nat.le_succ _
  ·split
   ·exact Nat.le_succ _
   ·rw[List.length_set];exact Nat.le_succ _
 ·exact⟨Nat.le_succ _,Nat.le_succ _⟩
def SmPost (w:World) (D:Dat) (x:Stm×Int) (en:Ending) (w':World):Prop:=
 ∃v' Lo,en=.returned (.tuple #[.agg (svL v').toArray,.int .i64 x.2])∧v'.s=x.1∧StmAt (fun p=>D p∨p∈Lo) v'∧St [] w w' Lo
theorem StmAt.zero (D:Dat):StmAt D sv0:=⟨RowAt.nil ..,RowAt.nil ..,by unfold maxLen;decide,by intro s hs;cases hs⟩
set_option maxHeartbeats 4000000 in
theorem smapply_calls {D:Dat} {v:Sv} (hv:StmAt D v) (e:Ent) (hnm:e.name.size≤maxLen) (w:World) (hD:Holds D w):
  Calls Tryz.prog 68 #[.agg (svL v).toArray,.agg (entL e).toArray] w (SmPost w D (applySm v.s e)):=by
 have hst:=Sx.start0 w hD;obtain⟨ph,ch,pr,cr,s⟩:=v;have HCk:=Lib.hid (fun wx hx=>(show Calls Tryz.prog 65 #[.agg [.string s.name,.int .i64 s.retain,.slice ph s.holds.length ch,.slice pr s.recs.length cr].toArray] wx (Ret (.bool (stmOk s)) wx) from smcheck_calls hv wx hx));have hA:applySm s e=if stmOk s=false then(stm0,2) else if(doesF s e).2=0 then doesF s e else(stm0,(doesF s e).2):=rfl
 have hC1:(entL e).toArray=entC e:=rfl;have hC2:(svL ⟨ph,ch,pr,cr,s⟩).toArray=sC s.name s.retain (.slice ph s.holds.length ch) (.slice pr s.recs.length cr):=rfl;rw[hC1,hC2];clear hC1 hC2;obtain⟨b,hb⟩:∃b,stmOk s=b:=⟨_,rfl⟩;rw[hb] at HCk hA
 cases b with
 |false=>
  have HA:Hid (applySm s e=(stm0,2)):=Lib.hid (hA.trans (if_pos rfl));clear hA hb;go_enter Tryz.func68,Tryz.ntmps68;go_wp2_with (first|(with_reducible (refine xval rfl 10 rfl (.agg [.string noS,.int .i64 0,.slice none 0 0,.slice none 0 0].toArray) (fun w=>by kernel_rfl) ?_))|((with_reducible refine xbaS 2 rfl rfl rfl hst rfl ?_);clear hst;intro b2 w' hst)|((with_reducible refine xbaS 3 rfl rfl rfl hst rfl ?_);clear hst;intro b3 w' hst)|(with_reducible refine xnwS 4 rfl rfl rfl hst ?_;clear hst;intro b4 w' hst)|(with_reducible first|refine xa rfl rfl rfl hst ?_|(refine xsa rfl rfl rfl rfl hst ?_;clear hst;intro w' hst))|(with_reducible (refine callB (HCk.out _ hst.data) hst ?_;clear hst;intro w' hst)));refine bodyPost_ret (results2 rfl (res_agg rfl hst.st.has) res_tmp) rfl ⟨sv0,[],by rw[HA.out];rfl,by rw[HA.out];rfl,StmAt.zero _,hst.drop.drop.drop.st⟩
 |true=>
  have hA2:applySm s e=if(doesF s e).2=0 then doesF s e else(stm0,(doesF s e).2):=hA.trans (if_neg (by decide))
  have hlen:=does_len s e
  have hsm:s.holds.length≤4∧s.recs.length≤64:=by
   unfold stmOk at hb;simp only[Bool.and_eq_true,decide_eq_true_eq] at hb;obtain⟨_,_,_,h4,h5,_⟩:=hb;unfold holdsF at h4;simp only[Bool.and_eq_true,decide_eq_true_eq] at h4;exact⟨by have:=h4.2.2;omega,by omega⟩
  have HNm:=Lib.hid (show(doesF s e).1.name.size≤maxLen∧∀x∈(doesF s e).1.holds,x.size≤maxLen from⟨by rw[does_name];exact hv.name,fun x hx=>by
   rcases does_holds s e hx with h |h
   ·exact hv.hsz x h
   ·rw[h];exact hnm⟩)
  replace hA2:=Lib.hid hA2;clear hA hb;have HV:=Lib.hid hv;clear hv;go_enter Tryz.func68,Tryz.ntmps68;go_wp2_with (first|((with_reducible refine xbaS 2 rfl rfl rfl hst rfl ?_);clear hst;intro b2 w' hst)|((with_reducible refine xbaS 3 rfl rfl rfl hst rfl ?_);clear hst;intro b3 w' hst)|(with_reducible refine xnwS 4 rfl rfl rfl hst ?_;clear hst;intro b4 w' hst)|(with_reducible refine xa rfl rfl rfl hst ?_)|(with_reducible (refine callB (HCk.out _ hst.data) hst ?_;clear hst;intro w' hst)));refine(own_calls HV.out _ hst.data).mono ?_;rintro en w2 ⟨v',LoH,LoR,rfl,hvs,hH,hR,hs⟩;obtain⟨ph',ch',pr',cr',s'⟩:=v';obtain rfl:s'=s:=hvs;have hH:OwnR 9 1 strL LoH (.slice ph' s'.holds.length ch') s'.holds:=hH;have hR:OwnR 143 37 recL LoR (.slice pr' s'.recs.length cr') s'.recs:=hR;replace hst:=hst.take hs;clear hs;rw[show(svL ⟨ph',ch',pr',cr',s'⟩).toArray=[.string s'.name,.int .i64 s'.retain,.slice ph' s'.holds.length ch',.slice pr' s'.recs.length cr'].toArray from rfl];go_wp2_with (with_reducible first|refine xa rfl rfl rfl hst ?_|(refine xsa rfl rfl rfl rfl hst ?_;clear hst;intro w' hst));refine(does_calls (hst.perm (L':=(b2,sC s'.name s'.retain (.slice ph' s'.holds.length ch') (.slice pr' s'.recs.length cr'),90)::(LoH++(LoR++[(b4,sC noS 0 (.slice none 0 0) (.slice none 0 0),90),(b3,entC e,66)]))) (perm_count fun x=>by simp only[List.count_append,List.count_cons,List.count_nil];omega)) hH hR (by omega) (by omega) e hnm).mono ?_;rintro en w3 ⟨ph2,ch2,pr2,cr2,LoH2,LoR2,rfl,hH2,hR2,hst3⟩;generalize doesF s' e=x at*;have hst:=hst3.perm (L':=(b4,sC noS 0 (.slice none 0 0) (.slice none 0 0),90)::(b2,sC x.1.name x.1.retain (.slice ph2 x.1.holds.length ch2) (.slice pr2 x.1.recs.length cr2),90)::(b3,entC e,66)::(LoH2++LoR2)) (perm_count fun x=>by simp only[List.count_append,List.count_cons,List.count_nil];omega);clear hst3
  by_cases h0:x.2=0
  ·have HA:Hid (applySm s' e=x):=Lib.hid (hA2.out.trans (if_pos h0))
   have HE:=Lib.hid (decide_eq_false (show ¬x.2≠0 by omega));replace h0:=Lib.hid h0;clear hA2;go_wp2_with (first|(with_reducible (refine xval rfl 16 rfl _ (fun w=>Fx.e_neq rfl rfl rfl HE.out w) ?_))|(with_reducible first|refine xa rfl rfl rfl hst ?_|(refine xsa rfl rfl rfl rfl hst ?_;clear hst;intro w' hst)));have hl1:=hlen.1;have hl2:=hlen.2;refine bodyPost_ret (results2 rfl (res_agg rfl hst.st.has) res_tmp) rfl ⟨⟨ph2,ch2,pr2,cr2,x.1⟩,LoH2++LoR2,by rw[HA.out,h0.out];rfl,by rw[HA.out],⟨hH2.rowAt (by omega) (fun p hp=>Or.inr (List.mem_append_left _ hp)),hR2.rowAt (by omega) (fun p hp=>Or.inr (List.mem_append_right _ hp)),HNm.out.1,HNm.out.2⟩,hst.drop.drop.drop.st⟩
  ·have HA:Hid (applySm s' e=(stm0,x.2)):=Lib.hid (hA2.out.trans (if_neg h0))
   have HE:=Lib.hid (decide_eq_true h0);clear hA2 h0;go_wp2_with (first|(with_reducible (refine xval rfl 16 rfl _ (fun w=>Fx.e_neq rfl rfl rfl HE.out w) ?_))|(with_reducible (refine xval rfl 17 rfl (.agg [.string noS,.int .i64 0,.slice none 0 0,.slice none 0 0].toArray) (fun w=>by kernel_rfl) ?_))|(with_reducible (refine xsa rfl rfl rfl rfl hst ?_;clear hst;intro w' hst)));refine bodyPost_ret (results2 rfl (res_agg rfl hst.st.has) res_tmp) rfl ⟨sv0,[],by rw[HA.out];rfl,by rw[HA.out];rfl,StmAt.zero _,?_⟩;have h:=hst.drop.drop.drop;rw[←List.append_nil (LoH2++LoR2)] at h;exact h.dropL.st
end Go.Proofs.YtdkeiefgkgpcbaaGreatDoor
namespace Go.Proofs.YtdkeiefgkgpcbaaGreatDoor
open Go.RowKit
set_option maxHeartbeats 1000000 in
theorem indexSv_calls {D:Dat} {p:Option Addr} {c:Nat} {l:List Sv} (h:RowAt D 90 4 svL p c l) (w:World) (hD:Holds D w) (f:FuncId) (cap:Array Value) (P:Sv→Bool) (hen:∀args w,(callFunc f args).run Tryz.prog w=.ok (.enter f args) w)
  (hP:∀i (hi:i<l.length) w',Below w.heap.size w w'→Calls Tryz.prog f (#[.agg (svL l[i]).toArray]++cap) w' (Ret (.bool (P l[i])) w')):Calls Tryz.prog 113 #[.slice p l.length c,.func (.func f) #[] cap] w (Ret (.int .i64 (idxF P l)) w):=by
 have hst:=Sx.start0 w hD;have hbig:=h.big;have HP:=Lib.hid hP;clear hP;go_enter Tryz.func113,Tryz.ntmps113;go_wp2_with fail;go_loopw [8] (fun iv wr=>∃k:Nat,k≤l.length∧iv=.int .i64 k∧Sx [] w wr [] D []∧Hid (∀i (h:i<l.length),i<k→P l[i]=false)) (fun iv _=>l.length-(intOf iv).toNat)
 case atStart=>exact⟨0,by omega,rfl,hst,Lib.hid (fun i h h2=>by omega)⟩
 case round=>
  obtain⟨k,hk,rfl,hst,HF⟩:=hrel
  by_cases hlt:k<l.length
  ·obtain⟨g,off,rfl⟩:=h.at_some hlt
   have hld:=h.lda hlt;have HC:=Lib.hid (HP.out k hlt wr hst.end);have HT:Hid (P l[k]=true→idxF P l=k):=Lib.hid (fun h1=>idxF_at hlt (fun i h2=>HF.out i (by omega) h2) h1)
   have HN:Hid (P l[k]=false→∀i (h:i<l.length),i<k+1→P l[i]=false):=Lib.hid (fun h1 i h2 h3=>by
    by_cases h4:i=k
    ·subst h4;exact h1
    ·exact HF.out i h2 (by omega))
   generalize P l[k]=b at*;generalize l[k]=r at*;go_wp2_with (first|(with_reducible refine xd rfl rfl rfl hst ?_)|(refine xcfA rfl rfl rfl rfl hen HC.out hst ?_;clear hst;intro w' hst))
   ·have h1:=HT.out (by assumption)
    go_ret;exact⟨by rw[h1];rfl,hst.end⟩
   ·have h1:=HN.out (by assumption)
    go_roundw
    case rel=>exact⟨k+1,by omega,by go_num,hst,Lib.hid h1⟩
    case measure=>simp[intOf];omega
  ·obtain rfl:k=l.length:=by omega
   have h1:=idxF_none (fun i h=>HF.out i h h);go_wp2_with fail;go_ret;exact⟨by rw[h1];rfl,hst.end⟩
structure Tt where
 clock:Int
 l:List Stm
structure Tv where
 p:Option Addr
 c:Nat
 clock:Int
 l:List Sv
def Tv.t (v:Tv):Tt:=⟨v.clock,v.l.map (·.s)⟩
def ttL (v:Tv):List Value:=[.int .i64 v.clock,.slice v.p v.l.length v.c]
def tt0:Tt:=⟨0,[]⟩
def tv0:Tv:=⟨none,0,0,[]⟩
structure TtAt (D:Dat) (v:Tv):Prop where
 row:RowAt D 90 4 svL v.p v.c v.l
 all:∀x∈v.l,StmAt D x
theorem TtAt.mono {D D':Dat} {v:Tv} (h:TtAt D v) (hs:∀p,D p→D' p):TtAt D' v:=⟨h.row.mono hs,fun x hx=>(h.all x hx).mono hs⟩
theorem TtAt.zero (D:Dat):TtAt D tv0:=⟨RowAt.nil ..,by intro x hx;cases hx⟩
def tC (c:Int) (q:Value):Array Value:=#[.int .i64 c,q]
section
variable (c:Int) (q:Value)
instance tc0:CellAt (tC c q) 0 (.int .i64 c):=⟨rfl⟩
instance tc1:CellAt (tC c q) 1 q:=⟨rfl⟩
instance tcAll:PartAt (tC c q) 0 2 [.int .i64 c,q]:=⟨rfl,fun j u h=>by rw[Nat.zero_add];simpa[tC] using h⟩
instance tcw0 (k:Int):WrAt (tC c q) 0 1 (.int .i64 k) (tC k q):=wr_one _ _ _ _ rfl rfl (Nat.le_of_ble_eq_true rfl) rfl
instance tcw1 (p:Option Addr) (m d:Nat):WrAt (tC c q) 1 1 (.slice p m d) (tC c (.slice p m d)):=wr_one _ _ _ _ rfl rfl (Nat.le_of_ble_eq_true rfl) rfl
instance tcwAll (k:Int) (p:Option Addr) (m d:Nat):WrAt (tC c q) 0 2 (.agg [.int .i64 k,.slice p m d].toArray) (tC k (.slice p m d)):=wr_row _ _ _ _ [.int .i64 k,.slice p m d] rfl rfl (Nat.le_of_ble_eq_true rfl) (by kernel_rfl)
end
instance (priority:=2000) zeroTc:ZeroT 31 (tC 0 (.slice none 0 0)):=.agg fun w=>by kernel_rfl
instance aggTt:AggT 31 2:=⟨fun w=>by kernel_rfl,by kernel_rfl⟩
def nmEq (nm:ByteArray) (v:Sv):Bool:=v.s.name.toList==nm.toList
theorem findC_calls {D:Dat} (v:Sv) {b:Nat} {nm:ByteArray} (e1:LdD D 9 ⟨b,0,none⟩ (.string nm)) (w:World) (hD:Holds D w):Calls Tryz.prog 114 #[.agg (svL v).toArray,.pointer (some ⟨b,0,none⟩)] w (Ret (.bool (nmEq nm v)) w):=by
 have hst:=Sx.start0 w hD;have hC:(svL v).toArray=svC v:=rfl;obtain⟨q,hq⟩:∃q,(v.s.name.toList==nm.toList)=q:=⟨_,rfl⟩;have HQ:Hid (nmEq nm v=q):=Lib.hid hq;replace hq:=Lib.hid hq;rw[hC];clear hC;go_enter Tryz.func114,Tryz.ntmps114;go_wp2_with (first|(with_reducible (refine xval rfl 7 rfl (.bool q) (fun w=>e_eqls rfl rfl rfl hq.out w) ?_))|(with_reducible first|refine x1 rfl rfl rfl hst ?_|refine xd rfl rfl rfl hst ?_|(refine xba rfl rfl hst rfl ?_;clear hst;intro bb w' hst)));go_ret;exact⟨by rw[HQ.out];rfl,hst.end⟩
def ttAt (l:List Sv) (nm:ByteArray):Int:=idxF (nmEq nm) l
def ttFind (l:List Sv) (nm:ByteArray):Value:=.tuple #[.int .i64 (max (ttAt l nm) 0),.bool (decide (0≤ttAt l nm))]
set_option maxHeartbeats 1000000 in
theorem ttfind_calls {D:Dat} {v:Tv} (hv:TtAt D v) (nm:ByteArray) (w:World) (hD:Holds D w):Calls Tryz.prog 66 #[.agg (ttL v).toArray,.string nm] w (Ret (ttFind v.l nm) w):=by
 have hst:=Sx.start0 w hD;obtain⟨p,c,clock,l⟩:=v;have hr:RowAt D 90 4 svL p c l:=hv.row;have hC:(ttL ⟨p,c,clock,l⟩).toArray=tC clock (.slice p l.length c):=rfl;rw[hC];clear hC hv;go_enter Tryz.func66,Tryz.ntmps66;go_wp2_with (first|((with_reducible refine xbaS 2 rfl rfl rfl hst rfl ?_);clear hst;intro b2 w' hst)|(with_reducible (refine xval rfl 9 rfl (.func (.func 114) #[] #[.pointer (some ⟨bb,0,none⟩)]) (fun w=>by kernel_rfl) ?_))|(with_reducible first|refine x1 rfl rfl rfl hst ?_|(refine xbs rfl rfl hst rfl ?_;clear hst;intro bb w' hst)));refine(indexSv_calls hr w' hst.data 114 #[.pointer (some ⟨bb,0,none⟩)] (nmEq nm) (fun args w=>by kernel_rfl) (fun i hi wx hb=>findC_calls (D:=fun q=>q=(bb,#[.string nm],9)) l[i] (LdD.one (hD:=rfl) (hv:=rfl)) wx (fun q hq=>by subst hq;exact⟨_,(hst.below hb).st.blk _ (by simp)⟩))).mono ?_;rintro en w2 ⟨rfl,hb⟩;replace hst:=hst.below hb;obtain⟨i,hi⟩:∃i,idxF (nmEq nm) l=i:=⟨_,rfl⟩;have HF:Hid (ttFind l nm=.tuple #[.int .i64 (max i 0),.bool (decide (0≤i))]):=Lib.hid (by unfold ttFind ttAt;rw[hi]);rw[hi];obtain⟨q,hq⟩:∃q,decide (0≤i)=q:=⟨_,rfl⟩;rw[hq] at HF;replace hq:=Lib.hid hq;clear hi hb;go_wp2_with (first|(with_reducible (refine xval rfl 14 rfl (.bool q) (fun w=>Fx.e_geq rfl rfl rfl hq.out w) ?_))|fail);refine bodyPost_ret (results2 rfl res_tmp res_tmp) rfl ⟨by rw[HF.out];rfl,hst.end⟩
end Go.Proofs.YtdkeiefgkgpcbaaGreatDoor
namespace Go.Proofs.YtdkeiefgkgpcbaaGreatDoor
open Go.RowKit
instance scwSv (n:ByteArray) (r:Int) (h q:Value) (v:Sv):WrAt (sC n r h q) 0 4 (.agg (svL v).toArray) (svC v):=wr_row _ _ _ _ (svL v) rfl rfl (Nat.le_of_ble_eq_true rfl) (by kernel_rfl)
def lateT (clock:Int) (s:Stm):Bool:=decide (0<s.recs.length)&&decide (clock<(s.recs.getD (s.recs.length-1) rec0).time)
def goodAt (clock:Int) (l:List Sv) (k:Nat):Bool:=match l[k]? with
 |some v=>(stmOk v.s&& !lateT clock v.s)&&decide (max (ttAt l v.s.name) 0=(k:Int))
 |none=>true
def tvOk (v:Tv):Bool:=decide (0≤v.clock)&&(decide (v.clock≤1073741824)&&(decide ((v.l.length:Int)≤8)&&(List.range v.l.length).all (goodAt v.clock v.l)))
theorem tvOk_head {v:Tv} (h:(decide (0≤v.clock)&&(decide (v.clock≤1073741824)&&decide ((v.l.length:Int)≤8)))=false):tvOk v=false:=by
 unfold tvOk
 revert h
 cases decide (0≤v.clock)<;>cases decide (v.clock≤1073741824)<;>cases decide ((v.l.length:Int)≤8)<;>simp
theorem tvOk_tail {v:Tv} (h:(decide (0≤v.clock)&&(decide (v.clock≤1073741824)&&decide ((v.l.length:Int)≤8)))=true):tvOk v=(List.range v.l.length).all (goodAt v.clock v.l):=by
 unfold tvOk
 revert h
 cases decide (0≤v.clock)<;>cases decide (v.clock≤1073741824)<;>cases decide ((v.l.length:Int)≤8)<;>simp
set_option maxHeartbeats 4000000 in
theorem ttcheck_calls {D:Dat} {p:Option Addr} {c:Nat} {clock:Int} {l:List Sv} (hv:TtAt D ⟨p,c,clock,l⟩) (w:World) (hD:Holds D w):Calls Tryz.prog 28 #[.agg [.int .i64 clock,.slice p l.length c].toArray] w (Ret (.bool (tvOk ⟨p,c,clock,l⟩)) w):=by
 have hst:=Sx.start0 w hD;have HFd:=Lib.hid (fun nm wx hx=>(show Calls Tryz.prog 66 #[.agg [.int .i64 clock,.slice p l.length c].toArray,.string nm] wx (Ret (ttFind l nm) wx) from ttfind_calls hv nm wx hx));have hr:RowAt D 90 4 svL p c l:=hv.row;have HV:=Lib.hid hv.all;have hcap:=hr.cap;have hbg:=hr.big;have hh:= @tvOk_head ⟨p,c,clock,l⟩;have ht:= @tvOk_tail ⟨p,c,clock,l⟩;have hC:[.int .i64 clock,.slice p l.length c].toArray=tC clock (.slice p l.length c):=rfl;rw[hC];clear hC hv;obtain⟨b1,h1⟩:∃b,decide (clock<0)=b:=⟨_,rfl⟩;obtain⟨b2,h2⟩:∃b,decide (1073741824<clock)=b:=⟨_,rfl⟩;obtain⟨b3,h3⟩:∃b,decide ((8:Int)<(l.length:Int))=b:=⟨_,rfl⟩
 have hhh:(decide (0≤clock)&&(decide (clock≤1073741824)&&decide ((l.length:Int)≤8)))=(!b1&&(!b2&& !b3)):=by
  rw[←h1,←h2,←h3];have e1:decide (0≤clock)= !decide (clock<0):=by by_cases h:clock<0<;>simp[h]<;>omega
  have e2:decide (clock≤1073741824)= !decide (1073741824<clock):=by by_cases h:1073741824<clock<;>simp[h]<;>omega
  have e3:decide ((l.length:Int)≤8)= !decide ((8:Int)<(l.length:Int)):=by by_cases h:(8:Int)<(l.length:Int)<;>simp[h]<;>omega
  rw[e1,e2,e3]
 simp only at hh ht;rw[hhh] at hh ht;have HHd:=Lib.hid hh;have HTl:=Lib.hid ht;replace h1:=Lib.hid h1;replace h2:=Lib.hid h2;replace h3:=Lib.hid h3;clear hh ht hhh;obtain⟨res,hres⟩:∃res,tvOk ⟨p,c,clock,l⟩=res:=⟨_,rfl⟩;rw[hres] at HHd HTl ⊢;clear hres;go_enter Tryz.func28,Tryz.ntmps28
 cases b1 with
 |true=>
  have HR:=Lib.hid (HHd.out rfl);clear HHd HTl;go_wp2_with (first|((with_reducible refine xbaS 1 rfl rfl rfl hst rfl ?_);clear hst;intro b1 w' hst)|(with_reducible (refine xval rfl 10 rfl _ (fun w=>Fx.e_lss rfl rfl rfl h1.out w) ?_))|(with_reducible (refine xval rfl 14 rfl _ (fun w=>Fx.e_gtr rfl rfl rfl h2.out w) ?_))|(with_reducible (refine xval rfl 20 rfl _ (fun w=>Fx.e_gtr rfl rfl rfl h3.out w) ?_))|(with_reducible refine x1 rfl rfl rfl hst ?_));go_ret;exact⟨by rw[HR.out];rfl,hst.end⟩
 |false=>
 cases b2 with
 |true=>
  have HR:=Lib.hid (HHd.out rfl);clear HHd HTl;go_wp2_with (first|((with_reducible refine xbaS 1 rfl rfl rfl hst rfl ?_);clear hst;intro b1 w' hst)|(with_reducible (refine xval rfl 10 rfl _ (fun w=>Fx.e_lss rfl rfl rfl h1.out w) ?_))|(with_reducible (refine xval rfl 14 rfl _ (fun w=>Fx.e_gtr rfl rfl rfl h2.out w) ?_))|(with_reducible (refine xval rfl 20 rfl _ (fun w=>Fx.e_gtr rfl rfl rfl h3.out w) ?_))|(with_reducible refine x1 rfl rfl rfl hst ?_));go_ret;exact⟨by rw[HR.out];rfl,hst.end⟩
 |false=>
 cases b3 with
 |true=>
  have HR:=Lib.hid (HHd.out rfl);clear HHd HTl;go_wp2_with (first|((with_reducible refine xbaS 1 rfl rfl rfl hst rfl ?_);clear hst;intro b1 w' hst)|(with_reducible (refine xval rfl 10 rfl _ (fun w=>Fx.e_lss rfl rfl rfl h1.out w) ?_))|(with_reducible (refine xval rfl 14 rfl _ (fun w=>Fx.e_gtr rfl rfl rfl h2.out w) ?_))|(with_reducible (refine xval rfl 20 rfl _ (fun w=>Fx.e_gtr rfl rfl rfl h3.out w) ?_))|(with_reducible refine x1 rfl rfl rfl hst ?_));go_ret;exact⟨by rw[HR.out];rfl,hst.end⟩
 |false=>
 have HR:=Lib.hid (HTl.out rfl);clear HHd HTl;go_wp2_with (first|((with_reducible refine xbaS 1 rfl rfl rfl hst rfl ?_);clear hst;intro b1 w' hst)|(with_reducible (refine xval rfl 10 rfl _ (fun w=>Fx.e_lss rfl rfl rfl h1.out w) ?_))|(with_reducible (refine xval rfl 14 rfl _ (fun w=>Fx.e_gtr rfl rfl rfl h2.out w) ?_))|(with_reducible (refine xval rfl 20 rfl _ (fun w=>Fx.e_gtr rfl rfl rfl h3.out w) ?_))|(with_reducible refine x1 rfl rfl rfl hst ?_));clear h1 h2 h3;generalize hact:Act.mk _ _=act;have hv1:act.tmps.getD 1 undef=.pointer (some ⟨b1,0,none⟩):=by rw[←hact];rfl
 have hv23:act.tmps.getD 23 undef=.slice p l.length c:=by rw[←hact];rfl
 have hv24:act.tmps.getD 24 undef=.int .i64 l.length:=by rw[←hact];rfl
 have hv25:act.tmps.getD 25 undef=.int .i64 0:=by rw[←hact];rfl
 obtain⟨fY,hfY,hact2⟩:=act_lit act 63 (by rw[←hact];rfl) (by rw[←hact]);clear hact;have he1:fY 1=.pointer (some ⟨b1,0,none⟩):=(hfY 1).symm.trans hv1;have he23:fY 23=.slice p l.length c:=(hfY 23).symm.trans hv23;have he24:fY 24=.int .i64 l.length:=(hfY 24).symm.trans hv24;have he25:fY 25=.int .i64 0:=(hfY 25).symm.trans hv25;simp only[show List.range 63=[0,1,2,3,4,5,6,7,8,9,10,11,12,13,14,15,16,17,18,19,20,21,22,23,24,25,26,27,28,29,30,31,32,33,34,35,36,37,38,39,40,41,42,43,44,45,46,47,48,49,50,51,52,53,54,55,56,57,58,59,60,61,62] from rfl,List.map_cons,List.map_nil,he1,he23,he24,he25] at hact2;clear hfY hv1 he1 hv23 he23 hv24 he24 hv25 he25;subst hact2;go_loopw [25] (fun iv wr=>∃k:Nat,k≤l.length∧iv=.int .i64 k∧Hid (∀i,i<k→goodAt clock l i=true)∧Sx [] w wr [(b1,tC clock (.slice p l.length c),31)] D []) (fun iv _=>l.length-(intOf iv).toNat)
 case atStart=>exact⟨0,Nat.zero_le _,by go_num,Lib.hid (fun i h=>by omega),hst⟩
 case round=>
  clear hst;obtain⟨k,hk,rfl,HK,hst⟩:=hrel
  by_cases hlt:k<l.length
  ·obtain⟨g,off,rfl⟩:=hr.at_some hlt
   have e1:LdD D 90 ⟨g,off+k*4,none⟩ (.agg (svL l[k]).toArray):=hr.lda hlt;have HX:=HV.out _ (List.getElem_mem hlt);have hg:goodAt clock l k=((stmOk l[k].s&& !lateT clock l[k].s)&&decide (max (ttAt l l[k].s.name) 0=(k:Int))):=by unfold goodAt;rw[List.getElem?_eq_getElem hlt]
   have HT:goodAt clock l k=false→Hid (res=false):=fun h=>Lib.hid (by
    rw[HR.out,List.all_eq_false]
    exact⟨k,List.mem_range.2 hlt,by rw[h];decide⟩)
   have HN:goodAt clock l k=true→Hid (∀i,i<k+1→goodAt clock l i=true):=fun h=>Lib.hid (fun i hi=>by
    by_cases h2:i=k
    ·subst h2;exact h
    ·exact HK.out i (by omega))
   rw[hg] at HT HN;clear hg;generalize l[k]=x at*;obtain⟨xh,xch,xr,xcr,s⟩:=x;simp only at HT HN;have HCk:=Lib.hid (fun wx hx=>smcheck_calls HX wx hx);have hrr:RowAt D 143 37 recL xr xcr s.recs:=HX.recs;have hrb:=hrr.big;obtain⟨b,hb⟩:∃b,(!stmOk s||lateT clock s)=b:=⟨_,rfl⟩
   have HT1:b=true→Hid (res=false):=fun h=>HT (by
    rw[h] at hb;rcases Bool.or_eq_true_iff.1 hb with h1 |h1
    ·rw[show stmOk s=false by simpa using h1];rfl
    ·rw[h1];simp)
   have hcs:(stmOk s=false∧b=true)∨(stmOk s=true∧s.recs.length=0∧b=false)∨(stmOk s=true∧0<s.recs.length∧decide (clock<(s.recs.getD (s.recs.length-1) rec0).time)=b):=by
    subst hb;unfold lateT
    by_cases h0:0<s.recs.length
    ·rw[decide_eq_true h0]
     cases stmOk s<;>simp[h0]
    ·rw[decide_eq_false h0]
     have h00:s.recs.length=0:=by omega
     cases stmOk s
     ·exact Or.inl ⟨rfl,rfl⟩
     ·exact Or.inr (Or.inl ⟨rfl,h00,rfl⟩)
   have HN1:b=false→(stmOk s&& !lateT clock s)=true:=fun h=>by
    rw[h] at hb;obtain⟨h1,h2⟩:=Bool.or_eq_false_iff.1 hb;rw[h2,show stmOk s=true by simpa using h1];rfl
   replace HN1:=Lib.hid HN1;replace HT:=Lib.hid HT;replace HN:=Lib.hid HN;clear hb;go_wp2_with (with_reducible first|refine x1 rfl rfl rfl hst ?_|refine xd rfl rfl rfl hst ?_|(refine xsa rfl rfl rfl rfl hst ?_;clear hst;intro w' hst)|(refine xnw rfl rfl hst ?_;clear hst;intro bn w' hst));refine Fx.goP (fun _=>false) (fun i=> !(i==0||i==1||i==8||i==13||i==15)) (fun _=>false) (List.range 19) rfl hst (by kernel_rfl) (by kernel_rfl) (by kernel_rfl) (by kernel_rfl) (by kernel_rfl) (fun L' a'=>L'=[(bn,svC ⟨xh,xch,xr,xcr,s⟩,90),(b1,tC clock (.slice (some ⟨g,off,none⟩) l.length c),31)]∧a'.tmps.size=63∧a'.defers=[]∧[0,1,3,4,8,9,10,11,12,13,14,15,16,17,18,19,20,21,22,23,24,25,51].map (fun i=>a'.tmps.getD i undef)=[fY 0,.pointer (some ⟨b1,0,none⟩),.int .i64 k,.pointer (some ⟨bn,0,none⟩),fY 8,fY 9,fY 10,fY 11,fY 12,fY 13,fY 14,fY 15,fY 16,fY 17,fY 18,fY 19,fY 20,fY 21,fY 22,.slice (some ⟨g,off,none⟩) l.length c,.int .i64 l.length,.int .i64 k,.bool b]) ?_ ?_
   ·show Fx.wpLX _ _ _ [0,1,2,3,4,5,6,7,8,9,10,11,12,13,14,15,16,17,18] _ _
    clear hst HT HN HK;rcases hcs with⟨h1,rfl⟩ |⟨h1,h0,rfl⟩ |⟨h1,h0,hlt2⟩
    ·rw[h1] at HCk
     refine Fx.lA rfl rfl rfl rfl rfl rfl ?_;refine Fx.callB rfl rfl (fun w h=>h) (fun w h=>HCk.out w h.data) rfl rfl (fun w=>by kernel_rfl) ?_;refine Fx.val rfl rfl rfl rfl (v:=.bool true) (Fx.e_notT rfl rfl) ?_
     repeat(first|refine Fx.valN (v:=.bool true) rfl rfl rfl rfl (Fx.e_pkT rfl rfl rfl) ?_|refine Fx.valN (v:=.bool true) rfl rfl rfl rfl (Fx.e_mv rfl rfl) ?_|refine Fx.skipN rfl rfl rfl (by kernel_rfl) rfl ?_|refine Fx.skipBN rfl rfl rfl (by kernel_rfl) (fun w h=>h) ?_)
     exact⟨rfl,by kernel_rfl,by kernel_rfl,by kernel_rfl⟩
    ·rw[h1] at HCk
     refine Fx.lA rfl rfl rfl rfl rfl rfl ?_;refine Fx.callB rfl rfl (fun w h=>h) (fun w h=>HCk.out w h.data) rfl rfl (fun w=>by kernel_rfl) ?_;refine Fx.val rfl rfl rfl rfl (v:=.bool false) (Fx.e_notF rfl rfl) ?_;refine Fx.val rfl rfl rfl rfl (v:=.bool false) (Fx.e_mv rfl rfl) ?_;refine Fx.val rfl rfl rfl (by kernel_rfl) (v:=.int .i64 s.recs.length) (Fx.e_mv rfl rfl) ?_;refine Fx.val rfl rfl rfl (by kernel_rfl) (v:=.bool false) (Fx.e_gtr rfl rfl rfl (by rw[h0];rfl)) ?_;refine Fx.val rfl rfl rfl (by kernel_rfl) (v:=.bool false) (Fx.e_mv rfl rfl) ?_
     iterate 10 (first|refine Fx.skipN rfl rfl rfl (by kernel_rfl) rfl ?_|refine Fx.skipBN rfl rfl rfl (by kernel_rfl) (fun w h=>h) ?_)
     refine Fx.val rfl rfl rfl (by kernel_rfl) (v:=.bool false) (Fx.e_pkF rfl rfl rfl) ?_;refine Fx.val rfl rfl rfl rfl (v:=.bool false) (Fx.e_pkF rfl rfl rfl) ?_;exact⟨rfl,by kernel_rfl,by kernel_rfl,by kernel_rfl⟩
    ·rw[h1] at HCk
     have HS1:=Lib.hid (show((s.recs.length:Int)-1)=((s.recs.length-1:Nat):Int) by omega);have hk1:s.recs.length-1<s.recs.length:=by omega
     obtain⟨g2,off2,rfl⟩:=hrr.at_some hk1
     have e2:LdD D 3 ⟨g2,off2+(s.recs.length-1)*37+0,none⟩ (.int .i64 (s.recs.getD (s.recs.length-1) rec0).time):=by
      rw[List.getD_eq_getElem?_getD,List.getElem?_eq_getElem hk1];exact hrr.ldf hk1 0 rfl rfl
     generalize (s.recs.getD (s.recs.length-1) rec0).time=tm at*;refine Fx.lA rfl rfl rfl rfl rfl rfl ?_;refine Fx.callB rfl rfl (fun w h=>h) (fun w h=>HCk.out w h.data) rfl rfl (fun w=>by kernel_rfl) ?_;refine Fx.val rfl rfl rfl rfl (v:=.bool false) (Fx.e_notF rfl rfl) ?_;refine Fx.val rfl rfl rfl rfl (v:=.bool false) (Fx.e_mv rfl rfl) ?_;refine Fx.val rfl rfl rfl (by kernel_rfl) (v:=.int .i64 s.recs.length) (Fx.e_mv rfl rfl) ?_;refine Fx.val rfl rfl rfl (by kernel_rfl) (v:=.bool true) (Fx.e_gtr rfl rfl rfl (decide_eq_true (by omega))) ?_;refine Fx.val rfl rfl rfl (by kernel_rfl) (v:=.bool true) (Fx.e_mv rfl rfl) ?_;refine Fx.fa rfl rfl rfl (by kernel_rfl) rfl rfl ?_;refine Fx.l1 rfl rfl rfl (by kernel_rfl) rfl rfl ?_;refine Fx.val rfl rfl rfl (by kernel_rfl) (v:=.int .i64 s.recs.length) (Fx.e_mv rfl rfl) ?_;refine Fx.val rfl rfl rfl (by kernel_rfl) (v:=.int .i64 ((s.recs.length-1:Nat):Int)) (fun w=>by rw[←HS1.out];exact Fx.e_sub rfl rfl rfl (by omega) w) ?_;refine Fx.ix rfl rfl rfl (by kernel_rfl) rfl rfl rfl hk1 ?_;refine Fx.fa rfl rfl rfl (by kernel_rfl) rfl rfl ?_;refine Fx.lD rfl rfl rfl (by kernel_rfl) rfl rfl ?_;refine Fx.fa rfl rfl rfl (by kernel_rfl) rfl rfl ?_;refine Fx.l1 rfl rfl rfl (by kernel_rfl) rfl rfl ?_;refine Fx.val rfl rfl rfl (by kernel_rfl) (v:=.bool b) (Fx.e_gtr rfl rfl rfl hlt2) ?_;refine Fx.val rfl rfl rfl (by kernel_rfl) (v:=.bool b) (Fx.e_pkT rfl rfl rfl) ?_;refine Fx.val rfl rfl rfl rfl (v:=.bool b) (Fx.e_pkF rfl rfl rfl) ?_;exact⟨rfl,by kernel_rfl,by kernel_rfl,by kernel_rfl⟩
   ·clear hcs hst
    rintro L' a1 ⟨rfl,hsz,hdf,hvs⟩ w' hst;simp only[List.map_cons,List.map_nil,List.cons.injEq,and_true] at hvs;obtain⟨hv0,hv1,hv3,hv4,hv8,hv9,hv10,hv11,hv12,hv13,hv14,hv15,hv16,hv17,hv18,hv19,hv20,hv21,hv22,hv23,hv24,hv25,hv51⟩:=hvs;obtain⟨fZ,hfZ,hact2⟩:=act_lit a1 63 hsz hdf;clear hsz hdf;have he0:fZ 0=fY 0:=(hfZ 0).symm.trans hv0;have he1:fZ 1=.pointer (some ⟨b1,0,none⟩):=(hfZ 1).symm.trans hv1;have he3:fZ 3=.int .i64 k:=(hfZ 3).symm.trans hv3;have he4:fZ 4=.pointer (some ⟨bn,0,none⟩):=(hfZ 4).symm.trans hv4;have he8:fZ 8=fY 8:=(hfZ 8).symm.trans hv8;have he9:fZ 9=fY 9:=(hfZ 9).symm.trans hv9;have he10:fZ 10=fY 10:=(hfZ 10).symm.trans hv10;have he11:fZ 11=fY 11:=(hfZ 11).symm.trans hv11;have he12:fZ 12=fY 12:=(hfZ 12).symm.trans hv12;have he13:fZ 13=fY 13:=(hfZ 13).symm.trans hv13;have he14:fZ 14=fY 14:=(hfZ 14).symm.trans hv14;have he15:fZ 15=fY 15:=(hfZ 15).symm.trans hv15;have he16:fZ 16=fY 16:=(hfZ 16).symm.trans hv16;have he17:fZ 17=fY 17:=(hfZ 17).symm.trans hv17;have he18:fZ 18=fY 18:=(hfZ 18).symm.trans hv18;have he19:fZ 19=fY 19:=(hfZ 19).symm.trans hv19;have he20:fZ 20=fY 20:=(hfZ 20).symm.trans hv20;have he21:fZ 21=fY 21:=(hfZ 21).symm.trans hv21;have he22:fZ 22=fY 22:=(hfZ 22).symm.trans hv22;have he23:fZ 23=.slice (some ⟨g,off,none⟩) l.length c:=(hfZ 23).symm.trans hv23;have he24:fZ 24=.int .i64 l.length:=(hfZ 24).symm.trans hv24;have he25:fZ 25=.int .i64 k:=(hfZ 25).symm.trans hv25;have he51:fZ 51=.bool b:=(hfZ 51).symm.trans hv51;simp only[show List.range 63=[0,1,2,3,4,5,6,7,8,9,10,11,12,13,14,15,16,17,18,19,20,21,22,23,24,25,26,27,28,29,30,31,32,33,34,35,36,37,38,39,40,41,42,43,44,45,46,47,48,49,50,51,52,53,54,55,56,57,58,59,60,61,62] from rfl,List.map_cons,List.map_nil,he0,he1,he3,he4,he8,he9,he10,he11,he12,he13,he14,he15,he16,he17,he18,he19,he20,he21,he22,he23,he24,he25,he51] at hact2;clear hfZ hv0 he0 hv1 he1 hv3 he3 hv4 he4 hv8 he8 hv9 he9 hv10 he10 hv11 he11 hv12 he12 hv13 he13 hv14 he14 hv15 he15 hv16 he16 hv17 he17 hv18 he18 hv19 he19 hv20 he20 hv21 he21 hv22 he22 hv23 he23 hv24 he24 hv25 he25 hv51 he51;subst hact2
    cases b with
    |true=>
     have HR2:=HT1 (by simp);clear HT1 HN1;go_wp2_with fail;go_ret;exact⟨by rw[HR2.out];rfl,hst.end⟩
    |false=>
     have hok:=HN1.out (by simp);have HT2:=HT.out;have HN2:=HN.out;rw[hok,Bool.true_and] at HT2 HN2;have HF2:=Lib.hid (HFd.out s.name);unfold ttFind at HF2;obtain⟨m,hm⟩:∃m,max (ttAt l s.name) 0=m:=⟨_,rfl⟩;rw[hm] at HF2 HT2 HN2;clear hm hok HT1 HN1;generalize decide (0≤ttAt l s.name)=fd at*
     by_cases hmk:m=(k:Int)
     ·have HN3:=HN2 (decide_eq_true hmk)
      have HE:=Lib.hid (decide_eq_false (show ¬m≠(k:Int) by omega));clear HN2 HT2 hmk HT HN;go_wp2_with (first|(with_reducible (refine xval rfl 61 rfl _ (fun w=>Fx.e_neq rfl rfl rfl HE.out w) ?_))|(with_reducible first|refine x1 rfl rfl rfl hst ?_|refine xa rfl rfl rfl hst ?_)|(with_reducible (refine callB (HF2.out _ hst.data) hst ?_;clear hst;intro w' hst)));go_roundw
      case rel=>exact⟨k+1,by omega,by go_num,HN3,hst.drop⟩
      case measure=>simp[intOf];omega
     ·have HR2:=HT2 (decide_eq_false hmk)
      have HE:=Lib.hid (decide_eq_true (show m≠(k:Int) from hmk));clear HN2 HT2 hmk HT HN;go_wp2_with (first|(with_reducible (refine xval rfl 61 rfl _ (fun w=>Fx.e_neq rfl rfl rfl HE.out w) ?_))|(with_reducible first|refine x1 rfl rfl rfl hst ?_|refine xa rfl rfl rfl hst ?_)|(with_reducible (refine callB (HF2.out _ hst.data) hst ?_;clear hst;intro w' hst)));go_ret;exact⟨by rw[HR2.out];rfl,hst.end⟩
  ·obtain rfl:k=l.length:=by omega
   have h1:res=true:=by rw[HR.out,List.all_eq_true];exact fun i hi=>HK.out i (List.mem_range.1 hi)
   go_wp2_with fail;go_ret;exact⟨by rw[h1];rfl,hst.end⟩
end Go.Proofs.YtdkeiefgkgpcbaaGreatDoor
namespace Go.Proofs.YtdkeiefgkgpcbaaGreatDoor
open Go.RowKit
def atN (l:List Stm) (nm:ByteArray):Int:=idxF (fun s=>s.name.toList==nm.toList) l
theorem ttAt_map (l:List Sv) (nm:ByteArray):ttAt l nm=atN (l.map (·.s)) nm:=by
 unfold ttAt atN idxF;rw[List.findIdx?_map];rfl
def stmNew (nm:ByteArray):Stm:=⟨nm,0,[],[]⟩
def createF (t:Tt) (nm:ByteArray):Tt×Int:=
 if nameOk nm=false then(tt0,130) else if 0≤atN t.l nm then(tt0,160) else if t.l.length=8 then(tt0,3) else(⟨t.clock,t.l++[stmNew nm]⟩,0)
def TtPost (w:World) (D:Dat) (x:Tt×Int) (en:Ending) (w':World):Prop:=
 ∃v' Lo,en=.returned (.tuple #[.agg (ttL v').toArray,.int .i64 x.2])∧v'.t=x.1∧TtAt (fun p=>D p∨p∈Lo) v'∧St [] w w' Lo
theorem run_bsv (v:Sv) (w:World):(Instr.buildSlice 29 1 #[(0,.agg (svL v).toArray)]).run Tryz.prog w=.ok (.slice (some ⟨w.heap.size,0,none⟩) 1 1) (w.alloc (.cells (svL v).toArray 90)):=by kernel_rfl
set_option maxHeartbeats 4000000 in
theorem ttcreate_calls {D:Dat} {p:Option Addr} {c:Nat} {clock:Int} {l:List Sv} (hv:TtAt D ⟨p,c,clock,l⟩) (hl:l.length≤1000) (nm:ByteArray) (hnm:nm.size≤maxLen) (w:World) (hD:Holds D w):
  Calls Tryz.prog 67 #[.agg [.int .i64 clock,.slice p l.length c].toArray,.string nm] w (TtPost w D (createF ⟨clock,l.map (·.s)⟩ nm)):=by
 have hst:=Sx.start0 w hD;have HFd:=Lib.hid (fun wx hx=>(show Calls Tryz.prog 66 #[.agg [.int .i64 clock,.slice p l.length c].toArray,.string nm] wx (Ret (ttFind l nm) wx) from ttfind_calls hv nm wx hx));have HNw:=Lib.hid (fun wx=>(show Calls Tryz.prog 115 #[.string nm] wx (Ret (.tuple #[.agg (svL (if nameOk nm then⟨none,0,none,0,⟨nm,0,[],[]⟩⟩ else sv0)).toArray,.int .i64 (nmErr nm)]) wx) from snew_run nm hnm wx));have HCl:=Lib.hid (fun wx hx=>cloneSv_calls hv.row wx hx);have HV:=Lib.hid hv;clear hv;simp only at HCl;have hC:[.int .i64 clock,.slice p l.length c].toArray=tC clock (.slice p l.length c):=rfl;rw[hC];clear hC;obtain⟨at_,hat⟩:∃a,atN (l.map (·.s)) nm=a:=⟨_,rfl⟩;have hat2:ttAt l nm=at_:=(ttAt_map l nm).trans hat
 unfold ttFind at HFd;rw[hat2] at HFd
 have hF:createF ⟨clock,l.map (·.s)⟩ nm=if nameOk nm=false then(tt0,130) else if 0≤at_ then(tt0,160) else if l.length=8 then(tt0,3) else(⟨clock,l.map (·.s)++[stmNew nm]⟩,0):=by
  unfold createF;simp only[hat,List.length_map]
 clear hat hat2
 cases hn:nameOk nm with
 |false=>
  have HR:Hid (createF ⟨clock,l.map (·.s)⟩ nm=(tt0,130)):=Lib.hid (by rw[hF,if_pos hn]);have HNw2:=HNw.out;rw[nmErr_no hn,if_neg (by rw[hn];decide)] at HNw2;have HNw3:=Lib.hid HNw2;clear HNw HNw2 hF hn;go_enter Tryz.func67,Tryz.ntmps67;go_wp2_with (first|(with_reducible (refine xval rfl 17 rfl (.agg [.int .i64 0,.slice none 0 0].toArray) (fun w=>by kernel_rfl) ?_))|((with_reducible refine xbaS 2 rfl rfl rfl hst rfl ?_);clear hst;intro b2 w' hst)|(with_reducible refine xnwS 4 rfl rfl rfl hst ?_;clear hst;intro b4 w' hst)|(with_reducible refine xnwS 6 rfl rfl rfl hst ?_;clear hst;intro b6 w' hst)|(with_reducible (refine xsa rfl rfl rfl rfl hst ?_;clear hst;intro w' hst))|(with_reducible (refine callB (HNw3.out _) hst ?_;clear hst;intro w' hst)));refine bodyPost_ret (results2 rfl (res_agg rfl hst.st.has) res_tmp) rfl ⟨tv0,[],by rw[HR.out];rfl,by rw[HR.out];rfl,TtAt.zero _,hst.drop.drop.drop.st⟩
 |true=>
 rw[if_neg (by rw[hn];decide)] at hF;have HNw2:=HNw.out;rw[nmErr_ok hn,if_pos hn] at HNw2;have HNw3:=Lib.hid HNw2;clear HNw HNw2 hn
 by_cases h0:0≤at_
 ·have HR:Hid (createF ⟨clock,l.map (·.s)⟩ nm=(tt0,160)):=Lib.hid (by rw[hF,if_pos h0])
  have HF2:=HFd.out;rw[decide_eq_true h0] at HF2;have HF3:=Lib.hid HF2;clear HFd HF2 hF h0;go_enter Tryz.func67,Tryz.ntmps67;go_wp2_with (first|(with_reducible (refine xval rfl 26 rfl (.agg [.int .i64 0,.slice none 0 0].toArray) (fun w=>by kernel_rfl) ?_))|((with_reducible refine xbaS 2 rfl rfl rfl hst rfl ?_);clear hst;intro b2 w' hst)|(with_reducible refine xnwS 4 rfl rfl rfl hst ?_;clear hst;intro b4 w' hst)|(with_reducible refine xnwS 6 rfl rfl rfl hst ?_;clear hst;intro b6 w' hst)|(with_reducible first|refine xa rfl rfl rfl hst ?_|(refine xsa rfl rfl rfl rfl hst ?_;clear hst;intro w' hst))|(with_reducible (refine callB (HNw3.out _) hst ?_;clear hst;intro w' hst))|(with_reducible (refine callB (HF3.out _ hst.data) hst ?_;clear hst;intro w' hst)));refine bodyPost_ret (results2 rfl (res_agg rfl hst.st.has) res_tmp) rfl ⟨tv0,[],by rw[HR.out];rfl,by rw[HR.out];rfl,TtAt.zero _,hst.drop.drop.drop.st⟩
 rw[if_neg h0] at hF;have HF2:=HFd.out;rw[decide_eq_false h0] at HF2;have HF3:=Lib.hid HF2;clear HFd HF2 h0;obtain⟨b8,h8⟩:∃b,decide ((l.length:Int)=8)=b:=⟨_,rfl⟩;have hF1:b8=true→Hid (createF ⟨clock,l.map (·.s)⟩ nm=(tt0,3)):=fun h=>Lib.hid (by rw[hF,if_pos (by rw[h] at h8;have:=of_decide_eq_true h8;omega)])
 have hF0:b8=false→Hid (createF ⟨clock,l.map (·.s)⟩ nm=(⟨clock,l.map (·.s)++[stmNew nm]⟩,0)):=fun h=>Lib.hid (by rw[hF,if_neg (by rw[h] at h8;have:=of_decide_eq_false h8;omega)])
 replace h8:=Lib.hid h8;clear hF;generalize max at_ 0=m0 at*
 cases b8 with
 |true=>
  have HR:=hF1 rfl;clear hF1 hF0;go_enter Tryz.func67,Tryz.ntmps67;go_wp2_with (first|(with_reducible (refine xval rfl 31 rfl (.agg [.int .i64 0,.slice none 0 0].toArray) (fun w=>by kernel_rfl) ?_))|(with_reducible (refine xval rfl 30 rfl _ (fun w=>Fx.e_eql rfl rfl rfl h8.out w) ?_))|((with_reducible refine xbaS 2 rfl rfl rfl hst rfl ?_);clear hst;intro b2 w' hst)|(with_reducible refine xnwS 4 rfl rfl rfl hst ?_;clear hst;intro b4 w' hst)|(with_reducible refine xnwS 6 rfl rfl rfl hst ?_;clear hst;intro b6 w' hst)|(with_reducible first|refine x1 rfl rfl rfl hst ?_|refine xa rfl rfl rfl hst ?_|(refine xsa rfl rfl rfl rfl hst ?_;clear hst;intro w' hst))|(with_reducible (refine callB (HNw3.out _) hst ?_;clear hst;intro w' hst))|(with_reducible (refine callB (HF3.out _ hst.data) hst ?_;clear hst;intro w' hst)));refine bodyPost_ret (results2 rfl (res_agg rfl hst.st.has) res_tmp) rfl ⟨tv0,[],by rw[HR.out];rfl,by rw[HR.out];rfl,TtAt.zero _,hst.drop.drop.drop.st⟩
 |false=>
  have HR:=hF0 rfl;clear hF1 hF0;go_enter Tryz.func67,Tryz.ntmps67;go_wp2_with (first|(with_reducible (refine xval rfl 30 rfl _ (fun w=>Fx.e_eql rfl rfl rfl h8.out w) ?_))|((with_reducible refine xbaS 2 rfl rfl rfl hst rfl ?_);clear hst;intro b2 w' hst)|(with_reducible refine xnwS 4 rfl rfl rfl hst ?_;clear hst;intro b4 w' hst)|(with_reducible refine xnwS 6 rfl rfl rfl hst ?_;clear hst;intro b6 w' hst)|(with_reducible first|refine x1 rfl rfl rfl hst ?_|refine xa rfl rfl rfl hst ?_|(refine xsa rfl rfl rfl rfl hst ?_;clear hst;intro w' hst))|(with_reducible (refine callB (HNw3.out _) hst ?_;clear hst;intro w' hst))|(with_reducible (refine callB (HF3.out _ hst.data) hst ?_;clear hst;intro w' hst)));obtain⟨x,hx⟩:∃x:Sv,(⟨none,0,none,0,⟨nm,0,[],[]⟩⟩:Sv)=x:=⟨_,rfl⟩;have HX:Hid (StmAt D x∧x.s=stmNew nm):=Lib.hid (by subst hx;exact⟨⟨RowAt.nil ..,RowAt.nil ..,hnm,by intro s hs;cases hs⟩,rfl⟩);rw[hx] at hst;clear hx
  have fin:∀(q1:Option Addr) (d1:Nat) (Lo':List Blk),OwnR 90 4 svL Lo' (.slice q1 (l.length+1) d1) (l++[x])→∀(w':World) (R:List Blk),Sx [] w w' (Lo'++R) D []→TtPost w D (createF ⟨clock,l.map (·.s)⟩ nm) (.returned (.tuple #[.agg [.int .i64 clock,.slice q1 (l.length+1) d1].toArray,.int .i64 0])) w':=by
   intro q1 d1 Lo' hown1 w' R hw;have hlen:(l++[x]).length=l.length+1:=by simp
   refine⟨⟨q1,d1,clock,l++[x]⟩,Lo',?_,?_,⟨?_,?_⟩,hw.takeL.st⟩
   ·rw[HR.out]
    show _=Ending.returned (.tuple #[.agg [.int .i64 clock,.slice q1 (l++[x]).length d1].toArray,.int .i64 0]);rw[hlen]
   ·rw[HR.out]
    simp[Tv.t,HX.out.2]
   ·exact(show OwnR 90 4 svL Lo' (.slice q1 (l.length+1) d1) (l++[x]) from hown1).rowAt (by rw[hlen];omega) (fun p hp=>Or.inr hp)
   ·intro y hy
    rcases List.mem_append.1 hy with h |h
    ·exact(HV.out.all y h).mono (fun p hp=>Or.inl hp)
    ·obtain rfl:=List.mem_singleton.1 h
     exact HX.out.1.mono (fun p hp=>Or.inl hp)
  refine Fx.goT (fun i=>i==2||i==4||i==5||i==7) (fun i=> !(i==1||i==3)) (fun i=>i==7) (.two [0,1,3] 2 (.run [4,5,6,7]) 4 (.run [2,5,6,7])) rfl hst (by kernel_rfl) (by kernel_rfl) (by kernel_rfl) (by kernel_rfl) (by kernel_rfl) ?_;show Fx.wpLX _ _ _ _ _ _;refine Fx.fa rfl rfl rfl rfl rfl rfl ?_;refine Fx.l1 rfl rfl rfl rfl rfl rfl ?_;refine Fx.lA rfl rfl rfl rfl rfl rfl ?_;refine And.intro (Fx.runOf ?_) (Fx.runOf ?_)
  ·refine Fx.callS rfl rfl (fun L' u=>∃p2 c2 Lo,L'=Lo++((b6,svC x,90)::(b4,tC 0 (.slice none 0 0),31)::(b2,tC clock (.slice p l.length c),31)::[])∧u=.slice p2 l.length c2∧OwnR 90 4 svL Lo (.slice p2 l.length c2) l) (f:=69) (args:=#[.slice p l.length c]) (fun w hw=>?_) (fun w=>by kernel_rfl) ?_
   ·refine(HCl.out w hw.data).mono ?_
    rintro en w' ⟨v,Lo,rfl,hown,hs⟩;obtain⟨p2,c2,rfl⟩:=hown.slice;exact⟨_,_,rfl,⟨p2,c2,Lo,rfl,rfl,hown⟩,hw.take hs⟩
   rintro L' u ⟨p2,c2,Lo,rfl,rfl,hown⟩;refine⟨Or.inr (fun w h=>h.dropL),?_⟩;refine Fx.mk1 (TS:=29) rfl rfl rfl rfl (run_bsv x) ?_;intro b36;refine⟨Or.inr (fun w h=>h.drop.dropL),?_⟩;refine Fx.apL (TS:=29) (Lo:=Lo) (R:=(b36,(svL x).toArray,90)::(b6,svC x,90)::(b4,tC 0 (.slice none 0 0),31)::(b2,tC clock (.slice p l.length c),31)::[]) (ms:=[x]) (C:=(svL x).toArray) (T':=90) rfl rfl rfl (perm_count fun x=>by simp only[List.count_append,List.count_cons];omega) rfl rfl hown rfl (by simp) (by simp) (by simp only[List.length_singleton];omega) ?_;intro q1 d1 Lo' hown1;refine⟨Or.inr (fun w h=>h.dropL.drop),?_⟩;refine Fx.fa rfl rfl rfl rfl rfl rfl ?_;refine Fx.stL rfl rfl rfl rfl rfl (Or.inl rfl) ?_;clear hst;intro w' hst;generalize hact:Fx.mkO _ _=act;have hv2:act.tmps.getD 2 undef=.pointer (some ⟨b2,0,none⟩):=by rw[←hact];kernel_rfl
   have hv4:act.tmps.getD 4 undef=.pointer (some ⟨b4,0,none⟩):=by rw[←hact];kernel_rfl
   obtain⟨fZ,hfZ,hact2⟩:=act_lit act 40 (by rw[←hact];kernel_rfl) (by rw[←hact];kernel_rfl);clear hact;have he2:fZ 2=.pointer (some ⟨b2,0,none⟩):=(hfZ 2).symm.trans hv2;have he4:fZ 4=.pointer (some ⟨b4,0,none⟩):=(hfZ 4).symm.trans hv4;simp only[show List.range 40=[0,1,2,3,4,5,6,7,8,9,10,11,12,13,14,15,16,17,18,19,20,21,22,23,24,25,26,27,28,29,30,31,32,33,34,35,36,37,38,39] from rfl,List.map_cons,List.map_nil,he2,he4] at hact2;clear hfZ hv2 he2 hv4 he4;subst hact2;go_wp2_with (with_reducible first|refine xa rfl rfl rfl hst ?_|(refine xsa rfl rfl rfl rfl hst ?_;clear hst;intro w' hst));refine bodyPost_ret (results2 rfl (res_agg rfl hst.st.has) res_tmp) rfl (fin q1 d1 Lo' hown1 _ _ hst)
  ·refine Fx.mk1 (TS:=29) rfl rfl rfl rfl (run_bsv x) ?_
   intro b36;refine⟨Or.inr (fun w h=>h.drop),?_⟩;refine Fx.callS rfl rfl (fun L' u=>∃p2 c2 Lo,L'=Lo++((b36,(svL x).toArray,90)::(b6,svC x,90)::(b4,tC 0 (.slice none 0 0),31)::(b2,tC clock (.slice p l.length c),31)::[])∧u=.slice p2 l.length c2∧OwnR 90 4 svL Lo (.slice p2 l.length c2) l) (f:=69) (args:=#[.slice p l.length c]) (fun w hw=>?_) (fun w=>by kernel_rfl) ?_
   ·refine(HCl.out w hw.data).mono ?_
    rintro en w' ⟨v,Lo,rfl,hown,hs⟩;obtain⟨p2,c2,rfl⟩:=hown.slice;exact⟨_,_,rfl,⟨p2,c2,Lo,rfl,rfl,hown⟩,hw.take hs⟩
   rintro L' u ⟨p2,c2,Lo,rfl,rfl,hown⟩;refine⟨Or.inr (fun w h=>h.dropL.drop),?_⟩;refine Fx.apL (TS:=29) (Lo:=Lo) (R:=(b36,(svL x).toArray,90)::(b6,svC x,90)::(b4,tC 0 (.slice none 0 0),31)::(b2,tC clock (.slice p l.length c),31)::[]) (ms:=[x]) (C:=(svL x).toArray) (T':=90) rfl rfl rfl (List.Perm.refl _) rfl rfl hown rfl (by simp) (by simp) (by simp only[List.length_singleton];omega) ?_;intro q1 d1 Lo' hown1;refine⟨Or.inr (fun w h=>h.dropL.drop),?_⟩;refine Fx.fa rfl rfl rfl rfl rfl rfl ?_;refine Fx.stL rfl rfl rfl rfl rfl (Or.inl rfl) ?_;clear hst;intro w' hst;generalize hact:Fx.mkO _ _=act;have hv2:act.tmps.getD 2 undef=.pointer (some ⟨b2,0,none⟩):=by rw[←hact];kernel_rfl
   have hv4:act.tmps.getD 4 undef=.pointer (some ⟨b4,0,none⟩):=by rw[←hact];kernel_rfl
   obtain⟨fZ,hfZ,hact2⟩:=act_lit act 40 (by rw[←hact];kernel_rfl) (by rw[←hact];kernel_rfl);clear hact;have he2:fZ 2=.pointer (some ⟨b2,0,none⟩):=(hfZ 2).symm.trans hv2;have he4:fZ 4=.pointer (some ⟨b4,0,none⟩):=(hfZ 4).symm.trans hv4;simp only[show List.range 40=[0,1,2,3,4,5,6,7,8,9,10,11,12,13,14,15,16,17,18,19,20,21,22,23,24,25,26,27,28,29,30,31,32,33,34,35,36,37,38,39] from rfl,List.map_cons,List.map_nil,he2,he4] at hact2;clear hfZ hv2 he2 hv4 he4;subst hact2;go_wp2_with (with_reducible first|refine xa rfl rfl rfl hst ?_|(refine xsa rfl rfl rfl rfl hst ?_;clear hst;intro w' hst));refine bodyPost_ret (results2 rfl (res_agg rfl hst.st.has) res_tmp) rfl (fin q1 d1 Lo' hown1 _ _ hst)
end Go.Proofs.YtdkeiefgkgpcbaaGreatDoor
