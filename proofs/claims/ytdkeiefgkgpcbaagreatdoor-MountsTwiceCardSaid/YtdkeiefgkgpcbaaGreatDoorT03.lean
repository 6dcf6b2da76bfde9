/- Steps of the proof: Erase, MapR, StRuns, Sort, RestP. -/
import Derived.Lib.MinMax
import Derived.Maps.RangeRun
import Derived.Shelf.SlSortCmp.WholeK
import Derived.Test.YtdkeiefgkgpcbaaGreatDoorT02
set_option linter.unusedVariables false
set_option linter.unusedSimpArgs false
set_option maxRecDepth 100000
namespace Go.Proofs.YtdkeiefgkgpcbaaGreatDoor
open Go.RowKit
def erIn (s:Int):Nat→Nat→Dv→Nat→Dv×Nat×Int
 |0,_,d,n=>(d,n,0)
 |m+1,k,d,n=>if dState d (s+k)≠1 then erIn s m (k+1) d n else if(dErase d (s+k)).2≠0 then((dErase d (s+k)).1,n,(dErase d (s+k)).2) else erIn s m (k+1) (dErase d (s+k)).1 (n+1)
def erGo:List Rn→Dv→Nat→Dv×Nat×Int
 | [],d,n=>(d,n,0)
 |r::l,d,n=>if(erIn r.s (min (max r.c 0) 512).toNat 0 d n).2.2≠0 then erIn r.s (min (max r.c 0) 512).toNat 0 d n else erGo l (erIn r.s (min (max r.c 0) 512).toNat 0 d n).1 (erIn r.s (min (max r.c 0) 512).toNat 0 d n).2.1
def yba (l:List Rn) (x:Dv×Nat×Int):Dv×Nat×Int:=if x.2.2≠0 then x else erGo l x.1 x.2.1
def ybb (d:Dv) (l:List Rn):Dv×Int:=if(erGo l d 0).2.2≠0 then((erGo l d 0).1,(erGo l d 0).2.2) else if(erGo l d 0).2.1=0 then((erGo l d 0).1,0) else dFlush (erGo l d 0).1
theorem ybc (d:Dv) (i:Int):(dErase d i).1.acts.length≤d.acts.length+1:=by
 unfold dErase;split
 ·exact Nat.le_succ _
 ·split
  ·exact Nat.le_succ _
  ·split
   ·exact Nat.le_succ _
   ·exact dDo_acts d _
section
variable {D:Dat} {F:List Nat} {w:World} {g:Nat} {d:Dv}
set_option maxHeartbeats 2000000 in
theorem ybd (h:DevW D F w g d) {p:Option Addr} {c:Nat} {l:List Rn} (hr:RowAt D 36 2 rnL p c l) (hb:∀r∈l,-1000000000000≤r.s∧r.s≤1000000000000) (hac:d.acts.length+512*l.length<1000000):
  Calls Tryz.prog 47 #[.pointer (some ⟨g,0,none⟩),.slice p l.length c] w (DevRet (.int .i64 (ybb d l).2) D F w g (ybb d l).1):=by
 obtain⟨q,m,rfl,hst⟩:=h.open h.lt;obtain⟨E,hE⟩:∃E,ybb d l=E:=⟨_,rfl⟩;rw[hE];unfold ybb at hE;obtain⟨R,hR⟩:∃R,erGo l d 0=R:=⟨_,rfl⟩;rw[hR] at hE;have HR:Hid (erGo (l.drop 0) d 0=R):=Lib.hid hR;replace hE:=Lib.hid hE;have HB:=Lib.hid hb;have hl:l.length≤2000:=by omega
 have HA:Hid (d.acts.length+512*(l.length-0)<1000000∧(0:Nat)≤512*0):=Lib.hid (by omega);clear h hR hb hac;generalize (devL g d q).map (·.1)=F at*;go_enter Tryz.func47,Tryz.ntmps47;go_wp2_with fail;go_loopw [5,12] (fun nv iv wr=>∃(i n:Nat) (d:Dv) (q:Dp),i≤l.length∧nv=.int .i64 n∧iv=.int .i64 i∧Hid (erGo (l.drop i) d n=R)∧Hid (d.acts.length+512*(l.length-i)<1000000∧n≤512*i)∧DevMem D d q∧Sx F w wr (devL g d q) D []) (fun _ iv _=>l.length-(intOf iv).toNat)
 case atStart=>exact⟨0,0,d,q,Nat.zero_le _,by go_num,by go_num,HR,HA,m,hst⟩
 case round=>
  clear hst HR m HA;obtain⟨i,n,d,q,hi,rfl,rfl,HR,HA,m,hst⟩:=hrel
  by_cases hlt:i<l.length
  ·obtain⟨g1,o1,rfl⟩:=hr.at_some hlt
   have e1:LdD D 36 ⟨g1,o1+i*2,none⟩ (.agg (rnL l[i]).toArray):=hr.lda hlt;have hbr:=HB.out _ (List.getElem_mem hlt);rw[List.drop_eq_getElem_cons hlt] at HR;generalize l[i]=r at*;obtain⟨s,ct⟩:=r;simp only at hbr;obtain⟨M,hM⟩:∃M,(min (max ct 0) 512).toNat=M:=⟨_,rfl⟩;have hMi:min (max ct 0) 512=(M:Int):=by omega
   have hM5:M≤512:=by omega
   have HR1:Hid (yba (l.drop (i+1)) (erIn s M 0 d n)=R):=Lib.hid (by have:=HR.out;simp only[erGo,hM] at this;exact this);have hA:=HA.out;have HA1:Hid (d.acts.length+(M-0)+512*(l.length-(i+1))<1000000∧n≤512*i+0):=Lib.hid (by omega);replace hMi:=Lib.hid hMi;clear HR HA hA hM;go_wp2_with (first|(with_reducible first|refine x1 rfl rfl rfl hst ?_|refine xd rfl rfl rfl hst ?_|(refine xsa rfl rfl rfl rfl hst ?_;clear hst;intro w' hst)|(refine xnw rfl rfl hst ?_;clear hst;intro bn w' hst)));obtain⟨b7,rfl⟩:∃b,b=bn:=⟨_,rfl⟩;simp only[hMi.out];go_loopw [5,20] (fun nv iv wr=>∃(k n:Nat) (d:Dv) (q:Dp),k≤M∧nv=.int .i64 n∧iv=.int .i64 k∧Hid (yba (l.drop (i+1)) (erIn s (M-k) k d n)=R)∧Hid (d.acts.length+(M-k)+512*(l.length-(i+1))<1000000∧n≤512*i+k)∧DevMem D d q∧Sx F w wr ((b7,#[.int .i64 s,.int .i64 ct],36)::devL g d q) D []) (fun _ iv _=>M-(intOf iv).toNat)
   case atStart=>exact⟨0,n,d,q,Nat.zero_le _,rfl,by go_num,HR1,HA1,m,hst⟩
   case round=>
    clear hst HR1 HA1 m;obtain⟨k,n,d,q,hk,rfl,rfl,HR,HA,m,hst⟩:=hrel
    by_cases hlt2:k<M
    ·have HSt:=Lib.hid (fun F wx (hd:DevW D F wx g d)=>dstate_calls hd (s+(k:Int)))
     have hA:=HA.out;have HEr:=Lib.hid (fun F wx (hd:DevW D F wx g d)=>derase_calls hd (s+(k:Int)) (by omega));have hR:=HR.out;rw[show M-k=(M-(k+1))+1 by omega] at hR;simp only[erIn] at hR;have hea:=ybc d (s+(k:Int))
     by_cases hs:dState d (s+(k:Int))=1
     ·rw[if_neg (by simp[hs])] at hR
      have HE:=Lib.hid (decide_eq_false (show ¬dState d (s+(k:Int))≠1 by simp[hs]));generalize dErase d (s+(k:Int))=x at*;obtain⟨d2,e⟩:=x;simp only at hR hea HEr
      by_cases he:e=0
      ·rw[if_neg (by simp[he])] at hR
       have HE2:=Lib.hid (decide_eq_false (show ¬e≠0 by simp[he]));have HR2:=Lib.hid hR;have HA2:Hid (d2.acts.length+(M-(k+1))+512*(l.length-(i+1))<1000000∧n+1≤512*i+(k+1)):=Lib.hid (by omega);have hn5:n≤2000000:=by omega
       clear hs hR hea hA he HR HA;go_wp2_with (first|(with_reducible refine xval rfl 29 rfl _ (fun w=>Fx.e_neq rfl rfl rfl HE.out w) ?_)|(with_reducible refine xval rfl 37 rfl _ (fun w=>Fx.e_neq rfl rfl rfl HE2.out w) ?_)|(with_reducible refine x1 rfl rfl rfl hst ?_)|(with_reducible refine callOr HSt.out hst m ?_;clear hst;intro w' hst)|(with_reducible refine callO HEr.out hst m ?_;clear hst m;intro w5 q5 hst m));go_roundw
       case rel=>exact⟨k+1,n+1,d2,q5,by omega,by go_num,by go_num,HR2,HA2,m,hst⟩
       case measure=>simp[intOf];omega
      ·rw[if_pos he] at hR
       have HE2:=Lib.hid (decide_eq_true he);have hRR:R=(d2,n,e):=by rw[←hR];unfold yba;rw[if_pos he]
       have hEE:E=(d2,e):=by rw[←hE.out,hRR];simp only;rw[if_pos he]
       replace hEE:=Lib.hid hEE;clear hs hR hea hA he HR HA hRR;go_wp2_with (first|(with_reducible refine xval rfl 29 rfl _ (fun w=>Fx.e_neq rfl rfl rfl HE.out w) ?_)|(with_reducible refine xval rfl 37 rfl _ (fun w=>Fx.e_neq rfl rfl rfl HE2.out w) ?_)|(with_reducible refine x1 rfl rfl rfl hst ?_)|(with_reducible refine callOr HSt.out hst m ?_;clear hst;intro w' hst)|(with_reducible refine callO HEr.out hst m ?_;clear hst m;intro w5 q5 hst m));go_ret;rw[hEE.out];exact hst.drop.devRet m rfl
     ·rw[if_pos hs] at hR
      have HE:=Lib.hid (decide_eq_true (show dState d (s+(k:Int))≠1 from hs));have HR2:=Lib.hid hR;have HA2:Hid (d.acts.length+(M-(k+1))+512*(l.length-(i+1))<1000000∧n≤512*i+(k+1)):=Lib.hid (by omega);clear hs hR hea hA HR HA HEr;go_wp2_with (first|(with_reducible refine xval rfl 29 rfl _ (fun w=>Fx.e_neq rfl rfl rfl HE.out w) ?_)|(with_reducible refine x1 rfl rfl rfl hst ?_)|(with_reducible refine callOr HSt.out hst m ?_;clear hst;intro w' hst));go_roundw
      case rel=>exact⟨k+1,n,d,q,by omega,by go_num,by go_num,HR2,HA2,m,hst⟩
      case measure=>simp[intOf];omega
    ·obtain rfl:k=M:=by omega
     have HR2:Hid (erGo (l.drop (i+1)) d n=R):=Lib.hid (by have:=HR.out;rw[Nat.sub_self] at this;simpa[erIn,yba] using this);have HA2:Hid (d.acts.length+512*(l.length-(i+1))<1000000∧n≤512*(i+1)):=Lib.hid (by have:=HA.out;omega);clear HR HA;go_wp2_with fail;go_roundw
     case rel=>exact⟨i+1,n,d,q,by omega,by go_num,by go_num,HR2,HA2,m,hst.drop⟩
     case measure=>simp[intOf];omega
  ·obtain rfl:i=l.length:=by omega
   have hRR:R=(d,n,0):=by have:=HR.out;rw[List.drop_length] at this;rw[←this];rfl
   have hEE:=hE.out;rw[hRR] at hEE;simp only[ne_eq,not_true_eq_false,if_false] at hEE;have hA:=HA.out
   by_cases h0:n=0
   ·rw[if_pos h0] at hEE
    have HE2:=Lib.hid (decide_eq_true (show(n:Int)=0 by omega));replace hEE:=Lib.hid hEE;clear hRR HR HA h0 hA;go_wp2_with (first|(with_reducible refine xval rfl 44 rfl _ (fun w=>Fx.e_eql rfl rfl rfl HE2.out w) ?_)|fail);go_ret;rw[←hEE.out];exact hst.devRet m rfl
   ·rw[if_neg h0] at hEE
    have HE2:=Lib.hid (decide_eq_false (show ¬(n:Int)=0 by omega));have HFl:=Lib.hid (fun F wx (hd:DevW D F wx g d)=>dflush_calls hd);rw[hEE] at HFl;clear hRR HR HA h0 hEE hA;go_wp2_with (first|(with_reducible refine xval rfl 44 rfl _ (fun w=>Fx.e_eql rfl rfl rfl HE2.out w) ?_)|fail |(with_reducible refine callO HFl.out hst m ?_;clear hst m;intro w5 q5 hst m));go_ret;exact hst.devRet m rfl
end
structure KeysAre (gs:List Gr) (clock:Nat) (P:Int→Prop):Prop where
 nd:(gs.map (·.key)).Nodup
 bn:(gs.map (·.born)).Nodup
 old:∀g∈gs,g.born<clock
 ks:∀z,(∃g∈gs,g.key=z)↔P z
theorem KeysAre.none (clock:Nat) {P:Int→Prop} (h:∀z,¬P z):KeysAre [] clock P:=⟨by simp,by simp,by simp,fun z=>⟨fun⟨g,hg,_⟩=>by simp at hg,fun hz=>absurd hz (h z)⟩⟩
theorem KeysAre.iff {gs:List Gr} {clock:Nat} {P Q:Int→Prop} (h:KeysAre gs clock P) (hpq:∀z,P z↔Q z):KeysAre gs clock Q:=⟨h.nd,h.bn,h.old,fun z=>(h.ks z).trans (hpq z)⟩
theorem KeysAre.put {gs:List Gr} {clock:Nat} {P:Int→Prop} (h:KeysAre gs clock P) {n:Int} (v:Value) (hn:¬P n):KeysAre (gput gs clock n v).1 (gput gs clock n v).2 (fun z=>P z∨z=n):=by
 have hnf:gfind n gs 0=Option.none:=gfind_none (fun r hr e=>hn ((h.ks n).1 ⟨r,hr,e⟩));have hg:gput gs clock n v=(gs++[⟨n,v,clock⟩],clock+1):=by unfold gput;rw[hnf]
 rw[hg];refine⟨?_,?_,fun g hg=>?_,fun z=>?_⟩
 ·rw[List.map_append,List.nodup_append]
  exact⟨h.nd,by simp,fun x hx y hy e=>by
   obtain⟨r,hr,rfl⟩:=List.mem_map.1 hx;simp at hy
   exact hn ((h.ks n).1 ⟨r,hr,e.trans hy⟩)⟩
 ·rw[List.map_append,List.nodup_append]
  exact⟨h.bn,by simp,fun x hx y hy e=>by
   obtain⟨r,hr,rfl⟩:=List.mem_map.1 hx;simp at hy;have:=h.old r hr
   omega⟩
 ·rcases List.mem_append.1 hg with hg |hg
  ·have:=h.old g hg;simp only;omega
  ·obtain rfl:=List.mem_singleton.1 hg;simp
 ·constructor
  ·rintro⟨g,hg,rfl⟩
   rcases List.mem_append.1 hg with hg |hg
   ·exact Or.inl ((h.ks _).1 ⟨g,hg,rfl⟩)
   ·obtain rfl:=List.mem_singleton.1 hg;exact Or.inr rfl
  ·rintro(hz |rfl)
   ·obtain⟨g,hg,e⟩:=(h.ks z).2 hz
    exact⟨g,by simp[hg],e⟩
   ·exact⟨⟨z,v,clock⟩,by simp,rfl⟩
theorem KeysAre.del {gs:List Gr} {clock:Nat} {P:Int→Prop} (h:KeysAre gs clock P) (n:Int):KeysAre (gdel gs n) clock (fun z=>P z∧z≠n):=by
 unfold gdel;rcases gsplit n gs with hno |⟨a,g,b,rfl,hg,ha⟩
 ·rw[gfind_none hno]
  exact h.iff fun z=>⟨fun hz=>⟨hz,fun e=>by obtain⟨r,hr,e2⟩:=(h.ks z).2 hz;exact hno r hr (e2.trans e)⟩,fun hz=>hz.1⟩
 ·rw[gfind_at hg ha,Nat.zero_add]
  simp only
  have he:(a++g::b).eraseIdx a.length=a++b:=by
   rw[List.eraseIdx_append_of_length_le (Nat.le_refl _),Nat.sub_self];rfl
  rw[he];have hnd:=h.nd;have hbn:=h.bn;rw[List.map_append,List.map_cons,List.nodup_append,List.nodup_cons] at hnd hbn;have hb:∀x∈b,x.key≠n:=fun x hx e=>hnd.2.1.1 (List.mem_map.2 ⟨x,hx,e.trans hg.symm⟩)
  refine⟨?_,?_,fun x hx=>h.old x (by rcases List.mem_append.1 hx with hx |hx<;>simp[hx]),fun z=>?_⟩
  ·rw[List.map_append,List.nodup_append]
   exact⟨hnd.1,hnd.2.1.2,fun x hx y hy=>hnd.2.2 x hx y (List.mem_cons_of_mem _ hy)⟩
  ·rw[List.map_append,List.nodup_append]
   exact⟨hbn.1,hbn.2.1.2,fun x hx y hy=>hbn.2.2 x hx y (List.mem_cons_of_mem _ hy)⟩
  ·rw[←h.ks z]
   constructor
   ·rintro⟨r,hr,rfl⟩
    rcases List.mem_append.1 hr with hr |hr
    ·exact⟨⟨r,by simp[hr],rfl⟩,ha r hr⟩
    ·exact⟨⟨r,by simp[hr],rfl⟩,hb r hr⟩
   ·rintro⟨⟨r,hr,rfl⟩,hne⟩
    rcases List.mem_append.1 hr with hr |hr
    ·exact⟨r,by simp[hr],rfl⟩
    ·rcases List.mem_cons.1 hr with rfl |hr
     ·exact absurd hg hne
     ·exact⟨r,by simp[hr],rfl⟩
def iterO (m clock:Nat) (seen:Array Nat) (c0:Nat):Obj:=.mapIter (some m) clock seen c0
section
variable {S:List Nat} {w0 w1 w:World} {L L1:List Blk} {D:Dat} {m it:Nat} {o:Obj} {ops:Array Oper} {rest:List Oper} {op:Oper} {a:Act} {Q:Exit→Act→World→Prop} {gs:List Gr} {clock c0:Nat} {T E:TypeId} {seen:Array Nat}
theorem Mx.sx0 (h:Mx S w0 w L D m o):Sx S w0 w L D []:=⟨h.sx.st,h.sx.data,h.sx.apart,fun x hx=>by simp at hx,fun x hx=>by simp at hx,fun x hx=>by simp at hx,fun x hx=>by simp at hx⟩
theorem Mx.drew (h:Mx S w0 w L D m o):Mx S w0 w.drew L D m o:=
 ⟨⟨⟨h.sx.st.os,h.sx.st.tape,h.sx.st.output,h.sx.st.size,h.sx.st.kept,h.sx.st.own,h.sx.st.nodup,h.sx.st.blk⟩,h.sx.data,h.sx.apart,h.sx.flt,h.sx.fL,h.sx.fD,h.sx.fS⟩,h.ob⟩
theorem xrgA (hw:Region.wanted op (yielded ops a.tmps)=true) {x:Operand} (ho:op.op=.range T x) [t:MapT T E] (hm:Mx S w0 w1 L1 D m (mapO gs clock)) (hs:Sx (L1.map (·.1)) w1 w L D []) (hx:a.eval x=.map (some m))
  (hk:∀it w',Mx (L1.map (·.1)) w1 w' L D it (iterO m clock #[] clock)→wpList Tryz.prog ops Q rest (a.put op.dst (.pointer (some ⟨it,0,none⟩))) w'):wpList Tryz.prog ops Q (op::rest) a w:=
 BigFrame.wpList_want hw fun K hK=>by
  obtain⟨K2,h1,h2⟩:=t.run;have hb:=(hm.move hs).ob;have hr:=run_range_map (P:=Tryz.prog) w T K2 E m (gs.map Gr.ent).toArray clock h1 hb;unfold Oper.wp execOp;simp only[ho,hx,Sem.run_bind,hr,Result.andThen_ok];exact hK _ _ (hk _ _ (hs.newMap _))
theorem xnxA (hw:Region.wanted op (yielded ops a.tmps)=true) {x:Operand} (ho:op.op=.next x false) (hm:Mx S w0 w1 L1 D m (mapO gs clock)) (hi:Mx (L1.map (·.1)) w1 w L D it (iterO m clock seen c0)) (hx:a.eval x=.pointer (some ⟨it,0,none⟩)) (hold:∀g∈gs,g.born<clock) (hc:clock≤c0)
  (hk:((∀g∈gs,seen.contains g.born=true)→wpList Tryz.prog ops Q rest (a.put op.dst (.tuple #[.bool false])) w)∧∀g∈gs,seen.contains g.born=false→∀w',Mx (L1.map (·.1)) w1 w' L D it (iterO m clock (seen.push g.born) clock)→wpList Tryz.prog ops Q rest (a.put op.dst (.tuple #[.bool true,.int .i64 g.key,g.val])) w'):
  wpList Tryz.prog ops Q (op::rest) a w:=
 BigFrame.wpList_want hw fun K hK=>by
  have hb:w.heap[m]? =some (.map (gs.map Gr.ent).toArray clock):=(hm.move hi.sx0).ob
  have ho2:∀x∈(gs.map Gr.ent).toArray.toList,x.born<clock:=fun x hx=>by
   obtain⟨g,hg,rfl⟩:=List.mem_map.1 (show x∈gs.map Gr.ent from hx);exact hold g hg
  have hrun:=fun ty=>run_next_at (P:=Tryz.prog) w ty it m clock c0 seen (gs.map Gr.ent).toArray clock hi.ob hb ho2 hc
  unfold Oper.wp execOp;simp only[ho,hx,Sem.run_bind];rcases hrun op.type with⟨h0,hr⟩ |⟨e,he,w2,hw2,hr⟩
  ·simp only[hr,Result.andThen_ok]
   refine hK _ _ (hk.1 fun g hg=>?_)
   cases hs:seen.contains g.born with
   |true=>rfl
   |false=>
    exfalso;have:g.ent∈leftOf (gs.map Gr.ent).toArray seen:=Array.mem_filter.2 ⟨by simpa using⟨g,hg,rfl⟩,by simp[Gr.ent];simpa using hs⟩;rw[Array.eq_empty_of_size_eq_zero h0] at this;simp at this
  ·simp only[hr,Result.andThen_ok]
   obtain⟨h1,h2⟩:=mem_left he;obtain⟨g,hg,rfl⟩:=List.mem_map.1 (show e∈gs.map Gr.ent from h1);refine hK _ _ (hk.2 g hg h2 _ ?_);rcases hw2 with rfl |rfl
   ·exact hi.set
   ·exact hi.drew.set
theorem xenA (hw:Region.wanted op (yielded ops a.tmps)=true) {x:Operand} (ho:op.op=.entry x) (hm:Mx S w0 w1 L1 D m (mapO gs clock)) {g:Gr} (hi:Mx (L1.map (·.1)) w1 w L D it (iterO m clock (seen.push g.born) clock)) (hx:a.eval x=.pointer (some ⟨it,0,none⟩)) (hg:g∈gs) (hn:(gs.map (·.born)).Nodup) {z:Int} (hz:g.key=z)
  (hk:wpList Tryz.prog ops Q rest (a.put op.dst (.tuple #[.int .i64 z,g.val])) w):wpList Tryz.prog ops Q (op::rest) a w:=
 BigFrame.wpList_want hw fun K hK=>by
  have hb:w.heap[m]? =some (.map (gs.map Gr.ent).toArray clock):=(hm.move hi.sx0).ob;have hr:=run_entry_at (P:=Tryz.prog) w it m clock seen (gs.map Gr.ent).toArray clock g.ent hi.ob hb (List.mem_map.2 ⟨g,hg,rfl⟩) (by rw[show(gs.map Gr.ent).toArray.toList=gs.map Gr.ent from rfl,List.map_map];exact hn);subst hz;unfold Oper.wp execOp;simp only[ho,hx,Sem.run_bind,hr,Result.andThen_ok];exact hK _ _ hk
theorem xnxN (hw:Region.wanted op (yielded ops a.tmps)=true) {x:Operand} (ho:op.op=.next x false) (hm:Mx S w0 w1 L1 D m (mapO gs clock)) (hi:Mx (L1.map (·.1)) w1 w L D it (iterO m clock seen c0)) (hx:a.eval x=.pointer (some ⟨it,0,none⟩)) (hold:∀g∈gs,g.born<clock) (hc:clock≤c0) (hall:∀g∈gs,seen.contains g.born=true)
  (hk:wpList Tryz.prog ops Q rest (a.put op.dst (.tuple #[.bool false])) w):wpList Tryz.prog ops Q (op::rest) a w:=
 xnxA hw ho hm hi hx hold hc ⟨fun _=>hk,fun g hg hs=>absurd (hall g hg) (by rw[hs];decide)⟩
theorem xnxS (hw:Region.wanted op (yielded ops a.tmps)=true) {x:Operand} (ho:op.op=.next x false) (hm:Mx S w0 w1 L1 D m (mapO gs clock)) (hi:Mx (L1.map (·.1)) w1 w L D it (iterO m clock seen c0)) (hx:a.eval x=.pointer (some ⟨it,0,none⟩)) (hold:∀g∈gs,g.born<clock) (hc:clock≤c0) (hno:¬ ∀g∈gs,seen.contains g.born=true)
  (hk:∀g∈gs,seen.contains g.born=false→∀w',Mx (L1.map (·.1)) w1 w' L D it (iterO m clock (seen.push g.born) clock)→wpList Tryz.prog ops Q rest (a.put op.dst (.tuple #[.bool true,.int .i64 g.key,g.val])) w'):wpList Tryz.prog ops Q (op::rest) a w:=
 xnxA hw ho hm hi hx hold hc ⟨fun h=>absurd h hno,hk⟩
end
theorem ybe {gs:List Gr} (h:(gs.map (·.key)).Nodup):∀ {g g':Gr},g∈gs→g'∈gs→g.key=g'.key→g=g':=by
 induction gs with
 |nil=>intro g g' hg;cases hg
 |cons x l ih=>
  rw[List.map_cons,List.nodup_cons] at h;intro g g' hg hg' e;rcases List.mem_cons.1 hg with rfl |i1<;>rcases List.mem_cons.1 hg' with rfl |i2
  ·rfl
  ·exact absurd (List.mem_map.2 ⟨g',i2,e.symm⟩:g.key∈l.map (·.key)) h.1
  ·exact absurd (List.mem_map.2 ⟨g,i1,e⟩:g'.key∈l.map (·.key)) h.1
  ·exact ih h.2 i1 i2 e
theorem ybf {gs:List Gr} (h:(gs.map (·.born)).Nodup):∀ {g g':Gr},g∈gs→g'∈gs→g.born=g'.born→g=g':=by
 induction gs with
 |nil=>intro g g' hg;cases hg
 |cons x l ih=>
  rw[List.map_cons,List.nodup_cons] at h;intro g g' hg hg' e;rcases List.mem_cons.1 hg with rfl |i1<;>rcases List.mem_cons.1 hg' with rfl |i2
  ·rfl
  ·exact absurd (List.mem_map.2 ⟨g',i2,e.symm⟩:g.born∈l.map (·.born)) h.1
  ·exact absurd (List.mem_map.2 ⟨g,i1,e⟩:g'.born∈l.map (·.born)) h.1
  ·exact ih h.2 i1 i2 e
theorem ybg:∀(n:Nat) (l:List Nat),l.Nodup→(∀x∈l,x<n)→l.length≤n
 |0,l,_,h=>by
  cases l with
  |nil=>exact Nat.le_refl _
  |cons x l=>exact absurd (h x (by simp)) (by omega)
 |n+1,l,hn,h=>by
  have h1:=ybg n (l.erase n) (hn.erase n) (fun x hx=>by
   have h2:=(hn.mem_erase_iff).1 hx;have:=h x h2.2
   omega)
  have h3:l.length≤(l.erase n).length+1:=by rw[List.length_erase];split<;>omega
  omega
theorem ybh {α β:Type} {T:TypeId} {k:Nat} {e:α→List Value} {f:β→List Value} {Lo:List Blk} {v:Value} {l:List α} {m:List β} (h:OwnR T k e Lo v l) (hl:l.length=m.length) (hf:l.flatMap e=m.flatMap f):OwnR T k f Lo v m:=by
 rcases h with⟨rfl,hp,rfl⟩ |⟨g,c,C,rfl,rfl,h1,h2,h3,h4⟩
 ·exact Or.inl ⟨rfl,hp,List.length_eq_zero_iff.1 hl.symm⟩
 ·exact Or.inr ⟨g,c,C,rfl,by rw[hl],by omega,h2,h3,by rw[←hl,h4,hf]⟩
def ybi (b:Bool) (l:List Rec):List Rn:=(l.filter (fun r=>r.shr==b)).map fun r=>⟨r.start,r.count⟩
def runsF (t:Tt) (b:Bool):List Rn:=t.l.flatMap fun s=>ybi b s.recs
theorem ybj {b:Bool} {l:List Rec} {j:Nat} (h:j<l.length):ybi b (l.take (j+1))=ybi b (l.take j)++(if l[j].shr==b then[⟨l[j].start,l[j].count⟩] else[]):=by
 unfold ybi;rw[List.take_succ_eq_append_getElem h,List.filter_append,List.map_append];congr 1
 cases hb:(l[j].shr==b)<;>simp[List.filter_cons,hb]
theorem ybk (b:Bool) (l:List Rec) (j:Nat):(ybi b (l.take j)).length≤(ybi b l).length:=by
 unfold ybi;rw[List.length_map,List.length_map];exact((List.take_sublist j l).filter _).length_le
theorem ybl {α β:Type} (g:α→List β) {l:List α} {k:Nat} (h:k<l.length):(l.take (k+1)).flatMap g=(l.take k).flatMap g++g l[k]:=by
 rw[List.take_succ_eq_append_getElem h,List.flatMap_append];simp
theorem ybm {α β:Type} (g:α→List β) (l:List α) (k:Nat):((l.take k).flatMap g).length≤(l.flatMap g).length:=by
 conv=>rhs;rw[←List.take_append_drop k l,List.flatMap_append,List.length_append]
 omega
theorem ybn {ρ:Operand→Value} {o:Oper} {x y:Operand} {U:TypeId} {a b c:Bool} (ho:o.op=.binOp .eql 4 x y U) (hx:ρ x=.bool a) (hy:ρ y=.bool b) (hc:(a==b)=c) (w:World):(execOp ρ o).run Tryz.prog w=.ok (.value (.bool c)) w:=by
 subst hc;unfold execOp;rw[ho];simp only[hx,hy]
 cases a<;>cases b<;>rfl
section
variable {D:Dat}
set_option maxHeartbeats 1000000 in
theorem ybo {v:Tv} (h:TtAt D v) (b:Bool) (hb:(runsF v.t b).length≤100000000) (w:World) (hD:Holds D w):Calls Tryz.prog 95 #[.agg (ttL v).toArray,.bool b] w (OwnRet 36 2 rnL (runsF v.t b) w):=by
 have hst:=Sx.start0 w hD;obtain⟨p,c,k0,l⟩:=v;have hrow:RowAt D 90 4 svL p c l:=h.row;have hall:Hid (∀x∈l,StmAt D x):=Lib.hid h.all;have hR:runsF (⟨p,c,k0,l⟩:Tv).t b=l.flatMap (fun x=>ybi b x.s.recs):=by unfold runsF Tv.t;simp only[List.flatMap_map]
 rw[hR] at hb ⊢;have hC:(ttL ⟨p,c,k0,l⟩).toArray=tC k0 (.slice p l.length c):=rfl;rw[hC];have HB:=Lib.hid hb;have hlb:=hrow.big;clear h hR hC hb;go_enter Tryz.func95,Tryz.ntmps95;go_wp2_with (first|((with_reducible refine xbaS 2 rfl rfl rfl hst rfl ?_);clear hst;intro b2 w' hst)|(with_reducible refine x1 rfl rfl rfl hst ?_));go_loopw [5,13] (fun ov iv wr=>∃(k:Nat) (Lo:List Blk),k≤l.length∧iv=.int .i64 k∧Hid (OwnR 36 2 rnL Lo ov ((l.take k).flatMap (fun x=>ybi b x.s.recs)))∧Sx [] w wr (Lo++[(b2,tC k0 (.slice p l.length c),31)]) D []) (fun _ iv _=>l.length-(intOf iv).toNat)
 case atStart=>exact⟨0,[],Nat.zero_le _,by go_num,Lib.hid (OwnR.none _),hst⟩
 case round=>
  clear hst;obtain⟨k,Lo,hk,rfl,HO,hst⟩:=hrel
  by_cases hlt:k<l.length
  ·obtain⟨g1,o1,rfl⟩:=hrow.at_some hlt
   have e1':LdD D 90 ⟨g1,o1+k*4,none⟩ (.agg (svL l[k]).toArray):=hrow.lda hlt;have hx:=hall.out _ (List.getElem_mem hlt);have hft:=ybl (fun x:Sv=>ybi b x.s.recs) hlt;have hle:=ybm (fun x:Sv=>ybi b x.s.recs) l (k+1);rw[hft,List.length_append] at hle;generalize l[k]=x at*;generalize (l.take k).flatMap (fun x=>ybi b x.s.recs)=pre at*;have hb2:=HB.out;have HF:=Lib.hid hft;have hrc:RowAt D 143 37 recL x.pr x.cr x.s.recs:=hx.recs;have hrb:=ybk b x.s.recs;have hrg:=hrc.big;have hle2:=hle;clear hle;go_wp2_with (with_reducible first|refine x1 rfl rfl rfl hst ?_|refine xd rfl rfl rfl hst ?_|(refine xsa rfl rfl rfl rfl hst ?_;clear hst;intro w' hst)|(refine xnw rfl rfl hst ?_;clear hst;intro bn w' hst));obtain⟨b7,rfl⟩:∃b,b=bn:=⟨_,rfl⟩;replace hst:=hst.perm List.perm_middle.symm;go_loopw [5,20] (fun ov iv wr=>∃(j:Nat) (Lo:List Blk),j≤x.s.recs.length∧iv=.int .i64 j∧Hid (OwnR 36 2 rnL Lo ov (pre++ybi b (x.s.recs.take j)))∧Sx [] w wr (Lo++[(b7,svC x,90),(b2,tC k0 (.slice (some ⟨g1,o1,none⟩) l.length c),31)]) D []) (fun _ iv _=>x.s.recs.length-(intOf iv).toNat)
   case atStart=>exact⟨0,Lo,Nat.zero_le _,by go_num,Lib.hid (by have:=HO.out;simpa[ybi] using this),hst⟩
   case round=>
    clear hst HO e1';obtain⟨j,Lo,hj,rfl,HO,hst⟩:=hrel
    by_cases hlt2:j<x.s.recs.length
    ·obtain⟨g2,o2,hpr⟩:=hrc.at_some hlt2
     rw[hpr] at hrc ⊢;have e2:LdD D 143 ⟨g2,o2+j*37,none⟩ (.agg (recL x.s.recs[j]).toArray):=hrc.lda hlt2;have hsn:=ybj (b:=b) hlt2;have hl2:=hrb (j+1);rw[hsn] at hl2;generalize x.s.recs[j]=r at*;generalize ybi b (x.s.recs.take j)=cur at*;obtain⟨acc,hacc⟩:∃acc,pre++cur=acc:=⟨_,rfl⟩;rw[hacc] at HO;have hown:=HO.out;obtain⟨pa,ca,rfl⟩:=hown.slice
     by_cases hsb:(r.shr==b)=true
     ·rw[hsb,if_pos rfl] at hsn
      rw[hsb,if_pos rfl,List.length_append,List.length_singleton] at hl2;have hq:acc.length≤100000000:=by rw[←hacc,List.length_append];omega
      replace hacc:=Lib.hid hacc;have HE:=Lib.hid hsb;have HQ:=Lib.hid hq;have HS:=Lib.hid hsn;clear hsb hsn hl2 hq hb2 HO hle2 hft;go_wp2_with (first|(with_reducible refine xval rfl 27 rfl _ (fun w=>ybn rfl rfl rfl HE.out w) ?_)|(with_reducible first|refine x1 rfl rfl rfl hst ?_|refine xa rfl rfl rfl hst ?_|refine xd rfl rfl rfl hst ?_|(refine xsa rfl rfl rfl rfl hst ?_;clear hst;intro w' hst)|(refine xnw rfl rfl hst ?_;clear hst;intro bn w' hst))|(with_reducible refine xmk rfl 31 rfl hst (rnL ⟨r.start,r.count⟩).toArray 36 (fun b=>.slice (some ⟨b,0,none⟩) 1 1) (fun w=>by kernel_rfl) ?_;clear hst;intro b w' hst)|(with_reducible refine xap1 (T:=36) rfl _ _ rfl ⟨r.start,r.count⟩ rfl rfl rfl ((hst.perm (List.Perm.swap _ _ _)).drop) hown rfl (by have:=HQ.out;omega) ?_;clear hst;intro p4 c4 w4 Lo4 hown4 hst));go_roundw
      case rel=>exact⟨j+1,Lo4,by omega,by go_num,Lib.hid (by rw[HS.out,←List.append_assoc,hacc.out];exact hown4),hst⟩
      case measure=>simp[intOf];omega
     ·have hsf:(r.shr==b)=false:=by simpa using hsb
      rw[hsf,if_neg (by simp),List.append_nil] at hsn;have HE:=Lib.hid hsf;have HS:=Lib.hid hsn;replace hacc:=Lib.hid hacc;clear hsb hsf hsn hl2 hb2 hle2 hft;go_wp2_with (first|(with_reducible refine xval rfl 27 rfl _ (fun w=>ybn rfl rfl rfl HE.out w) ?_)|(with_reducible first|refine x1 rfl rfl rfl hst ?_|refine xd rfl rfl rfl hst ?_|(refine xsa rfl rfl rfl rfl hst ?_;clear hst;intro w' hst)|(refine xnw rfl rfl hst ?_;clear hst;intro bn w' hst)));go_roundw
      case rel=>exact⟨j+1,Lo,by omega,by go_num,Lib.hid (by rw[HS.out,hacc.out];exact hown),hst.drop⟩
      case measure=>simp[intOf];omega
    ·obtain rfl:j=x.s.recs.length:=by omega
     rw[List.take_length] at HO;go_wp2_with fail;go_roundw
     case rel=>exact⟨k+1,Lo,by omega,by go_num,Lib.hid (by rw[HF.out];exact HO.out),(hst.perm List.perm_middle).drop⟩
     case measure=>simp[intOf];omega
  ·obtain rfl:k=l.length:=by omega
   rw[List.take_length] at HO;go_wp2_with fail;go_ret;exact⟨_,Lo,rfl,HO.out,hst.takeL.st⟩
theorem ybp {v:Tv} (h:TtAt D v) (hb:(runsF v.t false).length≤100000000) (w:World) (hD:Holds D w):Calls Tryz.prog 50 #[.agg (ttL v).toArray] w (OwnRet 36 2 rnL (runsF v.t false) w):=by
 have hst:=Sx.start0 w hD;have HR:=Lib.hid (fun wx hx=>ybo h false hb wx hx);clear h hb;generalize runsF v.t false=R at*;obtain⟨p,c,k0,l⟩:=v;have hC:(ttL ⟨p,c,k0,l⟩).toArray=tC k0 (.slice p l.length c):=rfl;rw[hC] at HR ⊢;go_enter Tryz.func50,Tryz.ntmps50;go_wp2_with (with_reducible first|refine xa rfl rfl rfl hst ?_|(refine xba rfl rfl hst rfl ?_;clear hst;intro bb w' hst));refine(HR.out _ hst.data).mono ?_;rintro e w2 ⟨v',Lo,rfl,hown,hs⟩;replace hst:=hst.take hs;go_wp2_with fail;go_ret;exact⟨_,Lo,rfl,hown,hst.takeL.st⟩
end
end Go.Proofs.YtdkeiefgkgpcbaaGreatDoor
namespace Go.Proofs.YtdkeiefgkgpcbaaGreatDoor
open Go.Shelf Go.RowKit Go.Sort
def ybq:Go.Shelf.Ren:=⟨fun |6=>92 |14=>131 |15=>132 |20=>159 |21=>160 |22=>161 |23=>162 |24=>163 |25=>164 |26=>165 |27=>166 |28=>167 |29=>168 |46=>183 |47=>184 |48=>185 |49=>186 |50=>187 |57=>194 |n=>n,fun |0=>0 |3=>3 |4=>4 |5=>5 |9=>9 |22=>98 |24=>36 |25=>186 |39=>230 |45=>266 |46=>267 |50=>50 |53=>223 |55=>274 |66=>292 |70=>296 |76=>308 |77=>309 |n=>n,fun |n=>n⟩
theorem ybr:Go.Proofs.SlLaysF0.n6 Tryz.prog ybq:={
 mixed:=by kernel_rfl
 f6:=⟨"slices.SortFunc[[]sealingwax/api.Run,sealingwax/api.Run]",by kernel_rfl,Tryz.func92.trans (congrArg some (by kernel_rfl))⟩
 f14:=⟨"slices.pdqsortCmpFunc[sealingwax/api.Run]",by kernel_rfl,Tryz.func131.trans (congrArg some (by kernel_rfl))⟩
 f15:=Tryz.func132.trans (congrArg some (by kernel_rfl))
 f20:=⟨"slices.insertionSortCmpFunc[sealingwax/api.Run]",by kernel_rfl,Tryz.func159.trans (congrArg some (by kernel_rfl))⟩
 f21:=⟨"slices.heapSortCmpFunc[sealingwax/api.Run]",by kernel_rfl,Tryz.func160.trans (congrArg some (by kernel_rfl))⟩
 f22:=⟨"slices.breakPatternsCmpFunc[sealingwax/api.Run]",by kernel_rfl,Tryz.func161.trans (congrArg some (by kernel_rfl))⟩
 f23:=⟨"slices.choosePivotCmpFunc[sealingwax/api.Run]",by kernel_rfl,Tryz.func162.trans (congrArg some (by kernel_rfl))⟩
 f24:=⟨"slices.reverseRangeCmpFunc[sealingwax/api.Run]",by kernel_rfl,Tryz.func163.trans (congrArg some (by kernel_rfl))⟩
 f25:=⟨"slices.partialInsertionSortCmpFunc[sealingwax/api.Run]",by kernel_rfl,Tryz.func164.trans (congrArg some (by kernel_rfl))⟩
 f26:=⟨"slices.partitionEqualCmpFunc[sealingwax/api.Run]",by kernel_rfl,Tryz.func165.trans (congrArg some (by kernel_rfl))⟩
 f27:=⟨"slices.partitionCmpFunc[sealingwax/api.Run]",by kernel_rfl,Tryz.func166.trans (congrArg some (by kernel_rfl))⟩
 f28:=Tryz.func167.trans (congrArg some (by kernel_rfl))
 f29:=Tryz.func168.trans (congrArg some (by kernel_rfl))
 f46:=⟨"slices.siftDownCmpFunc[sealingwax/api.Run]",by kernel_rfl,Tryz.func183.trans (congrArg some (by kernel_rfl))⟩
 f47:=Tryz.func184.trans (congrArg some (by kernel_rfl))
 f48:=Tryz.func185.trans (congrArg some (by kernel_rfl))
 f49:=⟨"slices.medianAdjacentCmpFunc[sealingwax/api.Run]",by kernel_rfl,Tryz.func186.trans (congrArg some (by kernel_rfl))⟩
 f50:=⟨"slices.medianCmpFunc[sealingwax/api.Run]",by kernel_rfl,Tryz.func187.trans (congrArg some (by kernel_rfl))⟩
 f57:=⟨"slices.order2CmpFunc[sealingwax/api.Run]",by kernel_rfl,Tryz.func194.trans (congrArg some (by kernel_rfl))⟩
 t0:=Tryz.underlying0
 a0:=Tryz.isAgg0
 z0:=Tryz.sizeOf0
 v0:=Tryz.zeroValue0
 t3:=Tryz.underlying3
 a3:=Tryz.isAgg3
 z3:=Tryz.sizeOf3
 v3:=Tryz.zeroValue3
 t4:=Tryz.underlying4
 a4:=Tryz.isAgg4
 z4:=Tryz.sizeOf4
 v4:=Tryz.zeroValue4
 t5:=Tryz.underlying5
 a5:=Tryz.isAgg5
 z5:=Tryz.sizeOf5
 v5:=Tryz.zeroValue5
 t9:=Tryz.underlying9
 a9:=Tryz.isAgg9
 z9:=Tryz.sizeOf9
 v9:=Tryz.zeroValue9
 t22:=Tryz.underlying98
 a22:=Tryz.isAgg98
 z22:=Tryz.sizeOf98
 v22:=Tryz.zeroValue98
 t25:=Tryz.underlying186
 a25:=Tryz.isAgg186
 z25:=Tryz.sizeOf186
 v25:=Tryz.zeroValue186
 t39:=Tryz.underlying230
 a39:=Tryz.isAgg230
 z39:=Tryz.sizeOf230
 v39:=Tryz.zeroValue230
 t45:=Tryz.underlying266
 a45:=Tryz.isAgg266
 z45:=Tryz.sizeOf266
 v45:=Tryz.zeroValue266
 t46:=Tryz.underlying267
 a46:=Tryz.isAgg267
 z46:=Tryz.sizeOf267
 v46:=Tryz.zeroValue267
 t50:=Tryz.underlying50
 a50:=Tryz.isAgg50
 z50:=Tryz.sizeOf50
 v50:=Tryz.zeroValue50
 t53:=Tryz.underlying223
 a53:=Tryz.isAgg223
 z53:=Tryz.sizeOf223
 v53:=Tryz.zeroValue223
 t55:=Tryz.underlying274
 a55:=Tryz.isAgg274
 z55:=Tryz.sizeOf274
 v55:=Tryz.zeroValue274
 t66:=Tryz.underlying292
 a66:=Tryz.isAgg292
 z66:=Tryz.sizeOf292
 v66:=Tryz.zeroValue292
 t70:=Tryz.underlying296
 a70:=Tryz.isAgg296
 z70:=Tryz.sizeOf296
 v70:=Tryz.zeroValue296
 t76:=Tryz.underlying308
 a76:=Tryz.isAgg308
 z76:=Tryz.sizeOf308
 v76:=Tryz.zeroValue308
 t77:=Tryz.underlying309
 a77:=Tryz.isAgg309
 z77:=Tryz.sizeOf309
 v77:=Tryz.zeroValue309}
def rn1 (x:Fin 1024):List Value:=[.int .i64 (x.val:Int),.int .i64 1]
instance encRn1:Enc rn1 2:=⟨fun _=>rfl,fun x v hv=>by simp[rn1] at hv;rcases hv with rfl |rfl<;>rfl⟩
def cmpR (x y:Fin 1024):Int:=(x.val:Int)-(y.val:Int)
theorem ybs (x y:Fin 1024) (W:World):Calls Tryz.prog 93 #[.agg #[.int .i64 (x.val:Int),.int .i64 1],.agg #[.int .i64 (y.val:Int),.int .i64 1]] W fun e w'=>e=.returned (.int .i64 (cmpR x y))∧∃q os',w'=grow (W.drewN q) os':=by
 have hx:=x.isLt;have hy:=y.isLt;unfold cmpR;generalize x.val=a at*;generalize y.val=b at*;go_enter Tryz.func93,Tryz.ntmps93;go_wp2_with (refine xval rfl 9 rfl _ (fun w=>Fx.e_sub rfl rfl rfl (by omega) w) ?_);go_ret;exact⟨rfl,0,_,by rw[alloc_eq_grow,alloc_eq_grow,grow_grow];rfl⟩
theorem ltR (a b:Fin 1024):ltOf cmpR a b=decide ((a.val:Int)-(b.val:Int)<0):=rfl
theorem swoR:SWO (ltOf cmpR) where
 irrefl x:=by rw[ltR];simp
 trans x y z h1 h2:=by rw[ltR,decide_eq_true_eq] at*;omega
 ntrans x y z h1 h2:=by rw[ltR,decide_eq_false_iff_not] at*;omega
theorem ybt (l:List (Fin 1024)) (t:Nat) (h:t<l.length*2):(l.flatMap rn1)[t]? =some ((rn1 l.toArray[t / 2]!)[t%2]!):=by
 have h2:t / 2<l.length:=by omega
 have:=rows_at (enc:=rn1) (k:=2) l (t / 2) h2 (t%2) (by omega);rw[show t / 2*2+t%2=t by omega] at this;rw[this,getElem!_pos l.toArray _ (by simpa using h2),show l.toArray[t / 2]'(by simpa using h2)=l[t / 2] by simp];have h3:t%2<(rn1 l[t / 2]).length:=by show t%2<2;omega
 rw[getElem!_pos (rn1 l[t / 2]) (t%2) h3,List.getElem?_eq_getElem h3]
theorem ybu {S:List Nat} {w0 w:World} {Lo L:List Blk} {D:Dat} {v:Value} {l:List (Fin 1024)} {K:Ending→World→Prop} (hv:OwnR 36 2 rn1 Lo v l) (hst:Sx S w0 w (Lo++L) D []) (hl:l.length≤1000000)
  (hk:∀w' Lo' l',l'.Perm l→l'.Pairwise (fun a b=>a.val≤b.val)→OwnR 36 2 rn1 Lo' v l'→Sx S w0 w' (Lo'++L) D []→K (.returned (.tuple #[])) w'):
  Calls Tryz.prog 92 #[v,.func (.func 93) #[] #[]] w K:=by
 rcases hv with⟨rfl,⟨p,rfl⟩,rfl⟩ |⟨g,c,C,rfl,rfl,h1,h2,h3,h4⟩
 ·exact callB (sort0_calls p 0 _ w) hst fun w' hs=>hk w' [] [] (List.Perm.refl _) (List.Pairwise.nil) (OwnR.none p) hs
 ·have hb:w.heap[g]? =some (.cells C 36 (0,0)):=hst.st.blk (g,C,36) (by simp)
  have hcell:∀t (h:t<l.length*2),C[t]? =some ((rn1 l.toArray[t / 2]!)[t%2]!):=fun t ht=>by
   have:=congrArg (fun x:List Value=>x[t]?) h4;simp only[List.getElem?_take,if_pos ht,Array.getElem?_toList] at this;rw[this,ybt l t ht]
  have hH:HoldsK rn1 2 w g 0 l.toArray:=fun j hj=>by
   rw[size_flatK] at hj;have hj':j<l.length*2:=by simpa using hj
   rw[get_flatK _ _ _ _ hj];exact⟨by simp[World.cell?,hb,hcell j hj'],by simp[World.frozen?,hb]⟩
  have eg:∀args w,(callFunc 93 args).run Tryz.prog w=.ok (.enter 93 args) w:=enters_of Tryz.func93 (by kernel_rfl) rfl;have hcmp:CmpLays Tryz.prog 93 #[] rn1 2 cmpR g 0 l.toArray.size w:=fun _ _ _ _ x y=>ybs x y _
  have hcon:=AnyQ.slices_SortFunc ybr 2 Tryz.isAgg36 Tryz.sizeOf36 rn1 (fun _=>rfl) (fun x v hv=>encRn1.one x v hv) cmpR swoR 93 #[] g 0 c l.toArray w eg hcmp hH (lt_of_heap' hb) (by simp;omega);change Calls Tryz.prog 92 #[.slice (some ⟨g,0,none⟩) l.length c,.func (.func 93) #[] #[]] w _ at hcon;refine hcon.mono ?_;rintro e w' ⟨rfl,d',n,os,⟨hs1,hs2,hs3⟩,hso,rfl⟩;have hlen:d'.toList.length=l.length:=by simpa using hs1
  have hperm:d'.toList.Perm l:=by
   have h5:d'.extract 0 l.toArray.size=d':=by rw[←hs1];simp
   have h6:l.toArray.extract 0 l.toArray.size=l.toArray:=by simp
   rw[h5,h6] at hs3;simpa using hs3
  have hC':∀t,t<l.length*2→(Go.Sort.putCells id 0 (flatK rn1 2 d') C)[t]? =some ((rn1 d'[t / 2]!)[t%2]!):=fun t ht=>by
   have htc:t<C.size:=by omega
   have ht2:t<d'.size*2:=by rw[hs1];simpa using ht
   unfold Go.Sort.putCells;rw[Array.getElem?_mapIdx,Array.getElem?_eq_getElem htc,Option.map_some,if_pos ⟨Nat.zero_le _,by rw[size_flatK];omega⟩,Nat.sub_zero,get_flatK _ _ _ _ ht2];rfl
  have hrow:(Go.Sort.putCells id 0 (flatK rn1 2 d') C).toList.take (d'.toList.length*2)=d'.toList.flatMap rn1:=by
   apply List.ext_getElem?;intro t;rw[hlen]
   by_cases ht:t<l.length*2
   ·rw[List.getElem?_take,if_pos ht,Array.getElem?_toList,hC' t ht,ybt d'.toList t (by omega)]
   ·rw[List.getElem?_take,if_neg ht,List.getElem?_eq_none]
    rw[rows_length (k:=2)];omega
  have hw:St [g] w (sortWorldK rn1 2 w g 0 n d' os) [(g,Go.Sort.putCells id 0 (flatK rn1 2 d') C,36)]:=by
   have hh:∀j,j<w.heap.size→(sortWorldK rn1 2 w g 0 n d' os).heap[j]? =(if j=g then some (.cells (Go.Sort.putCells id 0 (flatK rn1 2 d') C) 36 (0,0)) else w.heap[j]?):=fun j hj=>by
    show((w.heap.modify g (onCells (Go.Sort.putCells id 0 (flatK rn1 2 d'))))++os)[j]? =_;rw[Array.getElem?_append_left (by simpa using hj),Array.getElem?_modify]
    by_cases hjg:j=g
    ·subst hjg;rw[if_pos rfl,if_pos rfl,hb];rfl
    ·rw[if_neg (Ne.symm hjg),if_neg hjg]
   have hg:g<w.heap.size:=lt_of_heap' hb;refine⟨rfl,rfl,rfl,?_,fun j hj hjn=>?_,fun p hp=>?_,by simp,fun p hp=>?_⟩
   ·show w.heap.size≤((w.heap.modify g _)++os).size
    simp
   ·rw[hh j hj,if_neg (by simpa using hjn)]
   ·obtain rfl:=List.mem_singleton.1 hp;exact Or.inr (by simp)
   ·obtain rfl:=List.mem_singleton.1 hp
    rw[hh g hg,if_pos rfl]
  have hst1:Sx S w0 w ((g,C,36)::L) D []:=hst;have hst2:=hst1.upd (g:=g) (C':=Go.Sort.putCells id 0 (flatK rn1 2 d') C) hw;refine hk _ _ d'.toList hperm ?_ (Or.inr ⟨g,c,_,rfl,by rw[hlen],by omega,h2,by simp[Go.Sort.putCells,h3],hrow⟩) hst2;rw[List.pairwise_iff_getElem];intro i j hi hj hij;have:=hso i j (Nat.zero_le _) hij (by simpa[hlen] using hj);rw[getElem!_pos d' i (by simpa using hi),getElem!_pos d' j (by simpa using hj)] at this;rw[ltR,decide_eq_false_iff_not] at this;simp only[Array.getElem_toList];omega
end Go.Proofs.YtdkeiefgkgpcbaaGreatDoor
namespace Go.Proofs.YtdkeiefgkgpcbaaGreatDoor
open Go.RowKit
def slLen:Value→Nat | .slice _ n _=>n |_=>0
def covT (l:List Rn) (i:Int):Bool:=l.any fun r=>decide (r.s≤i)&&decide (i<r.s+r.c)
theorem ybv {l:List Rn} {i:Int}:covT l i=true↔covR l i:=by
 unfold covT covR;simp[List.any_eq_true]
def restI (d:Dv) (t:Tt):List Nat:=(List.range (dStates d).length).filter fun i=>decide ((dStates d)[i]? =some 1)&& !covT (runsF t false++allR (chainF d)) i
def restF (d:Dv) (t:Tt):List Rn:=(restI d t).map fun i:Nat=>(⟨i,1⟩:Rn)
theorem ybw {d:Dv} {t:Tt} {i:Nat}:i∈restI d t↔(dStates d)[i]? =some 1∧¬covR (runsF t false++allR (chainF d)) i:=by
 unfold restI;rw[List.mem_filter,List.mem_range,Bool.and_eq_true,decide_eq_true_eq,Bool.not_eq_true',←ybv,Bool.not_eq_true];constructor
 ·exact fun h=>h.2
 ·exact fun h=>⟨(List.getElem?_eq_some_iff.1 h.1).1,h⟩
theorem ybx:∀ {l m:List Nat},l.Pairwise (· < ·)→m.Pairwise (· < ·)→(∀x,x∈l↔x∈m)→l=m
 | [],[],_,_,_=>rfl
 | [],y::m,_,_,h=>absurd ((h y).2 (by simp)) (by simp)
 |x::l,[],_,_,h=>absurd ((h x).1 (by simp)) (by simp)
 |x::l,y::m,hl,hm,h=>by
  rw[List.pairwise_cons] at hl hm
  have hxy:x=y:=by
   rcases List.mem_cons.1 ((h x).1 (by simp)) with h1 |h1
   ·exact h1
   ·rcases List.mem_cons.1 ((h y).2 (by simp)) with h2 |h2
    ·exact h2.symm
    ·have:=hl.1 y h2;have:=hm.1 x h1;omega
  subst hxy;rw[ybx hl.2 hm.2 (fun z=>?_)];constructor
  ·intro hz
   rcases List.mem_cons.1 ((h z).1 (by simp[hz])) with h1 |h1
   ·have:=hl.1 z hz;omega
   ·exact h1
  ·intro hz
   rcases List.mem_cons.1 ((h z).2 (by simp[hz])) with h1 |h1
   ·have:=hm.1 z hz;omega
   ·exact h1
end Go.Proofs.YtdkeiefgkgpcbaaGreatDoor
