/- Steps of the proof: NameRow, NameAdd, Record, Policy. -/
import Derived.Lib.AppendZerosOnto
import Derived.Test.YtdkeiefgkgpcbaaGreatDoorP24
set_option linter.unusedVariables false
set_option linter.unusedSimpArgs false
set_option maxRecDepth 100000
namespace Go.Proofs.YtdkeiefgkgpcbaaGreatDoor
open Go.RowKit
section
variable {α:Type} {enc:α→List Value} {k:Nat} {D:Dat} {T:TypeId} {p:Option Addr} {c:Nat} {l:List α}
theorem RowAt.take (h:RowAt D T k enc p c l) (j:Nat):RowAt D T k enc p c (l.take j):=⟨Nat.le_trans (List.length_take_le' ..) h.cap,Nat.le_trans (List.length_take_le' ..) h.big,fun i hi=>by
 have hi2:i<l.length:=Nat.lt_of_lt_of_le hi (List.length_take_le' ..);obtain⟨g,off,C,Tb,e,hD,hc⟩:=h.at_ i hi2
 exact⟨g,off,C,Tb,e,hD,fun j v hj=>hc j v (by rw[←hj,List.getElem_take])⟩⟩
theorem RowAt.drop (h:RowAt D T k enc p c l) (j:Nat):RowAt D T k enc (if c=j then p else p.map (·.add (j*k))) (c-j) (l.drop j):=⟨by rw[List.length_drop];have:=h.cap;omega,by rw[List.length_drop];have:=h.big;omega,fun i hi=>by
 rw[List.length_drop] at hi;obtain⟨g,off,C,Tb,e,hD,hc⟩:=h.at_ (j+i) (by omega);have hcj:c≠j:=by have:=h.cap;omega
 refine⟨g,off+j*k,C,Tb,by rw[if_neg hcj,e,Option.map_some,addr_add],hD,fun q v hq=>?_⟩;have:=hc q v (by rw[←hq,List.getElem_drop]);rw[Nat.add_mul] at this;rw[←this];congr 1
 omega⟩
end
section
variable {ops:Array Oper} {rest:List Oper} {o:Oper} {a:Act} {w:World} {Q:Exit→Act→World→Prop} {S:List Nat} {w0:World} {L:List Blk} {D:Dat} {F:List Nat} {T TS TI:TypeId} {k:Nat}
theorem xgz (hw:Region.wanted o (yielded ops a.tmps)=true) (x y:Operand) (ho:o.op=.call {callee:=.builtin .append,args:=#[x,y],argTypes:=#[TS,TI]}) (hx:a.eval x=.slice none 0 0) {n:Nat} (hy:a.eval y=.int .i64 n) (hn:1≤n∧n≤1000000000) [sl:SlT TS T] [el:Elt T k] (hI:Tryz.prog.underlying TI=some (.int .i64)) (h:Sx S w0 w L D F)
  (hk:∀b c C w',n≤c→c≤maxLen→C.size=c*k→Sx S w0 w' ((b,C,T)::L) D F→wpList Tryz.prog ops Q rest (a.put o.dst (.slice (some ⟨b,0,none⟩) n c)) w'):wpList Tryz.prog ops Q (o::rest) a w:=
 BigFrame.wpList_want hw fun K hK=>by
  obtain⟨i,z,hi,hz,hs,hb,hzs,hk0⟩:=elt_info T k;have hr:=Lib.run_append_grow_zeros (P:=Tryz.prog) w TS TI o.type T i z .i64 .i64 sl.under hI hi hz none 0 0 [] (run_firstCells_none w.drew i.size 0 0 0) n (by omega) (by omega) (by omega) (by omega) (by have:n*i.bytes≤n*10000:=Nat.mul_le_mul_left _ hb;omega) (by rw[Nat.zero_add];exact growslice_fits (by omega) (by have:n*i.bytes≤n*10000:=Nat.mul_le_mul_left _ hb;omega));rw[Nat.zero_add] at hr;have hge:=grownCap_ge w n 0 T;have hcm:=grownCap_le_maxLen w n 0 T (by unfold maxLen;omega);unfold Oper.wp execOp;simp only[ho,resolve,invoke,builtin,Sem.run_bind,Sem.run_pure,Result.andThen_ok,List.map_toArray,List.map_cons,List.map_nil,hx,hy,hr];exact hK _ _ (hk _ _ _ _ hge hcm (by simp only[Array.size_append,List.size_toArray,size_zeroCells,hzs,List.length_nil,Nat.zero_add,←Nat.add_mul];congr 1;omega) (h.takeNew (Below.drew (Below.refl _ _)|>.alloc (Nat.le_refl _) _) (Nat.le_refl _) (heap_alloc_new w.drew _)))
end
theorem growS_calls (n:Nat) (hn:n≤1000000000) (w:World):Calls Tryz.prog 192 #[.slice none 0 0,.int .i64 n] w (fun e w'=>∃p c Lo,e=.returned (.slice p 0 c)∧OwnR 9 1 strL Lo (.slice p 0 c) []∧St [] w w' Lo):=by
 have hst:=Sx.startN w
 by_cases h0:n=0
 ·subst h0
  go_enter Tryz.func192,Tryz.ntmps192;go_wp2_with fail;go_ret;exact⟨_,_,[],rfl,OwnR.none _,hst.st⟩
 ·have h1:=Lib.hid (decide_eq_false (show ¬((n:Int)<0) by omega))
  obtain⟨n1,hn1⟩:∃n1:Nat,((n:Int)-0)=n1:=⟨n,by omega⟩;have hb1:1≤n1∧n1≤1000000000:=by omega
  have h2:=Lib.hid (decide_eq_true (show(0:Int)<(n1:Int) by omega));replace hn1:=Lib.hid hn1;go_enter Tryz.func192,Tryz.ntmps192;go_wp2_with (first|(with_reducible (refine xval rfl 6 rfl (.bool false) (fun w=>Fx.e_lss rfl rfl rfl h1.out w) ?_))|(with_reducible (refine xval rfl 14 rfl (.int .i64 n1) (fun w=>by rw[←hn1.out];exact Fx.e_sub rfl rfl rfl (by omega) w) ?_))|(with_reducible (refine xval rfl 16 rfl (.bool true) (fun w=>Fx.e_gtr rfl rfl rfl h2.out w) ?_))|(with_reducible (refine xgz (TS:=37) rfl _ _ rfl rfl rfl hb1 Tryz.underlying3 hst ?_;clear hst;intro b c C w' hnc hcm hC hst))|fail);go_ret;exact⟨_,_,_,rfl,Or.inr ⟨b,c,C,rfl,rfl,Nat.zero_le _,hcm,hC,rfl⟩,hst.st⟩
structure Rs where
 p:Option Addr
 c:Nat
 l:List ByteArray
def rsL (r:Rs):List Value:=[.slice r.p r.l.length r.c]
instance encRs:Enc rsL 1:=⟨fun _=>rfl,fun x v hv=>by simp[rsL] at hv;subst hv;rfl⟩
instance eltRs:Elt 37 1:=⟨.slice none 0 0,24,by kernel_rfl,rfl,by decide,by decide⟩
instance sltRs:SlT 305 37:=⟨Tryz.underlying305⟩
instance oneRs:OneT 37:=⟨fun w=>by kernel_rfl,by kernel_rfl⟩
def allS (rs:List Rs):List ByteArray:=rs.flatMap (·.l)
theorem allS_take {rs:List Rs} {k:Nat} (h:k<rs.length):allS (rs.take (k+1))=allS (rs.take k)++rs[k].l:=by
 unfold allS;rw[List.take_succ_eq_append_getElem h,List.flatMap_append];simp
theorem allS_le {rs:List Rs} (k:Nat):(allS (rs.take k)).length≤(allS rs).length:=by
 have:allS rs=allS (rs.take k)++allS (rs.drop k):=by
  unfold allS;rw[←List.flatMap_append,List.take_append_drop]
 rw[this,List.length_append];omega
set_option maxHeartbeats 2000000 in
theorem concat_calls {D:Dat} {p:Option Addr} {c:Nat} {rs:List Rs} (hr:RowAt D 37 1 rsL p c rs) (hrs:∀r∈rs,RowAt D 9 1 strL r.p r.c r.l) (hn:(allS rs).length≤1000000) (w:World) (hD:Holds D w):
  Calls Tryz.prog 175 #[.slice p rs.length c] w (OwnRet 9 1 strL (allS rs) w):=by
 have hst:=Sx.start0 w hD;have hcap:=hr.cap;have hbg:=hr.big;go_enter Tryz.func175,Tryz.ntmps175;go_wp2_with fail;go_loopw [3,11] (fun sv iv wr=>∃k:Nat,k≤rs.length∧iv=.int .i64 k∧sv=.int .i64 ((allS (rs.take k)).length:Nat)∧Sx [] w wr [] D []) (fun sv iv _=>rs.length-(intOf iv).toNat)
 case atStart=>exact⟨0,Nat.zero_le _,rfl,rfl,hst⟩
 case round=>
  clear hst;obtain⟨k,hk,rfl,rfl,hst⟩:=hrel
  by_cases hlt:k<rs.length
  ·obtain⟨g,off,rfl⟩:=hr.at_some hlt
   have hld:LdD D 37 ⟨g,off+k,none⟩ (.slice rs[k].p rs[k].l.length rs[k].c):=hr.ld1 hlt rfl;have hle:(allS (rs.take (k+1))).length≤1000000:=Nat.le_trans (allS_le _) hn;have hadd:(((allS (rs.take k)).length:Nat):Int)+((rs[k].l.length:Nat):Int)=((allS (rs.take (k+1))).length:Nat):=by rw[allS_take hlt,List.length_append];omega
   generalize rs[k]=x at*;obtain⟨n1,hn1⟩:∃n1,(allS (rs.take (k+1))).length=n1:=⟨_,rfl⟩;rw[hn1] at hle hadd;replace hn1:=Lib.hid hn1;generalize (allS (rs.take k)).length=n0 at*;have hb0:(n0:Int)+(x.l.length:Int)≤1000000:=by omega
   have hp:=Lib.hid (decide_eq_false (show ¬((n1:Int)<0) by omega));replace hadd:=Lib.hid hadd;go_wp2_with (first|(with_reducible (refine xval rfl 18 rfl (.int .i64 (n1:Nat)) (fun w=>by rw[←hadd.out];exact Fx.e_add rfl rfl rfl (by omega) w) ?_))|(with_reducible (refine xval rfl 20 rfl (.bool false) (fun w=>Fx.e_lss rfl rfl rfl hp.out w) ?_))|(with_reducible refine xd rfl rfl rfl hst ?_));go_roundw
   case rel=>exact⟨k+1,by omega,by go_num,by rw[hn1.out],hst⟩
   case measure=>simp[intOf];omega
  ·obtain rfl:k=rs.length:=by omega
   rw[List.take_length];have hlt2:=Lib.hid (decide_eq_false (show ¬(rs.length:Int)<(rs.length:Int) by omega));go_wp2_with (first|(with_reducible (refine xval rfl 12 rfl (.bool false) (fun w=>Fx.e_lss rfl rfl rfl hlt2.out w) ?_))|fail);refine(growS_calls _ (by omega) _).mono ?_;rintro e w2 ⟨p2,c2,Lo,rfl,hown,hs2⟩;replace hst:=hst.take hs2;clear hs2 hlt2;go_wp2_with fail;go_loopw [6,27] (fun ov iv wr=>∃(k:Nat) (Lo:List Blk),k≤rs.length∧iv=.int .i64 k∧Hid (OwnR 9 1 strL Lo ov (allS (rs.take k)))∧Sx [] w wr (Lo++[]) D []) (fun sv iv _=>rs.length-(intOf iv).toNat)
   case atStart=>exact⟨0,Lo,Nat.zero_le _,rfl,Lib.hid hown,hst⟩
   case round=>
    clear hst hown;obtain⟨k,Lo,hk,rfl,HO,hst⟩:=hrel
    by_cases hlt:k<rs.length
    ·obtain⟨g,off,rfl⟩:=hr.at_some hlt
     have hld:LdD D 37 ⟨g,off+k,none⟩ (.slice rs[k].p rs[k].l.length rs[k].c):=hr.ld1 hlt rfl;have hle:(allS (rs.take (k+1))).length≤1000000:=Nat.le_trans (allS_le _) hn;have hrx:=hrs _ (List.getElem_mem hlt);rw[allS_take hlt] at hle;have HT:=Lib.hid (allS_take hlt);generalize rs[k]=x at*;have hsrc:∀w',Holds D w'→Src w' strL (.slice x.p x.l.length x.c) x.l:=fun w' hw=>RowD.src ⟨_,_,rfl,hrx⟩ hw (by decide)
     have hlen:(allS (rs.take k)).length+x.l.length≤1000000000:=by rw[List.length_append] at hle;omega
     go_wp2_with (first|(with_reducible refine xd rfl rfl rfl hst ?_)|(with_reducible (refine xap (T:=9) (TS:=37) rfl _ _ rfl rfl rfl hst HO.out (hsrc _ hst.data) hlen ?_);clear hst;intro p4 c4 w4 Lo4 hown4 hst));go_roundw
     case rel=>exact⟨k+1,Lo4,by omega,by go_num,Lib.hid (by rw[HT.out];rw[List.length_append] at hown4;exact hown4),hst⟩
     case measure=>simp[intOf];omega
    ·obtain rfl:k=rs.length:=by omega
     have hlt2:=Lib.hid (decide_eq_false (show ¬(rs.length:Int)<(rs.length:Int) by omega));go_wp2_with (first|(with_reducible (refine xval rfl 28 rfl (.bool false) (fun w=>Fx.e_lss rfl rfl rfl hlt2.out w) ?_))|fail);go_ret;have hO:=HO.out;rw[List.take_length] at hO;rw[List.append_nil] at hst;exact⟨_,Lo,rfl,hO,hst.st⟩
end Go.Proofs.YtdkeiefgkgpcbaaGreatDoor
namespace Go.Proofs.YtdkeiefgkgpcbaaGreatDoor
open Go.RowKit
def nmAt (l:List ByteArray) (s:ByteArray):Nat:=srchF (fun i=> !lessS (l.getD i noS) s) l.length
def nmHas (l:List ByteArray) (s:ByteArray):Bool:=decide (nmAt l s<l.length)&&((l.getD (nmAt l s) noS).toList==s.toList)
theorem srchF_le (p:Nat→Bool) (n:Nat):srchF p n≤n:=by
 unfold srchF;have:=List.countP_le_length (p:=fun i=> !p i) (l:=List.range n)
 rwa [List.length_range] at this
theorem nmAt_le (l:List ByteArray) (s:ByteArray):nmAt l s≤l.length:=srchF_le _ _
def findV (l:List ByteArray) (s:ByteArray):Value:=if risingS l then .tuple #[.int .i64 (nmAt l s:Nat),.bool (nmHas l s),.bool true] else .tuple #[.int .i64 0,.bool false,.bool false]
theorem rising_mono {l:List ByteArray} (h:risingS l=true) (s:ByteArray):∀a b,a≤b→b<l.length→(!lessS (l.getD a noS) s)=true→(!lessS (l.getD b noS) s)=true:=by
 intro a b hab hb ha;rw[List.getD_eq_getElem?_getD,List.getElem?_eq_getElem (by omega)] at ha;rw[List.getD_eq_getElem?_getD,List.getElem?_eq_getElem hb];simp only[Option.getD_some] at ha ⊢
 by_cases he:a=b
 ·subst he;exact ha
 ·cases hc:lessS l[b] s with
  |false=>rfl
  |true=>
   have:=lessS_trans (risingS_lt h (show a<b by omega) hb) hc;rw[this] at ha
   cases ha
set_option maxHeartbeats 2000000 in
theorem nfind_calls {D:Dat} {p:Option Addr} {c:Nat} {l:List ByteArray} (hr:RowAt D 9 1 strL p c l) (s:ByteArray) (w:World) (hD:Holds D w):
  Calls Tryz.prog 174 #[.slice p l.length c,.string s] w (Ret (findV l s) w):=by
 have hst:=Sx.start0 w hD;have hbg:=hr.big;have HO:=Lib.hid (fun wx hx=>ordered_calls hr wx hx)
 by_cases hri:risingS l=true
 case neg=>
  have hri2:risingS l=false:=by simpa using hri
  rw[hri2] at HO;have HF:Hid (findV l s=.tuple #[.int .i64 0,.bool false,.bool false]):=Lib.hid (if_neg hri);clear hri hri2;go_enter Tryz.func174,Tryz.ntmps174;go_wp2_with (first|fail |(with_reducible (refine callB (HO.out _ hst.data) hst ?_;clear hst;intro w' hst)));refine bodyPost_ret (results3 rfl res_tmp res_tmp res_tmp) rfl ⟨by rw[HF.out];rfl,hst.end⟩
 rw[hri] at HO;have HF:Hid (findV l s=.tuple #[.int .i64 (nmAt l s:Nat),.bool (nmHas l s),.bool true]):=Lib.hid (if_pos hri);have hle:=nmAt_le l s
 have HS:=Lib.hid (fun wx (hx:Holds D wx)=>search_calls l.length hbg (fun i=> !lessS (l.getD i noS) s) 191 (.agg (skC (.slice p l.length c) s)) wx (rising_mono hri s) (fun args w=>by kernel_rfl) (fun i hi w' hb=>by
  have h1:=behind_calls hr s hi w' ((Sx.start0 wx hx).below hb).data;rw[List.getD_eq_getElem?_getD,List.getElem?_eq_getElem hi]
  exact h1))
 have HH:Hid (nmHas l s=(decide (nmAt l s<l.length)&&((l.getD (nmAt l s) noS).toList==s.toList))):=Lib.hid rfl;have hat:srchF (fun i=> !lessS (l.getD i noS) s) l.length=nmAt l s:=rfl;rw[hat] at HS;clear hat hri;generalize nmAt l s=at_ at*
 go_enter Tryz.func174,Tryz.ntmps174;go_wp2_with (first|fail |(with_reducible (refine callB (HO.out _ hst.data) hst ?_;clear hst;intro w' hst))|(with_reducible refine xval rfl 14 rfl (.agg (skC (.slice p l.length c) s)) (fun w=>by kernel_rfl) ?_)|(with_reducible refine xval rfl 15 rfl (.func (.func 191) #[.agg (skC (.slice p l.length c) s)] #[]) (fun w=>by kernel_rfl) ?_)|(with_reducible (refine callB (HS.out _ hst.data) hst ?_;clear hst;intro w' hst)));refine Fx.go (fun _=>false) (fun i=> !(i==9)) (fun _=>false) (List.range 16) rfl hst (by kernel_rfl) (by kernel_rfl) (by kernel_rfl) (by kernel_rfl) (by kernel_rfl) ?_;refine Fx.val rfl rfl rfl rfl (v:=.int .i64 (at_:Nat)) (Fx.e_mv rfl rfl) ?_;refine Fx.val rfl rfl rfl rfl (v:=.int .i64 (at_:Nat)) (Fx.e_mv rfl rfl) ?_;refine Fx.val rfl rfl rfl rfl (v:=.slice p l.length c) (Fx.e_mv rfl rfl) ?_;refine Fx.ln rfl rfl rfl rfl rfl rfl ?_
 by_cases hlt:at_<l.length
 ·obtain⟨g,off,rfl⟩:=hr.at_some hlt
  have e1:LdD D 9 ⟨g,off+at_*1,none⟩ (.string l[at_]):=hr.ldf hlt 0 rfl rfl;have HH2:Hid (nmHas l s=(l[at_].toList==s.toList)):=Lib.hid (by rw[HH.out,decide_eq_true hlt,List.getD_eq_getElem?_getD,List.getElem?_eq_getElem hlt];rfl);have hlt2:=Lib.hid (decide_eq_true (show(at_:Int)<(l.length:Int) by omega));obtain⟨b,hb⟩:∃b,(l[at_].toList==s.toList)=b:=⟨_,rfl⟩;rw[hb] at HH2;generalize l[at_]=y at*;refine Fx.val rfl rfl rfl rfl (v:=.bool true) (Fx.e_lss rfl rfl rfl hlt2.out) ?_;refine Fx.val rfl rfl rfl rfl (v:=.bool true) (Fx.e_mv rfl rfl) ?_;refine Fx.val rfl rfl rfl (by kernel_rfl) (v:=.slice (some ⟨g,off,none⟩) l.length c) (Fx.e_mv rfl rfl) ?_;refine Fx.val rfl rfl rfl (by kernel_rfl) (v:=.int .i64 (at_:Nat)) (Fx.e_mv rfl rfl) ?_;refine Fx.ix rfl rfl rfl (by kernel_rfl) rfl rfl rfl hlt ?_;refine Fx.lD rfl rfl rfl (by kernel_rfl) rfl rfl ?_;refine Fx.val rfl rfl rfl (by kernel_rfl) (v:=.string s) (Fx.e_mv rfl rfl) ?_;refine Fx.val rfl rfl rfl (by kernel_rfl) (v:=.bool b) (e_eqls rfl rfl rfl hb) ?_;refine Fx.val rfl rfl rfl rfl (v:=.bool b) (Fx.e_pkT rfl rfl rfl) ?_;refine Fx.val rfl rfl rfl rfl (v:=.int .i64 (at_:Nat)) (Fx.e_as rfl rfl) ?_;refine Fx.val rfl rfl rfl rfl (v:=.bool b) (Fx.e_as rfl rfl) ?_;refine Fx.val rfl rfl rfl rfl (v:=.bool true) (Fx.e_as rfl rfl) ?_;clear hst;intro w' hst;generalize hact:Fx.mkO _ _=act;have hv4:act.tmps.getD 4 undef=.int .i64 (at_:Nat):=by rw[←hact];kernel_rfl
  have hv5:act.tmps.getD 5 undef=.bool b:=by rw[←hact];kernel_rfl
  have hv6:act.tmps.getD 6 undef=.bool true:=by rw[←hact];kernel_rfl
  obtain⟨fZ,hfZ,hact2⟩:=act_lit act 30 (by rw[←hact];kernel_rfl) (by rw[←hact];kernel_rfl);clear hact;have he4:fZ 4=.int .i64 (at_:Nat):=(hfZ 4).symm.trans hv4;have he5:fZ 5=.bool b:=(hfZ 5).symm.trans hv5;have he6:fZ 6=.bool true:=(hfZ 6).symm.trans hv6;simp only[show List.range 30=[0,1,2,3,4,5,6,7,8,9,10,11,12,13,14,15,16,17,18,19,20,21,22,23,24,25,26,27,28,29] from rfl,List.map_cons,List.map_nil,he4,he5,he6] at hact2;clear hfZ hv4 he4 hv5 he5 hv6 he6;subst hact2;go_wp2_with fail;refine bodyPost_ret (results3 rfl res_tmp res_tmp res_tmp) rfl ⟨by rw[HF.out,HH2.out];rfl,hst.end⟩
 ·have HH2:Hid (nmHas l s=false):=Lib.hid (by rw[HH.out,decide_eq_false hlt];rfl)
  have hlt2:=Lib.hid (decide_eq_false (show ¬(at_:Int)<(l.length:Int) by omega));refine Fx.val rfl rfl rfl rfl (v:=.bool false) (Fx.e_lss rfl rfl rfl hlt2.out) ?_;refine Fx.val rfl rfl rfl rfl (v:=.bool false) (Fx.e_mv rfl rfl) ?_;refine Fx.skip rfl rfl (by kernel_rfl) rfl ?_;refine Fx.skip rfl rfl (by kernel_rfl) rfl ?_;refine Fx.skip rfl rfl (by kernel_rfl) rfl ?_;refine Fx.skipB rfl rfl (by kernel_rfl) (fun w h=>h) ?_;refine Fx.skip rfl rfl (by kernel_rfl) rfl ?_;refine Fx.skip rfl rfl (by kernel_rfl) rfl ?_;refine Fx.val rfl rfl rfl rfl (v:=.bool false) (Fx.e_pkF rfl rfl rfl) ?_;refine Fx.val rfl rfl rfl rfl (v:=.int .i64 (at_:Nat)) (Fx.e_as rfl rfl) ?_;refine Fx.val rfl rfl rfl rfl (v:=.bool false) (Fx.e_as rfl rfl) ?_;refine Fx.val rfl rfl rfl rfl (v:=.bool true) (Fx.e_as rfl rfl) ?_;clear hst;intro w' hst;generalize hact:Fx.mkO _ _=act;have hv4:act.tmps.getD 4 undef=.int .i64 (at_:Nat):=by rw[←hact];kernel_rfl
  have hv5:act.tmps.getD 5 undef=.bool false:=by rw[←hact];kernel_rfl
  have hv6:act.tmps.getD 6 undef=.bool true:=by rw[←hact];kernel_rfl
  obtain⟨fZ,hfZ,hact2⟩:=act_lit act 30 (by rw[←hact];kernel_rfl) (by rw[←hact];kernel_rfl);clear hact;have he4:fZ 4=.int .i64 (at_:Nat):=(hfZ 4).symm.trans hv4;have he5:fZ 5=.bool false:=(hfZ 5).symm.trans hv5;have he6:fZ 6=.bool true:=(hfZ 6).symm.trans hv6;simp only[show List.range 30=[0,1,2,3,4,5,6,7,8,9,10,11,12,13,14,15,16,17,18,19,20,21,22,23,24,25,26,27,28,29] from rfl,List.map_cons,List.map_nil,he4,he5,he6] at hact2;clear hfZ hv4 he4 hv5 he5 hv6 he6;subst hact2;go_wp2_with fail;refine bodyPost_ret (results3 rfl res_tmp res_tmp res_tmp) rfl ⟨by rw[HF.out,HH2.out];rfl,hst.end⟩
def addF (l:List ByteArray) (s:ByteArray):Option (List ByteArray):=if risingS l&& !nmHas l s then some (l.take (nmAt l s)++([s]++l.drop (nmAt l s))) else none
def remF (l:List ByteArray) (s:ByteArray):Option (List ByteArray):=if risingS l&&nmHas l s then some (l.take (nmAt l s)++l.drop (nmAt l s+1)) else none
def NmPost (w:World) (r:Option (List ByteArray)) (e:Ending) (w':World):Prop:=∃v Lo,e=.returned (.tuple #[v,.bool r.isSome])∧OwnR 9 1 strL Lo v (r.getD [])∧St [] w w' Lo
theorem nmHas_lt {l:List ByteArray} {s:ByteArray} (h:nmHas l s=true):nmAt l s<l.length:=by
 unfold nmHas at h;exact of_decide_eq_true (Bool.and_eq_true_iff.1 h).1
section
variable {T TS:TypeId} {ops:Array Oper} {F:Fx.Flow} {Qf:List Blk→Act→Prop} {l:List Nat} {k:Nat} {o:Oper} {L:List Blk} {a:Act} {r:List (Nat×Value)}
theorem Fx.mk3 (h0:Fx.nthO ops.toList k=some o) (hs:F.special k=true) {x y z:Operand} (ho:o.op=.buildSlice TS 3 #[(0,x),(1,y),(2,z)]) {t u v:Value} (hx:Fx.evO r a x=t) (hy:Fx.evO r a y=u) (hz:Fx.evO r a z=v) {C:Array Value} (hr:∀w,(Instr.buildSlice TS 3 #[(0,t),(1,u),(2,v)]).run Tryz.prog w=.ok (.slice (some ⟨w.heap.size,0,none⟩) 3 3) (w.alloc (.cells C T)))
  (hk:∀b,(F.late k=true∨∀w,Sx F.S F.w0 w ((b,C,T)::L) F.D F.O→F.B w)∧Fx.wpLX ops F Qf l ((b,C,T)::L) (Fx.mkO (Fx.nxt o.dst (.slice (some ⟨b,0,none⟩) 3 3) r) a)):Fx.wpLX ops F Qf (k::l) L (Fx.mkO r a):=by
 refine Fx.spec h0 hs (fun L' u=>∃b,L'=(b,C,T)::L∧u=.slice (some ⟨b,0,none⟩) 3 3) (fun w hw=>Or.inl ?_) ?_
 ·refine⟨_,_,(w.heap.size,C,T)::L,?_,⟨_,rfl,rfl⟩,hw.alloc C T⟩
  unfold execOp;simp only[ho,List.map_toArray,List.map_cons,List.map_nil,hx,hy,hz,Sem.run_bind,hr,Result.andThen_ok];rfl
 ·rintro L' u ⟨b,rfl,rfl⟩
  exact hk b
end
theorem run_ss1 (s:ByteArray) (w:World):(Instr.buildSlice 37 1 #[(0,.string s)]).run Tryz.prog w=.ok (.slice (some ⟨w.heap.size,0,none⟩) 1 1) (w.alloc (.cells #[.string s] 9)):=by kernel_rfl
theorem run_ss2 (p q:Option Addr) (n m c d:Nat) (w:World):(Instr.buildSlice 305 2 #[(0,.slice p n c),(1,.slice q m d)]).run Tryz.prog w=.ok (.slice (some ⟨w.heap.size,0,none⟩) 2 2) (w.alloc (.cells #[.slice p n c,.slice q m d] 37)):=by kernel_rfl
theorem run_ss3 (p q r:Option Addr) (n m j c d e:Nat) (w:World):(Instr.buildSlice 305 3 #[(0,.slice p n c),(1,.slice q m d),(2,.slice r j e)]).run Tryz.prog w=.ok (.slice (some ⟨w.heap.size,0,none⟩) 3 3) (w.alloc (.cells #[.slice p n c,.slice q m d,.slice r j e] 37)):=by kernel_rfl
set_option maxHeartbeats 2000000 in
theorem nadd_calls {D:Dat} {p:Option Addr} {c:Nat} {l:List ByteArray} (hr:RowAt D 9 1 strL p c l) (hl:l.length≤100000) (s:ByteArray) (w:World) (hD:Holds D w):
  Calls Tryz.prog 173 #[.slice p l.length c,.string s] w (NmPost w (addF l s)):=by
 have hst:=Sx.start0 w hD;have hcap:=hr.cap;have HFd:=Lib.hid (fun wx hx=>nfind_calls hr s wx hx)
 by_cases hb:(risingS l&& !nmHas l s)=true
 case neg=>
  have HA:Hid (addF l s=none):=Lib.hid (if_neg hb)
  have hv:findV l s=.tuple #[.int .i64 0,.bool false,.bool false]∨∃n:Nat,findV l s=.tuple #[.int .i64 n,.bool true,.bool true]:=by
   unfold findV
   cases h1:risingS l with
   |false=>exact Or.inl (if_neg (by simp))
   |true=>
    cases h2:nmHas l s with
    |true=>exact Or.inr ⟨_,if_pos rfl⟩
    |false=>rw[h1,h2] at hb;exact absurd rfl hb
  clear hb;rcases hv with hv |⟨n,hv⟩
  all_goals
   rw[hv] at HFd;clear hv;go_enter Tryz.func173,Tryz.ntmps173;go_wp2_with (first|fail |(with_reducible (refine callB (HFd.out _ hst.data) hst ?_;clear hst;intro w' hst)));refine bodyPost_ret (results2 rfl res_tmp res_tmp) rfl ⟨.slice none 0 0,[],by rw[HA.out];rfl,by rw[HA.out];exact OwnR.none none,hst.st⟩
 have h12:=Bool.and_eq_true_iff.1 hb;have h2:nmHas l s=false:=by simpa using h12.2
 have hle:=nmAt_le l s;have HA:Hid (addF l s=some (l.take (nmAt l s)++([s]++l.drop (nmAt l s)))):=Lib.hid (if_pos hb);have hv:findV l s=.tuple #[.int .i64 (nmAt l s:Nat),.bool false,.bool true]:=by unfold findV;rw[if_pos h12.1,h2]
 rw[hv] at HFd;clear hb h12 h2 hv;generalize nmAt l s=at_ at*
 have HR1:=Lib.hid (hr.take at_);have HR2:=Lib.hid (hr.drop at_);have HL1:=Lib.hid (show(l.take at_).length=at_ by rw[List.length_take];omega);have HL2:=Lib.hid (show(l.drop at_).length=l.length-at_ from List.length_drop);go_enter Tryz.func173,Tryz.ntmps173;go_wp2_with (first|fail |(with_reducible (refine callB (HFd.out _ hst.data) hst ?_;clear hst;intro w' hst)));refine Fx.go (fun i=>i==4||i==8||i==9) (fun i=>true) (fun i=>i==9) [0,1,2,3,5,6,7,4,8,9,10,11] rfl hst (by kernel_rfl) (by kernel_rfl) (by kernel_rfl) (by kernel_rfl) (by kernel_rfl) ?_;refine Fx.val rfl rfl rfl rfl (v:=.slice p l.length c) (Fx.e_mv rfl rfl) ?_;refine Fx.val rfl rfl rfl rfl (v:=.int .i64 (at_:Nat)) (Fx.e_mv rfl rfl) ?_;refine Fx.val rfl rfl rfl rfl (v:=.slice p at_ c) (e_slH (TS:=37) rfl rfl rfl (by omega)) ?_;refine Fx.val rfl rfl rfl rfl (v:=.string s) (Fx.e_mv rfl rfl) ?_;refine Fx.val rfl rfl rfl rfl (v:=.slice p l.length c) (Fx.e_mv rfl rfl) ?_;refine Fx.val rfl rfl rfl rfl (v:=.int .i64 (at_:Nat)) (Fx.e_mv rfl rfl) ?_;refine Fx.val rfl rfl rfl rfl (v:=.slice (if c=at_ then p else p.map (·.add (at_*1))) (l.length-at_) (c-at_)) (e_slL (TS:=37) rfl rfl rfl hle) ?_;generalize (if c=at_ then p else p.map (·.add (at_*1)))=q at*;refine Fx.mk1 (TS:=37) rfl rfl rfl rfl (run_ss1 s) ?_;intro b1;refine⟨Or.inr (fun w h=>h.drop),?_⟩;refine Fx.mk3 (TS:=305) rfl rfl rfl rfl rfl rfl (run_ss3 p (some ⟨b1,0,none⟩) q at_ 1 (l.length-at_) c 1 (c-at_)) ?_;intro b2;refine⟨Or.inr (fun w h=>h.drop.drop),?_⟩;refine Fx.callS rfl rfl (fun L' u=>∃Lo,L'=Lo++[(b2,#[.slice p at_ c,.slice (some ⟨b1,0,none⟩) 1 1,.slice q (l.length-at_) (c-at_)],37),(b1,#[.string s],9)]∧OwnR 9 1 strL Lo u (l.take at_++([s]++l.drop at_))) (f:=175) (args:=#[.slice (some ⟨b2,0,none⟩) 3 3]) (fun w hw=>?_) (fun w=>by kernel_rfl) ?_
 ·have h1:=concat_calls (D:=snap w) (p:=some ⟨b2,0,none⟩) (c:=3) (rs:=[⟨p,c,l.take at_⟩,⟨some ⟨b1,0,none⟩,1,[s]⟩,⟨q,c-at_,l.drop at_⟩])
   (RowAt.ofBlock (C:=#[.slice p at_ c,.slice (some ⟨b1,0,none⟩) 1 1,.slice q (l.length-at_) (c-at_)]) ⟨_,hw.st.blk (b2,_,_) (List.mem_cons_self ..)⟩ (Nat.le_refl _) (by simp) (by simp[rsL,HL1.out,HL2.out]))
   (by
    intro r hm;rcases List.mem_cons.1 hm with rfl |hm
    ·exact HR1.out.mono (fun p hp=>hw.data p hp)
    ·rcases List.mem_cons.1 hm with rfl |hm
     ·exact RowAt.ofBlock (C:=#[.string s]) ⟨_,hw.st.blk (b1,_,_) (by simp)⟩ (Nat.le_refl _) (by simp) (by simp)
     ·obtain rfl:=List.mem_singleton.1 hm
      exact HR2.out.mono (fun p hp=>hw.data p hp))
   (by simp only[allS,List.flatMap_cons,List.flatMap_nil,List.length_append,HL1.out,HL2.out,List.length_nil,List.length_singleton];omega) w (snap_holds w)
  refine h1.mono ?_;rintro e w' ⟨v,Lo,rfl,hown,hs⟩;exact⟨v,_,rfl,⟨Lo,rfl,by simpa[allS] using hown⟩,hw.take hs⟩
 ·rintro L' u ⟨Lo,rfl,hown⟩
  refine⟨Or.inr (fun w h=>h.dropL.drop.drop),?_⟩;refine Fx.val rfl rfl rfl rfl (v:=u) (Fx.e_as rfl rfl) ?_;refine Fx.val rfl rfl rfl rfl (v:=.bool true) (Fx.e_as rfl rfl) ?_;clear hst;intro w' hst;generalize hact:Fx.mkO _ _=act;have hv4:act.tmps.getD 4 undef=u:=by rw[←hact];kernel_rfl
  have hv5:act.tmps.getD 5 undef=.bool true:=by rw[←hact];kernel_rfl
  obtain⟨fZ,hfZ,hact2⟩:=act_lit act 31 (by rw[←hact];kernel_rfl) (by rw[←hact];kernel_rfl);clear hact;have he4:fZ 4=u:=(hfZ 4).symm.trans hv4;have he5:fZ 5=.bool true:=(hfZ 5).symm.trans hv5;simp only[show List.range 31=[0,1,2,3,4,5,6,7,8,9,10,11,12,13,14,15,16,17,18,19,20,21,22,23,24,25,26,27,28,29,30] from rfl,List.map_cons,List.map_nil,he4,he5] at hact2;clear hfZ hv4 he4 hv5 he5;subst hact2;go_wp2_with fail;refine bodyPost_ret (results2 rfl res_tmp res_tmp) rfl ⟨_,Lo,by rw[HA.out];rfl,by rw[HA.out];exact hown,hst.takeL.st⟩
set_option maxHeartbeats 2000000 in
theorem nrem_calls {D:Dat} {p:Option Addr} {c:Nat} {l:List ByteArray} (hr:RowAt D 9 1 strL p c l) (hl:l.length≤100000) (s:ByteArray) (w:World) (hD:Holds D w):
  Calls Tryz.prog 148 #[.slice p l.length c,.string s] w (NmPost w (remF l s)):=by
 have hst:=Sx.start0 w hD;have hcap:=hr.cap;have HFd:=Lib.hid (fun wx hx=>nfind_calls hr s wx hx)
 by_cases hb:(risingS l&&nmHas l s)=true
 case neg=>
  have HA:Hid (remF l s=none):=Lib.hid (if_neg hb)
  have hv:findV l s=.tuple #[.int .i64 0,.bool false,.bool false]∨∃n:Nat,findV l s=.tuple #[.int .i64 n,.bool false,.bool true]:=by
   unfold findV
   cases h1:risingS l with
   |false=>exact Or.inl (if_neg (by simp))
   |true=>
    cases h2:nmHas l s with
    |false=>exact Or.inr ⟨_,if_pos rfl⟩
    |true=>rw[h1,h2] at hb;exact absurd rfl hb
  clear hb;rcases hv with hv |⟨n,hv⟩
  all_goals
   rw[hv] at HFd;clear hv;go_enter Tryz.func148,Tryz.ntmps148;go_wp2_with (first|fail |(with_reducible (refine callB (HFd.out _ hst.data) hst ?_;clear hst;intro w' hst)));refine bodyPost_ret (results2 rfl res_tmp res_tmp) rfl ⟨.slice none 0 0,[],by rw[HA.out];rfl,by rw[HA.out];exact OwnR.none none,hst.st⟩
 have h12:=Bool.and_eq_true_iff.1 hb;have hlt:=nmHas_lt h12.2;have HA:Hid (remF l s=some (l.take (nmAt l s)++l.drop (nmAt l s+1))):=Lib.hid (if_pos hb);have hv:findV l s=.tuple #[.int .i64 (nmAt l s:Nat),.bool true,.bool true]:=by unfold findV;rw[if_pos h12.1,h12.2]
 rw[hv] at HFd;clear hb h12 hv;generalize nmAt l s=at_ at*
 have HR1:=Lib.hid (hr.take at_);have HR2:=Lib.hid (hr.drop (at_+1));have HL1:=Lib.hid (show(l.take at_).length=at_ by rw[List.length_take];omega);have HL2:=Lib.hid (show(l.drop (at_+1)).length=l.length-(at_+1) from List.length_drop);have hs1:=Lib.hid (show((at_:Nat):Int)+1=((at_+1:Nat):Int) by omega);go_enter Tryz.func148,Tryz.ntmps148;go_wp2_with (first|fail |(with_reducible (refine callB (HFd.out _ hst.data) hst ?_;clear hst;intro w' hst)));refine Fx.go (fun i=>i==7||i==8) (fun i=>true) (fun i=>i==8) (List.range 11) rfl hst (by kernel_rfl) (by kernel_rfl) (by kernel_rfl) (by kernel_rfl) (by kernel_rfl) ?_;refine Fx.val rfl rfl rfl rfl (v:=.slice p l.length c) (Fx.e_mv rfl rfl) ?_;refine Fx.val rfl rfl rfl rfl (v:=.int .i64 (at_:Nat)) (Fx.e_mv rfl rfl) ?_;refine Fx.val rfl rfl rfl rfl (v:=.slice p at_ c) (e_slH (TS:=37) rfl rfl rfl (by omega)) ?_;refine Fx.val rfl rfl rfl rfl (v:=.slice p l.length c) (Fx.e_mv rfl rfl) ?_;refine Fx.val rfl rfl rfl rfl (v:=.int .i64 (at_:Nat)) (Fx.e_mv rfl rfl) ?_;refine Fx.val rfl rfl rfl rfl (v:=.int .i64 ((at_+1:Nat):Int)) (fun w=>by rw[←hs1.out];exact Fx.e_add rfl rfl rfl (by omega) w) ?_;refine Fx.val rfl rfl rfl rfl (v:=.slice (if c=at_+1 then p else p.map (·.add ((at_+1)*1))) (l.length-(at_+1)) (c-(at_+1))) (e_slL (TS:=37) rfl rfl rfl hlt) ?_;generalize (if c=at_+1 then p else p.map (·.add ((at_+1)*1)))=q at*;refine Fx.mk2 (TS:=305) rfl rfl rfl rfl rfl (run_ss2 p q at_ (l.length-(at_+1)) c (c-(at_+1))) ?_;intro b2;refine⟨Or.inr (fun w h=>h.drop),?_⟩;refine Fx.callS rfl rfl (fun L' u=>∃Lo,L'=Lo++[(b2,#[.slice p at_ c,.slice q (l.length-(at_+1)) (c-(at_+1))],37)]∧OwnR 9 1 strL Lo u (l.take at_++l.drop (at_+1))) (f:=175) (args:=#[.slice (some ⟨b2,0,none⟩) 2 2]) (fun w hw=>?_) (fun w=>by kernel_rfl) ?_
 ·have h1:=concat_calls (D:=snap w) (p:=some ⟨b2,0,none⟩) (c:=2) (rs:=[⟨p,c,l.take at_⟩,⟨q,c-(at_+1),l.drop (at_+1)⟩])
   (RowAt.ofBlock (C:=#[.slice p at_ c,.slice q (l.length-(at_+1)) (c-(at_+1))]) ⟨_,hw.st.blk (b2,_,_) (List.mem_cons_self ..)⟩ (Nat.le_refl _) (by simp) (by simp[rsL,HL1.out,HL2.out]))
   (by
    intro r hm;rcases List.mem_cons.1 hm with rfl |hm
    ·exact HR1.out.mono (fun p hp=>hw.data p hp)
    ·obtain rfl:=List.mem_singleton.1 hm
     exact HR2.out.mono (fun p hp=>hw.data p hp))
   (by simp only[allS,List.flatMap_cons,List.flatMap_nil,List.length_append,HL1.out,HL2.out,List.length_nil];omega) w (snap_holds w)
  refine h1.mono ?_;rintro e w' ⟨v,Lo,rfl,hown,hs⟩;exact⟨v,_,rfl,⟨Lo,rfl,by simpa[allS] using hown⟩,hw.take hs⟩
 ·rintro L' u ⟨Lo,rfl,hown⟩
  refine⟨Or.inr (fun w h=>h.dropL.drop),?_⟩;refine Fx.val rfl rfl rfl rfl (v:=u) (Fx.e_as rfl rfl) ?_;refine Fx.val rfl rfl rfl rfl (v:=.bool true) (Fx.e_as rfl rfl) ?_;clear hst;intro w' hst;generalize hact:Fx.mkO _ _=act;have hv4:act.tmps.getD 4 undef=u:=by rw[←hact];kernel_rfl
  have hv5:act.tmps.getD 5 undef=.bool true:=by rw[←hact];kernel_rfl
  obtain⟨fZ,hfZ,hact2⟩:=act_lit act 27 (by rw[←hact];kernel_rfl) (by rw[←hact];kernel_rfl);clear hact;have he4:fZ 4=u:=(hfZ 4).symm.trans hv4;have he5:fZ 5=.bool true:=(hfZ 5).symm.trans hv5;simp only[show List.range 27=[0,1,2,3,4,5,6,7,8,9,10,11,12,13,14,15,16,17,18,19,20,21,22,23,24,25,26] from rfl,List.map_cons,List.map_nil,he4,he5] at hact2;clear hfZ hv4 he4 hv5 he5;subst hact2;go_wp2_with fail;refine bodyPost_ret (results2 rfl res_tmp res_tmp) rfl ⟨_,Lo,by rw[HA.out];rfl,by rw[HA.out];exact hown,hst.takeL.st⟩
end Go.Proofs.YtdkeiefgkgpcbaaGreatDoor
namespace Go.Proofs.YtdkeiefgkgpcbaaGreatDoor
open Go.RowKit
namespace Fx
theorem wpLX_mono {ops:Array Oper} {F:Flow} {Qf Qf':List Blk→Act→Prop} (h:∀L a,Qf L a→Qf' L a):∀(l:List Nat) (L:List Blk) (a:Act),wpLX ops F Qf l L a→wpLX ops F Qf' l L a
 | [],L,a,hh=>h _ _ hh
 |_::is,L,a,hh=>xstep_mono (fun L a=>wpLX_mono h is L a) hh
theorem goP {id:Nat} {Q':Exit→Act→World→Prop} {a:Act} {w:World} {l:List Oper} {S:List Nat} {w0:World} {L:List Blk} {D:Dat} {O:List Nat} (special pure late:Nat→Bool) (order:List Nat) (hlen:order.length=l.length) (hst:Sx S w0 w L D O) (hm:Tryz.prog.follows .mixedOrders=true)
  (hg:(List.range l.length).all (fun i=> !special i||(match l[i]? with |some o=>o.guard.isNone |none=>true))=true) (hs:Region.noSelect l.toArray=true) (hlex:lexX l.toArray special order (Array.replicate l.length false)=true) (hl8:lateX l.toArray special pure late=true) (P:List Blk→Act→Prop)
  (h:wpLX l.toArray (FB S w0 L D O special pure late) P order L (mkO [] a)) (hk:∀L' a',P L' a'→∀w',Sx S w0 w' L' D O→Q' .normal a' w'):(Code.region id l.toArray true).wp Tryz.prog Q' a w:=
 go special pure late order hlen hst hm hg hs hlex hl8 (wpLX_mono (fun L' a' hp w' hs=>hk L' a' hp w' hs) _ _ _ h)
section
variable {ops:Array Oper} {F:Flow} {Qf:List Blk→Act→Prop} {l:List Nat} {k:Nat} {o:Oper} {L:List Blk} {a:Act} {r:List (Nat×Value)} {g:Nat×Bool}
theorem e_notT {ρ:Operand→Value} {o:Oper} {x:Operand} {T:TypeId} (ho:o.op=.unOp .not T x) (hx:ρ x=.bool false) (w:World):(execOp ρ o).run Tryz.prog w=.ok (.value (.bool true)) w:=e_not ho hx w
theorem e_notF {ρ:Operand→Value} {o:Oper} {x:Operand} {T:TypeId} (ho:o.op=.unOp .not T x) (hx:ρ x=.bool true) (w:World):(execOp ρ o).run Tryz.prog w=.ok (.value (.bool false)) w:=e_not ho hx w
theorem valN (h0:nthO ops.toList k=some o) (hg:o.guard=none) (hs:F.special k=false) (hp:F.pure k=true) {v:Value} (h:∀w,(execOp (evO r a) o).run Tryz.prog w=.ok (.value v) w) (hk:wpLX ops F Qf l L (mkO (nxt o.dst v r) a)):wpLX ops F Qf (k::l) L (mkO r a):=
 val h0 hs hp (by unfold Region.wanted;rw[hg]) h hk
theorem skipN (h0:nthO ops.toList k=some o) (hg:o.guard=some g) (hs:F.special k=false) (hw:Region.wanted o (yielded ops (mkO r a).tmps)=false) (hp:F.pure k=true) (hk:wpLX ops F Qf l L (mkO (nxt o.dst undef r) a)):wpLX ops F Qf (k::l) L (mkO r a):=skip h0 hs hw hp hk
theorem skipBN (h0:nthO ops.toList k=some o) (hg:o.guard=some g) (hs:F.special k=false) (hw:Region.wanted o (yielded ops (mkO r a).tmps)=false) (hB:∀w,Sx F.S F.w0 w L F.D F.O→F.B w) (hk:wpLX ops F Qf l L (mkO (nxt o.dst undef r) a)):wpLX ops F Qf (k::l) L (mkO r a):=skipB h0 hs hw hB hk
end
end Fx
structure Rec where
 time:Int
 len:Int
 hash:List UInt8
 start:Int
 count:Int
 shr:Bool
def recL (r:Rec):List Value:=.int .i64 r.time::.int .i64 r.len::(hashL r.hash++[.int .i64 r.start,.int .i64 r.count,.bool r.shr])
def recC (r:Rec):Array Value:=(recL r).toArray
def rec0:Rec:=⟨0,0,[],0,0,false⟩
theorem recL_one (r:Rec):(recL r).all (·.oneCell')=true:=rfl
instance encRec:Enc recL 37:=⟨fun _=>rfl,fun x v hv=>List.all_eq_true.1 (recL_one x) v hv⟩
instance aggRec:AggT 143 37:=⟨fun w=>by kernel_rfl,by kernel_rfl⟩
instance eltRec:Elt 143 37:=⟨.agg (recC rec0),72,by kernel_rfl,rfl,by decide,by decide⟩
instance sltRec:SlT 88 143:=⟨Tryz.underlying88⟩
instance zeroRec:ZeroT 143 (recC rec0):=.agg fun w=>by kernel_rfl
instance wrRec (p q:Rec):WrAt (recC p) 0 37 (.agg (recC q)) (recC q):=wr_row _ _ _ _ (recL q) rfl rfl (Nat.le_of_ble_eq_true rfl) (by kernel_rfl)
instance wrRecL (p q:Rec):WrAt (recC p) 0 37 (.agg (recL q).toArray) (recC q):=wr_row _ _ _ _ (recL q) rfl rfl (Nat.le_of_ble_eq_true rfl) (by kernel_rfl)
instance fldRec0:Fx.FldT 143 0 0:=⟨fun ad w=>by kernel_rfl⟩
instance fldRec1:Fx.FldT 143 1 1:=⟨fun ad w=>by kernel_rfl⟩
instance fldRec2:Fx.FldT 143 2 2:=⟨fun ad w=>by kernel_rfl⟩
instance fldRec3:Fx.FldT 143 3 34:=⟨fun ad w=>by kernel_rfl⟩
instance fldRec4:Fx.FldT 143 4 36:=⟨fun ad w=>by kernel_rfl⟩
instance rec0' (r:Rec):CellAt (recC r) 0 (.int .i64 r.time):=⟨rfl⟩
instance rec1' (r:Rec):CellAt (recC r) 1 (.int .i64 r.len):=⟨rfl⟩
instance rec34' (r:Rec):CellAt (recC r) 34 (.int .i64 r.start):=⟨rfl⟩
instance rec35' (r:Rec):CellAt (recC r) 35 (.int .i64 r.count):=⟨rfl⟩
instance rec36' (r:Rec):CellAt (recC r) 36 (.bool r.shr):=⟨rfl⟩
instance rec35'' (r:Rec):CellAt (recC r) (34+1) (.int .i64 r.count):=⟨rfl⟩
instance recAll (r:Rec):PartAt (recC r) 0 37 (recL r):=⟨rfl,fun j v h=>by rw[Nat.zero_add];simpa[recC] using h⟩
def recOk (r:Rec):Bool:=decide (0≤r.time)&&(decide (r.time≤1073741824)&&(decide (0≤r.len)&&(decide (r.len≤300)&&(decide (0≤r.start)&&(decide (r.start<512)&&decide (r.count=pkCount r.len))))))
set_option maxHeartbeats 4000000 in
theorem record_calls (r:Rec) (w:World):Calls Tryz.prog 112 #[.agg (recL r).toArray] w (Ret (.bool (recOk r)) w):=by
 have hst:=Sx.startN w;have HR:Hid (recOk r=(decide (0≤r.time)&&(decide (r.time≤1073741824)&&(decide (0≤r.len)&&(decide (r.len≤300)&&(decide (0≤r.start)&&(decide (r.start<512)&&decide (r.count=pkCount r.len)))))))):=Lib.hid rfl;obtain⟨b1,h1⟩:∃b,decide (0≤r.time)=b:=⟨_,rfl⟩;obtain⟨b2,h2⟩:∃b,decide (r.time≤1073741824)=b:=⟨_,rfl⟩;obtain⟨b3,h3⟩:∃b,decide (0≤r.len)=b:=⟨_,rfl⟩;obtain⟨b4,h4⟩:∃b,decide (r.len≤300)=b:=⟨_,rfl⟩;obtain⟨b5,h5⟩:∃b,decide (0≤r.start)=b:=⟨_,rfl⟩;obtain⟨b6,h6⟩:∃b,decide (r.start<512)=b:=⟨_,rfl⟩;obtain⟨b7,h7⟩:∃b,decide (r.count=pkCount r.len)=b:=⟨_,rfl⟩;rw[h1,h2,h3,h4,h5,h6,h7] at HR;have HC:b3=true→b4=true→Hid (∀w,Calls Tryz.prog 57 #[.int .i64 r.len] w (Ret (.int .i64 (pkCount r.len)) w)):=fun e3 e4=>Lib.hid (fun w=>count_calls r.len (by rw[e3] at h3;rw[e4] at h4;have:=of_decide_eq_true h3;have:=of_decide_eq_true h4;omega) w)
 obtain⟨q,hq⟩:∃q,recOk r=q:=⟨_,rfl⟩;rw[hq] at HR ⊢;have hC:(recL r).toArray=recC r:=rfl;rw[hC];clear hC hq;go_enter Tryz.func112,Tryz.ntmps112;go_wp2_with (with_reducible (refine xba rfl rfl hst rfl ?_;clear hst;intro bb w' hst));refine Fx.goP (fun _=>false) (fun i=> !(i==1||i==5||i==10||i==15||i==21||i==27||i==33||i==35||i==36)) (fun _=>false) (List.range 40) rfl hst (by kernel_rfl) (by kernel_rfl) (by kernel_rfl) (by kernel_rfl) (by kernel_rfl) (fun _ a'=>a'.tmps.size=42∧a'.defers=[]∧a'.tmps.getD 2 undef=.bool q) ?_ ?_
 ·show Fx.wpLX _ _ _ [0,1,2,3,4,5,6,7,8,9,10,11,12,13,14,15,16,17,18,19,20,21,22,23,24,25,26,27,28,29,30,31,32,33,34,35,36,37,38,39] _ _
  clear hst;refine Fx.fa rfl rfl rfl rfl rfl rfl ?_;refine Fx.l1 rfl rfl rfl rfl rfl rfl ?_;refine Fx.val rfl rfl rfl rfl (v:=.bool b1) (Fx.e_geq rfl rfl rfl h1) ?_;refine Fx.val rfl rfl rfl rfl (v:=.bool b1) (Fx.e_mv rfl rfl) ?_
  cases b1 with
  |false=>(repeat(first|refine Fx.valN (v:=.bool false) rfl rfl rfl rfl (Fx.e_pkF rfl rfl rfl) ?_|refine Fx.valN (v:=.bool false) rfl rfl rfl rfl (Fx.e_mv rfl rfl) ?_|refine Fx.valN (v:=.bool false) rfl rfl rfl rfl (Fx.e_as rfl rfl) ?_|refine Fx.skipN rfl rfl rfl (by kernel_rfl) rfl ?_|refine Fx.skipBN rfl rfl rfl (by kernel_rfl) (fun w h=>h) ?_));exact⟨by kernel_rfl,by kernel_rfl,by rw[HR.out];kernel_rfl⟩
  |true=>
  refine Fx.fa rfl rfl rfl (by kernel_rfl) rfl rfl ?_;refine Fx.l1 rfl rfl rfl (by kernel_rfl) rfl rfl ?_;refine Fx.val rfl rfl rfl (by kernel_rfl) (v:=.bool b2) (Fx.e_leq rfl rfl rfl h2) ?_;refine Fx.val rfl rfl rfl rfl (v:=.bool b2) (Fx.e_pkT rfl rfl rfl) ?_;refine Fx.val rfl rfl rfl rfl (v:=.bool b2) (Fx.e_mv rfl rfl) ?_
  cases b2 with
  |false=>(repeat(first|refine Fx.valN (v:=.bool false) rfl rfl rfl rfl (Fx.e_pkF rfl rfl rfl) ?_|refine Fx.valN (v:=.bool false) rfl rfl rfl rfl (Fx.e_mv rfl rfl) ?_|refine Fx.valN (v:=.bool false) rfl rfl rfl rfl (Fx.e_as rfl rfl) ?_|refine Fx.skipN rfl rfl rfl (by kernel_rfl) rfl ?_|refine Fx.skipBN rfl rfl rfl (by kernel_rfl) (fun w h=>h) ?_));exact⟨by kernel_rfl,by kernel_rfl,by rw[HR.out];kernel_rfl⟩
  |true=>
  refine Fx.fa rfl rfl rfl (by kernel_rfl) rfl rfl ?_;refine Fx.l1 rfl rfl rfl (by kernel_rfl) rfl rfl ?_;refine Fx.val rfl rfl rfl (by kernel_rfl) (v:=.bool b3) (Fx.e_geq rfl rfl rfl h3) ?_;refine Fx.val rfl rfl rfl rfl (v:=.bool b3) (Fx.e_pkT rfl rfl rfl) ?_;refine Fx.val rfl rfl rfl rfl (v:=.bool b3) (Fx.e_mv rfl rfl) ?_
  cases b3 with
  |false=>(repeat(first|refine Fx.valN (v:=.bool false) rfl rfl rfl rfl (Fx.e_pkF rfl rfl rfl) ?_|refine Fx.valN (v:=.bool false) rfl rfl rfl rfl (Fx.e_mv rfl rfl) ?_|refine Fx.valN (v:=.bool false) rfl rfl rfl rfl (Fx.e_as rfl rfl) ?_|refine Fx.skipN rfl rfl rfl (by kernel_rfl) rfl ?_|refine Fx.skipBN rfl rfl rfl (by kernel_rfl) (fun w h=>h) ?_));exact⟨by kernel_rfl,by kernel_rfl,by rw[HR.out];kernel_rfl⟩
  |true=>
  refine Fx.fa rfl rfl rfl (by kernel_rfl) rfl rfl ?_;refine Fx.l1 rfl rfl rfl (by kernel_rfl) rfl rfl ?_;refine Fx.val rfl rfl rfl (by kernel_rfl) (v:=.bool b4) (Fx.e_leq rfl rfl rfl h4) ?_;refine Fx.val rfl rfl rfl rfl (v:=.bool b4) (Fx.e_pkT rfl rfl rfl) ?_;refine Fx.val rfl rfl rfl rfl (v:=.bool b4) (Fx.e_mv rfl rfl) ?_
  cases b4 with
  |false=>(repeat(first|refine Fx.valN (v:=.bool false) rfl rfl rfl rfl (Fx.e_pkF rfl rfl rfl) ?_|refine Fx.valN (v:=.bool false) rfl rfl rfl rfl (Fx.e_mv rfl rfl) ?_|refine Fx.valN (v:=.bool false) rfl rfl rfl rfl (Fx.e_as rfl rfl) ?_|refine Fx.skipN rfl rfl rfl (by kernel_rfl) rfl ?_|refine Fx.skipBN rfl rfl rfl (by kernel_rfl) (fun w h=>h) ?_));exact⟨by kernel_rfl,by kernel_rfl,by rw[HR.out];kernel_rfl⟩
  |true=>
  have HC2:=HC rfl rfl;refine Fx.fa rfl rfl rfl (by kernel_rfl) rfl rfl ?_;refine Fx.fa rfl rfl rfl (by kernel_rfl) rfl rfl ?_;refine Fx.l1 rfl rfl rfl (by kernel_rfl) rfl rfl ?_;refine Fx.val rfl rfl rfl (by kernel_rfl) (v:=.bool b5) (Fx.e_geq rfl rfl rfl h5) ?_;refine Fx.val rfl rfl rfl rfl (v:=.bool b5) (Fx.e_pkT rfl rfl rfl) ?_;refine Fx.val rfl rfl rfl rfl (v:=.bool b5) (Fx.e_mv rfl rfl) ?_
  cases b5 with
  |false=>(repeat(first|refine Fx.valN (v:=.bool false) rfl rfl rfl rfl (Fx.e_pkF rfl rfl rfl) ?_|refine Fx.valN (v:=.bool false) rfl rfl rfl rfl (Fx.e_mv rfl rfl) ?_|refine Fx.valN (v:=.bool false) rfl rfl rfl rfl (Fx.e_as rfl rfl) ?_|refine Fx.skipN rfl rfl rfl (by kernel_rfl) rfl ?_|refine Fx.skipBN rfl rfl rfl (by kernel_rfl) (fun w h=>h) ?_));exact⟨by kernel_rfl,by kernel_rfl,by rw[HR.out];kernel_rfl⟩
  |true=>
  refine Fx.fa rfl rfl rfl (by kernel_rfl) rfl rfl ?_;refine Fx.fa rfl rfl rfl (by kernel_rfl) rfl rfl ?_;refine Fx.l1 rfl rfl rfl (by kernel_rfl) rfl rfl ?_;refine Fx.val rfl rfl rfl (by kernel_rfl) (v:=.bool b6) (Fx.e_lss rfl rfl rfl h6) ?_;refine Fx.val rfl rfl rfl rfl (v:=.bool b6) (Fx.e_pkT rfl rfl rfl) ?_;refine Fx.val rfl rfl rfl rfl (v:=.bool b6) (Fx.e_mv rfl rfl) ?_
  cases b6 with
  |false=>(repeat(first|refine Fx.valN (v:=.bool false) rfl rfl rfl rfl (Fx.e_pkF rfl rfl rfl) ?_|refine Fx.valN (v:=.bool false) rfl rfl rfl rfl (Fx.e_as rfl rfl) ?_|refine Fx.skipN rfl rfl rfl (by kernel_rfl) rfl ?_|refine Fx.skipBN rfl rfl rfl (by kernel_rfl) (fun w h=>h) ?_));exact⟨by kernel_rfl,by kernel_rfl,by rw[HR.out];kernel_rfl⟩
  |true=>
  refine Fx.fa rfl rfl rfl (by kernel_rfl) rfl rfl ?_;refine Fx.fa rfl rfl rfl (by kernel_rfl) rfl rfl ?_;refine Fx.l1 rfl rfl rfl (by kernel_rfl) rfl rfl ?_;refine Fx.fa rfl rfl rfl (by kernel_rfl) rfl rfl ?_;refine Fx.l1 rfl rfl rfl (by kernel_rfl) rfl rfl ?_;refine Fx.callB rfl rfl (fun w h=>h) (fun w h=>HC2.out w) rfl (by kernel_rfl) (fun w=>by kernel_rfl) ?_;refine Fx.val rfl rfl rfl (by kernel_rfl) (v:=.bool b7) (Fx.e_eql rfl rfl rfl h7) ?_;refine Fx.val rfl rfl rfl rfl (v:=.bool b7) (Fx.e_pkT rfl rfl rfl) ?_;refine Fx.val rfl rfl rfl rfl (v:=.bool b7) (Fx.e_as rfl rfl) ?_;exact⟨by kernel_rfl,by kernel_rfl,by rw[HR.out];kernel_rfl⟩
 ·rintro L' a1 ⟨hsz,hdf,hv2⟩ w' hst
  obtain⟨fZ,hfZ,hact2⟩:=act_lit a1 42 hsz hdf;clear hsz hdf;have he2:fZ 2=.bool q:=(hfZ 2).symm.trans hv2;simp only[show List.range 42=[0,1,2,3,4,5,6,7,8,9,10,11,12,13,14,15,16,17,18,19,20,21,22,23,24,25,26,27,28,29,30,31,32,33,34,35,36,37,38,39,40,41] from rfl,List.map_cons,List.map_nil,he2] at hact2;clear hfZ hv2 he2;subst hact2;go_wp2_with fail;go_ret;exact⟨rfl,hst.end⟩
end Go.Proofs.YtdkeiefgkgpcbaaGreatDoor
namespace Go.Proofs.YtdkeiefgkgpcbaaGreatDoor
open Go.RowKit
def timeB (n:Int):Bool:=decide (0≤n)&&decide (n≤1073741824)
def timesF (l:List Int):Bool:=l.all timeB
set_option maxHeartbeats 1000000 in
theorem times_calls {D:Dat} {p:Option Addr} {c:Nat} {l:List Int} (hr:RowAt D 3 1 inL p c l) (w:World) (hD:Holds D w):Calls Tryz.prog 172 #[.slice p l.length c] w (Ret (.bool (timesF l)) w):=by
 have hst:=Sx.start0 w hD;have hcap:=hr.cap;have hbg:=hr.big;go_enter Tryz.func172,Tryz.ntmps172;go_wp2_with fail;go_loopw [7] (fun iv wr=>∃k:Nat,k≤l.length∧iv=.int .i64 k∧Hid ((l.take k).all timeB=true)∧Sx [] w wr [] D []) (fun iv _=>l.length-(intOf iv).toNat)
 case atStart=>exact⟨0,Nat.zero_le _,by go_num,Lib.hid (by simp),hst⟩
 case round=>
  clear hst;obtain⟨k,hk,rfl,HK,hst⟩:=hrel
  by_cases hlt:k<l.length
  ·obtain⟨g,off,rfl⟩:=hr.at_some hlt
   have e1:LdD D 3 ⟨g,off+k,none⟩ (.int .i64 l[k]):=hr.ld1 hlt rfl
   have HT:timeB l[k]=false→Hid (timesF l=false):=fun h=>Lib.hid (by
    unfold timesF;rw[List.all_eq_false]
    exact⟨_,List.getElem_mem hlt,by rw[h];decide⟩)
   have HN:timeB l[k]=true→Hid ((l.take (k+1)).all timeB=true):=fun h=>Lib.hid (by rw[List.take_succ_eq_append_getElem hlt,List.all_append,HK.out,List.all_cons,h];rfl)
   generalize l[k]=x at*
   by_cases h0:x<0
   ·have HR:=HT (by unfold timeB;rw[decide_eq_false (by omega)];rfl)
    have h1:=Lib.hid (decide_eq_true h0);clear HT HN h0;go_wp2_with (first|(with_reducible (refine xval rfl 12 rfl (.bool true) (fun w=>Fx.e_lss rfl rfl rfl h1.out w) ?_))|(with_reducible refine xd rfl rfl rfl hst ?_));go_ret;exact⟨by rw[HR.out];rfl,hst.end⟩
   ·by_cases h2:1073741824<x
    ·have HR:=HT (by unfold timeB;rw[decide_eq_false (show ¬x≤1073741824 by omega)];simp)
     have h1:=Lib.hid (decide_eq_false h0);have h3:=Lib.hid (decide_eq_true h2);clear HT HN h0 h2;go_wp2_with (first|(with_reducible (refine xval rfl 12 rfl (.bool false) (fun w=>Fx.e_lss rfl rfl rfl h1.out w) ?_))|(with_reducible (refine xval rfl 15 rfl (.bool true) (fun w=>Fx.e_gtr rfl rfl rfl h3.out w) ?_))|(with_reducible refine xd rfl rfl rfl hst ?_));go_ret;exact⟨by rw[HR.out];rfl,hst.end⟩
    ·have HR:=HN (by unfold timeB;rw[decide_eq_true (show 0≤x by omega),decide_eq_true (show x≤1073741824 by omega)];rfl)
     have h1:=Lib.hid (decide_eq_false h0);have h3:=Lib.hid (decide_eq_false h2);clear HT HN h0 h2;go_wp2_with (first|(with_reducible (refine xval rfl 12 rfl (.bool false) (fun w=>Fx.e_lss rfl rfl rfl h1.out w) ?_))|(with_reducible (refine xval rfl 15 rfl (.bool false) (fun w=>Fx.e_gtr rfl rfl rfl h3.out w) ?_))|(with_reducible refine xd rfl rfl rfl hst ?_));go_roundw
     case rel=>exact⟨k+1,by omega,by go_num,HR,hst⟩
     case measure=>simp[intOf];omega
  ·obtain rfl:k=l.length:=by omega
   have HR:=HK.out;rw[List.take_length] at HR;go_wp2_with fail;go_ret;exact⟨by rw[show timesF l=true from HR];rfl,hst.end⟩
def longerF (o n:Int):Int:=if timesF [o,n]=false then 2 else if n<o then 140 else 0
theorem longer_calls (o n:Int) (w:World):Calls Tryz.prog 146 #[.int .i64 o,.int .i64 n] w (Ret (.int .i64 (longerF o n)) w):=by
 have hst:=Sx.startN w;go_enter Tryz.func146,Tryz.ntmps146;go_wp2_with (first|fail |(with_reducible refine xmk rfl 8 rfl hst #[.int .i64 o,.int .i64 n] 3 (fun b=>.slice (some ⟨b,0,none⟩) 2 2) (fun w=>by kernel_rfl) ?_;clear hst;intro b w' hst));have HC:=Lib.hid (times_calls (l:=[o,n]) (RowAt.ofBlock (g:=b) (C:=#[.int .i64 o,.int .i64 n]) (c:=2) ⟨_,hst.st.blk (b,_,_) (List.mem_cons_self ..)⟩ (Nat.le_refl _) (by simp) rfl) w' (snap_holds w'));obtain⟨q,hq⟩:∃q,timesF [o,n]=q:=⟨_,rfl⟩;rw[hq] at HC
 cases q with
 |false=>
  have HR:Hid (longerF o n=2):=Lib.hid (if_pos hq);clear hq;go_wp2_with (first|fail |(with_reducible (refine callB HC.out hst ?_;clear hst;intro w' hst)));go_ret;exact⟨by rw[HR.out];rfl,hst.end⟩
 |true=>
  by_cases hno:n<o
  ·have HR:Hid (longerF o n=140):=Lib.hid (by unfold longerF;rw[if_neg (by rw[hq];decide),if_pos hno])
   have h1:=Lib.hid (decide_eq_true hno);clear hq hno;go_wp2_with (first|(with_reducible (refine xval rfl 14 rfl (.bool true) (fun w=>Fx.e_lss rfl rfl rfl h1.out w) ?_))|fail |(with_reducible (refine callB HC.out hst ?_;clear hst;intro w' hst)));go_ret;exact⟨by rw[HR.out];rfl,hst.end⟩
  ·have HR:Hid (longerF o n=0):=Lib.hid (by unfold longerF;rw[if_neg (by rw[hq];decide),if_neg hno])
   have h1:=Lib.hid (decide_eq_false hno);clear hq hno;go_wp2_with (first|(with_reducible (refine xval rfl 14 rfl (.bool false) (fun w=>Fx.e_lss rfl rfl rfl h1.out w) ?_))|fail |(with_reducible (refine callB HC.out hst ?_;clear hst;intro w' hst)));go_ret;exact⟨by rw[HR.out];rfl,hst.end⟩
end Go.Proofs.YtdkeiefgkgpcbaaGreatDoor
