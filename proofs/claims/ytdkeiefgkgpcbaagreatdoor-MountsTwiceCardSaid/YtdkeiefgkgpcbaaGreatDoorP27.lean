/- Steps of the proof: SmAdd, SmHold, SmDoes, SmShred. -/
import Derived.Test.YtdkeiefgkgpcbaaGreatDoorP26
set_option linter.unusedVariables false
set_option linter.unusedSimpArgs false
set_option maxRecDepth 100000
namespace Go.Proofs.YtdkeiefgkgpcbaaGreatDoor
open Go.RowKit
instance fldEn1:Fx.FldT 66 1 1:=⟨fun ad w=>by kernel_rfl⟩
instance fldEn2:Fx.FldT 66 2 2:=⟨fun ad w=>by kernel_rfl⟩
instance fldEn6:Fx.FldT 66 6 37:=⟨fun ad w=>by kernel_rfl⟩
instance (priority:=low) hasAppL {L1 L2:List Blk} {g:Nat} {C:Array Value} {T:TypeId} [h:Has L1 g C T]:Has (L1++L2) g C T:=⟨by simp[h.mem]⟩
def recOf (e:Ent):Rec:=⟨e.n,e.len,e.hash,e.start,e.count,false⟩
def earlyB (l:List Rec) (n:Int):Bool:=decide (0<l.length)&&decide (n<(l.getD (l.length-1) rec0).time)
def addR (l:List Rec) (e:Ent):List Rec×Int:=
 if decide ((l.length:Int)=64)||decide (300<e.len) then(l,3) else if !recOk (recOf e)||earlyB l e.n then(l,2) else(l++[recOf e],0)
theorem run_bsrec (r:Rec) (w:World):(Instr.buildSlice 88 1 #[(0,.agg (recL r).toArray)]).run Tryz.prog w=.ok (.slice (some ⟨w.heap.size,0,none⟩) 1 1) (w.alloc (.cells (recL r).toArray 143)):=by kernel_rfl
def SAddPost (S:List Nat) (w0:World) (b:Nat) (n:ByteArray) (r:Int) (hv:Value) (l:List Rec) (e:Ent) (L:List Blk) (D:Dat) (en:Ending) (w':World):Prop:=
 ∃p c LoR,en=.returned (.int .i64 (addR l e).2)∧OwnR 143 37 recL LoR (.slice p (addR l e).1.length c) (addR l e).1∧Sx S w0 w' ((b,sC n r hv (.slice p (addR l e).1.length c),90)::(LoR++L)) D []
set_option maxHeartbeats 4000000 in
theorem sadd_calls {S:List Nat} {w0 w:World} {b:Nat} {n:ByteArray} {r:Int} {hv:Value} {p:Option Addr} {c:Nat} {l:List Rec} {LoR L:List Blk} {D:Dat} (hst:Sx S w0 w ((b,sC n r hv (.slice p l.length c),90)::(LoR++L)) D []) (hR:OwnR 143 37 recL LoR (.slice p l.length c) l) (hl:l.length≤1000) (e:Ent):
  Calls Tryz.prog 145 #[.pointer (some ⟨b,0,none⟩),.agg (entL e).toArray] w (SAddPost S w0 b n r hv l e L D):=by
 have hC:(entL e).toArray=entC e:=rfl;rw[hC];clear hC;have HRc:=Lib.hid (fun w=>record_calls (recOf e) w);obtain⟨b1,h1⟩:∃b,decide ((l.length:Int)=64)=b:=⟨_,rfl⟩;obtain⟨b2,h2⟩:∃b,decide (300<e.len)=b:=⟨_,rfl⟩
 by_cases h12:(b1||b2)=true
 ·have HA:Hid (addR l e=(l,3)):=Lib.hid (by unfold addR;rw[h1,h2,if_pos h12])
  replace h1:=Lib.hid h1;replace h2:=Lib.hid h2
  cases b1 with
  |true=>
   go_enter Tryz.func145,Tryz.ntmps145;go_wp2_with (first|(with_reducible (refine xval rfl 15 rfl (.agg (recL (recOf e)).toArray) (fun w=>by kernel_rfl) ?_))|(with_reducible (refine xval rfl 23 rfl _ (fun w=>Fx.e_eql rfl rfl rfl h1.out w) ?_))|(with_reducible first|refine x1 rfl rfl rfl hst ?_|refine xa rfl rfl rfl hst ?_|(refine xsa rfl rfl rfl rfl hst ?_;clear hst;intro w' hst)|(refine xba rfl rfl hst rfl ?_;clear hst;intro bb w' hst)|(refine xnw rfl rfl hst ?_;clear hst;intro bn w' hst)));go_ret;exact⟨p,c,LoR,by rw[HA.out];rfl,by rw[HA.out];exact hR,by rw[HA.out];exact hst.drop.drop⟩
  |false=>
   obtain rfl:b2=true:=by simpa using h12
   go_enter Tryz.func145,Tryz.ntmps145;go_wp2_with (first|(with_reducible (refine xval rfl 15 rfl (.agg (recL (recOf e)).toArray) (fun w=>by kernel_rfl) ?_))|(with_reducible (refine xval rfl 23 rfl _ (fun w=>Fx.e_eql rfl rfl rfl h1.out w) ?_))|(with_reducible (refine xval rfl 27 rfl _ (fun w=>Fx.e_gtr rfl rfl rfl h2.out w) ?_))|(with_reducible first|refine x1 rfl rfl rfl hst ?_|refine xa rfl rfl rfl hst ?_|(refine xsa rfl rfl rfl rfl hst ?_;clear hst;intro w' hst)|(refine xba rfl rfl hst rfl ?_;clear hst;intro bb w' hst)|(refine xnw rfl rfl hst ?_;clear hst;intro bn w' hst)));go_ret;exact⟨p,c,LoR,by rw[HA.out];rfl,by rw[HA.out];exact hR,by rw[HA.out];exact hst.drop.drop⟩
 obtain⟨rfl,rfl⟩:b1=false∧b2=false:=by simpa using h12
 obtain⟨b3,h3⟩:∃b,(!recOk (recOf e)||earlyB l e.n)=b:=⟨_,rfl⟩
 have HA1:b3=true→addR l e=(l,2):=fun hb=>by
  unfold addR;rw[h1,h2,h3,hb];rfl
 have HA0:b3=false→addR l e=(l++[recOf e],0):=fun hb=>by
  unfold addR;rw[h1,h2,h3,hb];rfl
 have hcs:(recOk (recOf e)=false∧b3=true)∨(recOk (recOf e)=true∧l=[]∧b3=false)∨(recOk (recOf e)=true∧0<l.length∧decide (e.n<(l.getD (l.length-1) rec0).time)=b3):=by
  subst h3
  by_cases h0:0<l.length
  ·unfold earlyB
   rw[decide_eq_true h0]
   cases recOk (recOf e)<;>simp[h0]
  ·have:l=[]:=List.length_eq_zero_iff.1 (by omega)
   subst this
   cases recOk (recOf e)<;>simp[earlyB]
 clear h12 h3;replace HA1:=Lib.hid HA1;replace HA0:=Lib.hid HA0;replace h1:=Lib.hid h1;replace h2:=Lib.hid h2;have hcsH:=Lib.hid hcs;clear hcs;go_enter Tryz.func145,Tryz.ntmps145;go_wp2_with (first|(with_reducible (refine xval rfl 15 rfl (.agg (recL (recOf e)).toArray) (fun w=>by kernel_rfl) ?_))|(with_reducible (refine xval rfl 23 rfl _ (fun w=>Fx.e_eql rfl rfl rfl h1.out w) ?_))|(with_reducible (refine xval rfl 27 rfl _ (fun w=>Fx.e_gtr rfl rfl rfl h2.out w) ?_))|(with_reducible first|refine x1 rfl rfl rfl hst ?_|refine xa rfl rfl rfl hst ?_|(refine xsa rfl rfl rfl rfl hst ?_;clear hst;intro w' hst)|(refine xba rfl rfl hst rfl ?_;clear hst;intro bb w' hst)|(refine xnw rfl rfl hst ?_;clear hst;intro bn w' hst)));refine Fx.goP (fun _=>false) (fun i=> !(i==0||i==1||i==8||i==12||i==17)) (fun _=>false) (List.range 22) rfl hst (by kernel_rfl) (by kernel_rfl) (by kernel_rfl) (by kernel_rfl) (by kernel_rfl) (fun L' a'=>L'=(bn,recC (recOf e),143)::(bb,entC e,66)::(b,sC n r hv (.slice p l.length c),90)::(LoR++L)∧a'.tmps.size=61∧a'.defers=[]∧[0,5,29].map (fun i=>a'.tmps.getD i undef)=[.pointer (some ⟨b,0,none⟩),.pointer (some ⟨bn,0,none⟩),.bool b3]) ?_ ?_
 ·show Fx.wpLX _ _ _ [0,1,2,3,4,5,6,7,8,9,10,11,12,13,14,15,16,17,18,19,20,21] _ _
  clear hst;rcases hcsH.out with⟨h3,rfl⟩ |⟨h3,rfl,rfl⟩ |⟨h3,h0,hlt2⟩
  ·rw[h3] at HRc
   refine Fx.lA rfl rfl rfl rfl rfl rfl ?_;refine Fx.callB rfl rfl (fun w h=>h) (fun w h=>HRc.out w) rfl rfl (fun w=>by kernel_rfl) ?_;refine Fx.val rfl rfl rfl rfl (v:=.bool true) (Fx.e_notT rfl rfl) ?_
   repeat(first|refine Fx.valN (v:=.bool true) rfl rfl rfl rfl (Fx.e_pkT rfl rfl rfl) ?_|refine Fx.valN (v:=.bool true) rfl rfl rfl rfl (Fx.e_mv rfl rfl) ?_|refine Fx.valN (v:=.bool true) rfl rfl rfl rfl (Fx.e_as rfl rfl) ?_|refine Fx.skipN rfl rfl rfl (by kernel_rfl) rfl ?_|refine Fx.skipBN rfl rfl rfl (by kernel_rfl) (fun w h=>h) ?_)
   exact⟨rfl,by kernel_rfl,by kernel_rfl,by kernel_rfl⟩
  ·rw[h3] at HRc
   refine Fx.lA rfl rfl rfl rfl rfl rfl ?_;refine Fx.callB rfl rfl (fun w h=>h) (fun w h=>HRc.out w) rfl rfl (fun w=>by kernel_rfl) ?_;refine Fx.val rfl rfl rfl rfl (v:=.bool false) (Fx.e_notF rfl rfl) ?_;refine Fx.val rfl rfl rfl rfl (v:=.bool false) (Fx.e_mv rfl rfl) ?_;refine Fx.val rfl rfl rfl (by kernel_rfl) (v:=.int .i64 (0:Nat)) (Fx.e_mv rfl rfl) ?_;refine Fx.val rfl rfl rfl (by kernel_rfl) (v:=.bool false) (Fx.e_gtr rfl rfl rfl (by decide)) ?_;refine Fx.val rfl rfl rfl (by kernel_rfl) (v:=.bool false) (Fx.e_mv rfl rfl) ?_
   iterate 12 (first|refine Fx.skipN rfl rfl rfl (by kernel_rfl) rfl ?_|refine Fx.skipBN rfl rfl rfl (by kernel_rfl) (fun w h=>h) ?_)
   refine Fx.val rfl rfl rfl (by kernel_rfl) (v:=.bool false) (Fx.e_pkF rfl rfl rfl) ?_;refine Fx.val rfl rfl rfl rfl (v:=.bool false) (Fx.e_pkF rfl rfl rfl) ?_;refine Fx.val rfl rfl rfl rfl (v:=.bool false) (Fx.e_as rfl rfl) ?_;exact⟨rfl,by kernel_rfl,by kernel_rfl,by kernel_rfl⟩
  ·rw[h3] at HRc
   rcases hR with⟨_,_,hn0⟩ |⟨g,c',C,rfl,hsl,h5,h6,h7,h8⟩
   ·rw[hn0] at h0;cases h0
   injection hsl with hsl _ _
   subst hsl;have hk1:l.length-1<l.length:=by omega
   have c1:CellAt C ((l.length-1)*37) (.int .i64 (l.getD (l.length-1) rec0).time):=⟨by
    have h9:=OwnR.cells (enc:=recL) (l:=l) h8 hk1 (j:=0) (by decide);rw[Nat.add_zero] at h9;rw[h9,List.getD_eq_getElem?_getD,List.getElem?_eq_getElem hk1]
    rfl⟩
   have HS1:=Lib.hid (show((l.length:Int)-1)=((l.length-1:Nat):Int) by omega);generalize (l.getD (l.length-1) rec0).time=tm at*;refine Fx.lA rfl rfl rfl rfl rfl rfl ?_;refine Fx.callB rfl rfl (fun w h=>h) (fun w h=>HRc.out w) rfl rfl (fun w=>by kernel_rfl) ?_;refine Fx.val rfl rfl rfl rfl (v:=.bool false) (Fx.e_notF rfl rfl) ?_;refine Fx.val rfl rfl rfl rfl (v:=.bool false) (Fx.e_mv rfl rfl) ?_;refine Fx.val rfl rfl rfl (by kernel_rfl) (v:=.int .i64 l.length) (Fx.e_mv rfl rfl) ?_;refine Fx.val rfl rfl rfl (by kernel_rfl) (v:=.bool true) (Fx.e_gtr rfl rfl rfl (decide_eq_true (by omega))) ?_;refine Fx.val rfl rfl rfl (by kernel_rfl) (v:=.bool true) (Fx.e_mv rfl rfl) ?_;refine Fx.fa rfl rfl rfl (by kernel_rfl) rfl rfl ?_;refine Fx.l1 rfl rfl rfl (by kernel_rfl) rfl rfl ?_;refine Fx.val rfl rfl rfl (by kernel_rfl) (v:=.pointer (some ⟨b,0,none⟩)) (Fx.e_mv rfl rfl) ?_;refine Fx.val rfl rfl rfl (by kernel_rfl) (v:=.pointer (some ⟨b,0,none⟩)) (Fx.e_nil rfl rfl) ?_;refine Fx.fa rfl rfl rfl (by kernel_rfl) rfl rfl ?_;refine Fx.l1 rfl rfl rfl (by kernel_rfl) rfl rfl ?_;refine Fx.val rfl rfl rfl (by kernel_rfl) (v:=.int .i64 l.length) (Fx.e_mv rfl rfl) ?_;refine Fx.val rfl rfl rfl (by kernel_rfl) (v:=.int .i64 ((l.length-1:Nat):Int)) (fun w=>by rw[←HS1.out];exact Fx.e_sub rfl rfl rfl (by omega) w) ?_;refine Fx.ix rfl rfl rfl (by kernel_rfl) rfl rfl rfl hk1 ?_;refine Fx.fa rfl rfl rfl (by kernel_rfl) rfl rfl ?_;refine Fx.l1 rfl rfl rfl (by kernel_rfl) rfl rfl ?_;refine Fx.val rfl rfl rfl (by kernel_rfl) (v:=.bool b3) (Fx.e_lss rfl rfl rfl hlt2) ?_;refine Fx.val rfl rfl rfl (by kernel_rfl) (v:=.bool b3) (Fx.e_pkT rfl rfl rfl) ?_;refine Fx.val rfl rfl rfl rfl (v:=.bool b3) (Fx.e_pkF rfl rfl rfl) ?_;refine Fx.val rfl rfl rfl rfl (v:=.bool b3) (Fx.e_as rfl rfl) ?_;exact⟨rfl,by kernel_rfl,by kernel_rfl,by kernel_rfl⟩
 clear hcsH HRc hst h1 h2;rintro L' a1 ⟨rfl,hsz,hdf,hvs⟩ w' hst;simp only[List.map_cons,List.map_nil,List.cons.injEq,and_true] at hvs;obtain⟨hv0,hv5,hv29⟩:=hvs;obtain⟨fZ,hfZ,hact2⟩:=act_lit a1 61 hsz hdf;clear hsz hdf;have he0:fZ 0=.pointer (some ⟨b,0,none⟩):=(hfZ 0).symm.trans hv0;have he5:fZ 5=.pointer (some ⟨bn,0,none⟩):=(hfZ 5).symm.trans hv5;have he29:fZ 29=.bool b3:=(hfZ 29).symm.trans hv29;simp only[show List.range 61=[0,1,2,3,4,5,6,7,8,9,10,11,12,13,14,15,16,17,18,19,20,21,22,23,24,25,26,27,28,29,30,31,32,33,34,35,36,37,38,39,40,41,42,43,44,45,46,47,48,49,50,51,52,53,54,55,56,57,58,59,60] from rfl,List.map_cons,List.map_nil,he0,he5,he29] at hact2;clear hfZ hv0 he0 hv5 he5 hv29 he29;subst hact2
 cases b3 with
 |true=>
  go_wp2_with fail;go_ret;have HA2:=HA1.out (by simp);exact⟨p,c,LoR,by rw[HA2];rfl,by rw[HA2];exact hR,by rw[HA2];exact hst.drop.drop⟩
 |false=>
  have HA2:=Lib.hid (HA0.out (by simp));clear HA0 HA1;go_wp2_with fail;refine Fx.wp_region_flow ⟨S,w0,D,[],fun w=>∃L',(b,sC n r hv (.slice p l.length c),90)∈L'∧(bn,recC (recOf e),143)∈L'∧Sx S w0 w L' D [],fun i=>i==6||i==7||i==10,fun i=> !(i==4||i==5),fun i=>i==10⟩ (List.range 11) rfl hst (by kernel_rfl) (by kernel_rfl) (by kernel_rfl) (by kernel_rfl) (by kernel_rfl) ?_;show Fx.wpLX _ _ _ [0,1,2,3,4,5,6,7,8,9,10] _ (Fx.mkO [] _);refine Fx.val rfl rfl rfl rfl (v:=.pointer (some ⟨b,0,none⟩)) (Fx.e_mv rfl rfl) ?_;refine Fx.val rfl rfl rfl rfl (v:=.pointer (some ⟨b,0,none⟩)) (Fx.e_mv rfl rfl) ?_;refine Fx.val rfl rfl rfl rfl (v:=.pointer (some ⟨b,0,none⟩)) (Fx.e_nil rfl rfl) ?_;refine Fx.fa rfl rfl rfl rfl rfl rfl ?_;refine Fx.rd rfl rfl rfl rfl (v:=.slice p l.length c) (fun w h=>⟨_,by simp,by simp,h⟩) (fun w h=>by obtain⟨L',hm,_,hs⟩:=h;obtain⟨L2,hs⟩:=hs.front hm;exact Fx.r_1 rfl rfl w hs) ?_;refine Fx.rd rfl rfl rfl rfl (v:=.agg (recL (recOf e)).toArray) (fun w h=>⟨_,by simp,by simp,h⟩) (fun w h=>by obtain⟨L',_,hm,hs⟩:=h;obtain⟨L2,hs⟩:=hs.front hm;exact Fx.r_a rfl rfl w hs) ?_;refine Fx.mk1 (TS:=88) rfl rfl rfl rfl (run_bsrec (recOf e)) ?_;intro b57;refine⟨Or.inr (fun w h=>⟨_,by simp,by simp,h⟩),?_⟩;refine Fx.apL (TS:=88) (Lo:=LoR) (R:=(b57,(recL (recOf e)).toArray,143)::(bn,recC (recOf e),143)::(bb,entC e,66)::(b,sC n r hv (.slice p l.length c),90)::L) (ms:=[recOf e]) (C:=(recL (recOf e)).toArray) (T':=143) rfl rfl rfl (perm_count fun x=>by simp only[List.count_append,List.count_cons];omega) rfl rfl hR rfl (by simp) (by simp) (by simp only[List.length_singleton];omega) ?_;intro q1 d1 Lo' hown1;refine⟨Or.inr (fun w h=>⟨_,by simp,by simp,h⟩),?_⟩;refine Fx.val rfl rfl rfl rfl (v:=.pointer (some ⟨b,0,none⟩)) (Fx.e_nil rfl rfl) ?_;refine Fx.fa rfl rfl rfl rfl rfl rfl ?_;refine Fx.stL rfl rfl rfl rfl rfl (Or.inl rfl) ?_;clear hst;intro w' hst;generalize hact:Fx.mkO _ _=act;have hv0:act.tmps.getD 0 undef=.pointer (some ⟨b,0,none⟩):=by rw[←hact];kernel_rfl
  obtain⟨fZ,hfZ,hact2⟩:=act_lit act 61 (by rw[←hact];kernel_rfl) (by rw[←hact];kernel_rfl);clear hact;have he0:fZ 0=.pointer (some ⟨b,0,none⟩):=(hfZ 0).symm.trans hv0;simp only[show List.range 61=[0,1,2,3,4,5,6,7,8,9,10,11,12,13,14,15,16,17,18,19,20,21,22,23,24,25,26,27,28,29,30,31,32,33,34,35,36,37,38,39,40,41,42,43,44,45,46,47,48,49,50,51,52,53,54,55,56,57,58,59,60] from rfl,List.map_cons,List.map_nil,he0] at hact2;clear hfZ hv0 he0;subst hact2;go_wp2_with fail;go_ret;refine⟨q1,d1,Lo',by rw[HA2.out];rfl,by rw[HA2.out,List.length_append];exact hown1,?_⟩;rw[HA2.out,List.length_append];have hst:=hst.perm (L':=(b57,(recL (recOf e)).toArray,143)::(bn,recC (recOf e),143)::(bb,entC e,66)::(b,sC n r hv (.slice q1 (l.length+1) d1),90)::(Lo'++L)) (perm_count fun x=>by simp only[List.count_append,List.count_cons];omega);exact hst.drop.drop.drop
end Go.Proofs.YtdkeiefgkgpcbaaGreatDoor
namespace Go.Proofs.YtdkeiefgkgpcbaaGreatDoor
open Go.RowKit
def holdF (l:List ByteArray) (nm:ByteArray):List ByteArray×Int:=
 if nameOk nm=false then(l,130) else match addF l nm with
 |none=>(l,142)
 |some m=>if(4:Int)<(m.length:Int) then(l,3) else(m,0)
def HoldPost (S:List Nat) (w0:World) (b:Nat) (n:ByteArray) (r:Int) (qv:Value) (x:List ByteArray×Int) (L:List Blk) (D:Dat) (en:Ending) (w':World):Prop:=
 ∃p c LoH,en=.returned (.int .i64 x.2)∧OwnR 9 1 strL LoH (.slice p x.1.length c) x.1∧Sx S w0 w' ((b,sC n r (.slice p x.1.length c) qv,90)::(LoH++L)) D []
set_option maxHeartbeats 2000000 in
theorem shold_calls {S:List Nat} {w0 w:World} {b:Nat} {n:ByteArray} {r:Int} {qv:Value} {p:Option Addr} {c:Nat} {l:List ByteArray} {LoH L:List Blk} {D:Dat} (hst:Sx S w0 w ((b,sC n r (.slice p l.length c) qv,90)::(LoH++L)) D []) (hH:OwnR 9 1 strL LoH (.slice p l.length c) l) (hl:l.length≤1000) (nm:ByteArray) (hnm:nm.size≤maxLen):
  Calls Tryz.prog 147 #[.pointer (some ⟨b,0,none⟩),.string nm] w (HoldPost S w0 b n r qv (holdF l nm) L D):=by
 have HN:=Lib.hid (fun w=>nm_calls nm hnm w)
 cases hn:nameOk nm with
 |false=>
  have HR:Hid (holdF l nm=(l,130)):=Lib.hid (if_pos hn);rw[nmErr_no hn] at HN;clear hn;go_enter Tryz.func147,Tryz.ntmps147;go_wp2_with (first|fail |(with_reducible (refine callB (HN.out _) hst ?_;clear hst;intro w' hst)));go_ret;exact⟨p,c,LoH,by rw[HR.out];rfl,by rw[HR.out];exact hH,by rw[HR.out];exact hst⟩
 |true=>
  have HR:holdF l nm=(match addF l nm with |none=>(l,142)|some m=>if(4:Int)<(m.length:Int) then(l,3) else(m,0)):=if_neg (by rw[hn];decide);rw[nmErr_ok hn] at HN;clear hn;obtain⟨am,ham⟩:∃am,addF l nm=am:=⟨_,rfl⟩;rw[ham] at HR;replace HR:=Lib.hid HR;go_enter Tryz.func147,Tryz.ntmps147;go_wp2_with (first|(with_reducible refine x1 rfl rfl rfl hst ?_)|(with_reducible (refine callB (HN.out _) hst ?_;clear hst;intro w' hst)));refine(nadd_calls (D:=snap w') (hH.rowAt (by omega) (fun q hq=>⟨_,hst.st.blk q (by simp[hq])⟩)) (by omega) nm _ (snap_holds _)).mono ?_;rintro e w2 ⟨v,Lo',rfl,hown,hs⟩;rw[ham] at hown ⊢;replace hst:=hst.take hs;clear hs ham HN
  cases am with
  |none=>
   have HR2:Hid (holdF l nm=(l,142)):=Lib.hid HR.out;clear HR;go_wp2_with fail;go_ret;exact⟨p,c,LoH,by rw[HR2.out];rfl,by rw[HR2.out];exact hH,by rw[HR2.out];exact hst.dropL⟩
  |some m=>
   have HR2:holdF l nm=if(4:Int)<(m.length:Int) then(l,3) else(m,0):=HR.out
   have hown:OwnR 9 1 strL Lo' v m:=hown;obtain⟨p',c',rfl⟩:=hown.slice;clear HR
   by_cases h4:(4:Int)<(m.length:Int)
   ·rw[if_pos h4] at HR2
    have H4:=Lib.hid (decide_eq_true h4);replace HR2:=Lib.hid HR2;clear h4;go_wp2_with (first|(with_reducible (refine xval rfl 28 rfl (.bool true) (fun w=>Fx.e_gtr rfl rfl rfl H4.out w) ?_))|fail);go_ret;exact⟨p,c,LoH,by rw[HR2.out];rfl,by rw[HR2.out];exact hH,by rw[HR2.out];exact hst.dropL⟩
   ·rw[if_neg h4] at HR2
    have H4:=Lib.hid (decide_eq_false h4);replace HR2:=Lib.hid HR2;clear h4;go_wp2_with (first|(with_reducible (refine xval rfl 28 rfl (.bool false) (fun w=>Fx.e_gtr rfl rfl rfl H4.out w) ?_))|(with_reducible (refine xsl rfl rfl rfl rfl hst ?_;clear hst;intro w' hst)));go_ret;refine⟨p',c',Lo',by rw[HR2.out];rfl,by rw[HR2.out];exact hown,?_⟩;rw[HR2.out];have hst:=hst.perm (L':=LoH++((b,sC n r (.slice p' m.length c') qv,90)::(Lo'++L))) (perm_count fun x=>by simp only[List.count_append,List.count_cons];omega);exact hst.dropL
end Go.Proofs.YtdkeiefgkgpcbaaGreatDoor
namespace Go.Proofs.YtdkeiefgkgpcbaaGreatDoor
open Go.RowKit
def shrR (r:Rec):Rec:={r with shr:=true}
def shrF (l:List Rec) (n:Int):List Rec×Int:=
 if n<0∨(l.length:Int)≤n then(l,161) else if(l.getD n.toNat rec0).shr then(l,162) else(l.set n.toNat (shrR (l.getD n.toNat rec0)),0)
def relF (l:List ByteArray) (nm:ByteArray):List ByteArray×Int:=match remF l nm with
 |none=>(l,143)
 |some m=>(m,0)
def retF (o n:Int):Int×Int:=if longerF o n=0 then(n,0) else(o,longerF o n)
def doesF (s:Stm) (e:Ent):Stm×Int:=
 if e.kind=2 then({s with recs:=(addR s.recs e).1},(addR s.recs e).2)
 else if e.kind=3 then({s with retain:=(retF s.retain e.n).1},(retF s.retain e.n).2)
 else if e.kind=4 then({s with holds:=(holdF s.holds e.name).1},(holdF s.holds e.name).2)
 else if e.kind=5 then({s with holds:=(relF s.holds e.name).1},(relF s.holds e.name).2)
 else if e.kind=6 then({s with recs:=(shrF s.recs e.n).1},(shrF s.recs e.n).2)
 else(s,2)
def DoesPost (S:List Nat) (w0:World) (b:Nat) (x:Stm×Int) (L:List Blk) (D:Dat) (en:Ending) (w':World):Prop:=
 ∃ph ch pr cr LoH LoR,en=.returned (.int .i64 x.2)∧OwnR 9 1 strL LoH (.slice ph x.1.holds.length ch) x.1.holds∧OwnR 143 37 recL LoR (.slice pr x.1.recs.length cr) x.1.recs∧
  Sx S w0 w' ((b,sC x.1.name x.1.retain (.slice ph x.1.holds.length ch) (.slice pr x.1.recs.length cr),90)::(LoH++(LoR++L))) D []
section
variable {S:List Nat} {w0 w:World} {b:Nat} {s:Stm} {ph:Option Addr} {ch:Nat} {pr:Option Addr} {cr:Nat} {LoH LoR L:List Blk} {D:Dat}
set_option maxHeartbeats 2000000 in
theorem does_add (hst:Sx S w0 w ((b,sC s.name s.retain (.slice ph s.holds.length ch) (.slice pr s.recs.length cr),90)::(LoH++(LoR++L))) D []) (hH:OwnR 9 1 strL LoH (.slice ph s.holds.length ch) s.holds) (hR:OwnR 143 37 recL LoR (.slice pr s.recs.length cr) s.recs) (hl:s.recs.length≤1000)
  (e:Ent) (hk:e.kind=2):Calls Tryz.prog 117 #[.pointer (some ⟨b,0,none⟩),.agg (entL e).toArray] w (DoesPost S w0 b (doesF s e) L D):=by
 have hC:(entL e).toArray=entC e:=rfl;rw[hC];clear hC;have HD:Hid (doesF s e=({s with recs:=(addR s.recs e).1},(addR s.recs e).2)):=Lib.hid (if_pos hk);have HK:=Lib.hid (show decide (e.kind=2)=true from decide_eq_true hk);clear hk;go_enter Tryz.func117,Tryz.ntmps117;go_wp2_with (first|(with_reducible (refine xval rfl 12 rfl _ (fun w=>Fx.e_eql rfl rfl rfl HK.out w) ?_))|(with_reducible first|refine x1 rfl rfl rfl hst ?_|refine xa rfl rfl rfl hst ?_|(refine xba rfl rfl hst rfl ?_;clear hst;intro bb w' hst)));refine(sadd_calls (hst.perm (L':=(b,sC s.name s.retain (.slice ph s.holds.length ch) (.slice pr s.recs.length cr),90)::(LoR++((bb,entC e,66)::(LoH++L)))) (perm_count fun x=>by simp only[List.count_append,List.count_cons];omega)) hR hl e).mono ?_;rintro en w2 ⟨p',c',LoR',rfl,hown,hst2⟩;have hst:=hst2.perm (L':=(bb,entC e,66)::(b,sC s.name s.retain (.slice ph s.holds.length ch) (.slice p' (addR s.recs e).1.length c'),90)::(LoH++(LoR'++L))) (perm_count fun x=>by simp only[List.count_append,List.count_cons];omega);clear hst2;go_wp2_with fail;go_ret;exact⟨ph,ch,p',c',LoH,LoR',by rw[HD.out];rfl,by rw[HD.out];exact hH,by rw[HD.out];exact hown,by rw[HD.out];exact hst.drop⟩
set_option maxHeartbeats 2000000 in
theorem does_hold (hst:Sx S w0 w ((b,sC s.name s.retain (.slice ph s.holds.length ch) (.slice pr s.recs.length cr),90)::(LoH++(LoR++L))) D []) (hH:OwnR 9 1 strL LoH (.slice ph s.holds.length ch) s.holds) (hR:OwnR 143 37 recL LoR (.slice pr s.recs.length cr) s.recs) (hl:s.holds.length≤1000)
  (e:Ent) (hnm:e.name.size≤maxLen) (hk:e.kind=4):Calls Tryz.prog 117 #[.pointer (some ⟨b,0,none⟩),.agg (entL e).toArray] w (DoesPost S w0 b (doesF s e) L D):=by
 have hC:(entL e).toArray=entC e:=rfl;rw[hC];clear hC;have HD:Hid (doesF s e=({s with holds:=(holdF s.holds e.name).1},(holdF s.holds e.name).2)):=Lib.hid (by unfold doesF;rw[if_neg (by omega),if_neg (by omega),if_pos hk]);have HK2:=Lib.hid (show decide (e.kind=2)=false from decide_eq_false (by omega));have HK3:=Lib.hid (show decide (e.kind=3)=false from decide_eq_false (by omega));have HK4:=Lib.hid (show decide (e.kind=4)=true from decide_eq_true hk);clear hk;go_enter Tryz.func117,Tryz.ntmps117;go_wp2_with (first|(with_reducible (refine xval rfl 12 rfl _ (fun w=>Fx.e_eql rfl rfl rfl HK2.out w) ?_))|(with_reducible (refine xval rfl 17 rfl _ (fun w=>Fx.e_eql rfl rfl rfl HK3.out w) ?_))|(with_reducible (refine xval rfl 34 rfl _ (fun w=>Fx.e_eql rfl rfl rfl HK4.out w) ?_))|(with_reducible first|refine x1 rfl rfl rfl hst ?_|(refine xba rfl rfl hst rfl ?_;clear hst;intro bb w' hst)));refine(shold_calls (hst.perm (L':=(b,sC s.name s.retain (.slice ph s.holds.length ch) (.slice pr s.recs.length cr),90)::(LoH++((bb,entC e,66)::(LoR++L)))) (perm_count fun x=>by simp only[List.count_append,List.count_cons];omega)) hH hl e.name hnm).mono ?_;rintro en w2 ⟨p',c',LoH',rfl,hown,hst2⟩;have hst:=hst2.perm (L':=(bb,entC e,66)::(b,sC s.name s.retain (.slice p' (holdF s.holds e.name).1.length c') (.slice pr s.recs.length cr),90)::(LoH'++(LoR++L))) (perm_count fun x=>by simp only[List.count_append,List.count_cons];omega);clear hst2;go_wp2_with fail;go_ret;exact⟨p',c',pr,cr,LoH',LoR,by rw[HD.out];rfl,by rw[HD.out];exact hown,by rw[HD.out];exact hR,by rw[HD.out];exact hst.drop⟩
set_option maxHeartbeats 2000000 in
theorem does_none (hst:Sx S w0 w ((b,sC s.name s.retain (.slice ph s.holds.length ch) (.slice pr s.recs.length cr),90)::(LoH++(LoR++L))) D []) (hH:OwnR 9 1 strL LoH (.slice ph s.holds.length ch) s.holds) (hR:OwnR 143 37 recL LoR (.slice pr s.recs.length cr) s.recs)
  (e:Ent) (hk:e.kind<2∨6<e.kind):Calls Tryz.prog 117 #[.pointer (some ⟨b,0,none⟩),.agg (entL e).toArray] w (DoesPost S w0 b (doesF s e) L D):=by
 have hC:(entL e).toArray=entC e:=rfl;rw[hC];clear hC;have HD:Hid (doesF s e=(s,2)):=Lib.hid (by unfold doesF;rw[if_neg (by omega),if_neg (by omega),if_neg (by omega),if_neg (by omega),if_neg (by omega)]);have HK2:=Lib.hid (show decide (e.kind=2)=false from decide_eq_false (by omega));have HK3:=Lib.hid (show decide (e.kind=3)=false from decide_eq_false (by omega));have HK4:=Lib.hid (show decide (e.kind=4)=false from decide_eq_false (by omega));have HK5:=Lib.hid (show decide (e.kind=5)=false from decide_eq_false (by omega));have HK6:=Lib.hid (show decide (e.kind=6)=false from decide_eq_false (by omega));clear hk;go_enter Tryz.func117,Tryz.ntmps117;go_wp2_with (first|(with_reducible (refine xval rfl 12 rfl _ (fun w=>Fx.e_eql rfl rfl rfl HK2.out w) ?_))|(with_reducible (refine xval rfl 17 rfl _ (fun w=>Fx.e_eql rfl rfl rfl HK3.out w) ?_))|(with_reducible (refine xval rfl 34 rfl _ (fun w=>Fx.e_eql rfl rfl rfl HK4.out w) ?_))|(with_reducible (refine xval rfl 40 rfl _ (fun w=>Fx.e_eql rfl rfl rfl HK5.out w) ?_))|(with_reducible (refine xval rfl 58 rfl _ (fun w=>Fx.e_eql rfl rfl rfl HK6.out w) ?_))|(with_reducible first|refine x1 rfl rfl rfl hst ?_|(refine xba rfl rfl hst rfl ?_;clear hst;intro bb w' hst)));go_ret;exact⟨ph,ch,pr,cr,LoH,LoR,by rw[HD.out];rfl,by rw[HD.out];exact hH,by rw[HD.out];exact hR,by rw[HD.out];exact hst.drop⟩
set_option maxHeartbeats 2000000 in
theorem does_retain (hst:Sx S w0 w ((b,sC s.name s.retain (.slice ph s.holds.length ch) (.slice pr s.recs.length cr),90)::(LoH++(LoR++L))) D []) (hH:OwnR 9 1 strL LoH (.slice ph s.holds.length ch) s.holds) (hR:OwnR 143 37 recL LoR (.slice pr s.recs.length cr) s.recs)
  (e:Ent) (hk:e.kind=3):Calls Tryz.prog 117 #[.pointer (some ⟨b,0,none⟩),.agg (entL e).toArray] w (DoesPost S w0 b (doesF s e) L D):=by
 have hC:(entL e).toArray=entC e:=rfl;rw[hC];clear hC;have hd:doesF s e=({s with retain:=(retF s.retain e.n).1},(retF s.retain e.n).2):=by unfold doesF;rw[if_neg (by omega),if_pos hk]
 have HK2:=Lib.hid (show decide (e.kind=2)=false from decide_eq_false (by omega));have HK3:=Lib.hid (show decide (e.kind=3)=true from decide_eq_true hk);have HLo:=Lib.hid (fun w=>longer_calls s.retain e.n w);clear hk;obtain⟨q,hq⟩:∃q,longerF s.retain e.n=q:=⟨_,rfl⟩;rw[hq] at HLo;have hr:retF s.retain e.n=if q=0 then(e.n,0) else(s.retain,q):=by unfold retF;rw[hq]
 rw[hr] at hd;clear hr hq;go_enter Tryz.func117,Tryz.ntmps117;go_wp2_with (first|(with_reducible (refine xval rfl 12 rfl _ (fun w=>Fx.e_eql rfl rfl rfl HK2.out w) ?_))|(with_reducible (refine xval rfl 17 rfl _ (fun w=>Fx.e_eql rfl rfl rfl HK3.out w) ?_))|(with_reducible first|refine x1 rfl rfl rfl hst ?_|(refine xba rfl rfl hst rfl ?_;clear hst;intro bb w' hst)));refine Fx.go (fun _=>false) (fun i=> !(i==3||i==5||i==6)) (fun _=>false) (List.range 8) rfl hst (by kernel_rfl) (by kernel_rfl) (by kernel_rfl) (by kernel_rfl) (by kernel_rfl) ?_;refine Fx.val rfl rfl rfl rfl (v:=.pointer (some ⟨b,0,none⟩)) (Fx.e_mv rfl rfl) ?_;refine Fx.val rfl rfl rfl rfl (v:=.pointer (some ⟨b,0,none⟩)) (Fx.e_nil rfl rfl) ?_;refine Fx.fa rfl rfl rfl rfl rfl rfl ?_;refine Fx.l1 rfl rfl rfl rfl rfl rfl ?_;refine Fx.fa rfl rfl rfl rfl rfl rfl ?_;refine Fx.l1 rfl rfl rfl rfl rfl rfl ?_;refine Fx.callB rfl rfl (fun w h=>h) (fun w h=>HLo.out w) rfl rfl (fun w=>by kernel_rfl) ?_;refine Fx.val rfl rfl rfl rfl (v:=.int .i64 q) (Fx.e_as rfl rfl) ?_;clear hst;intro w' hst;generalize hact:Fx.mkO _ _=act;have hv0:act.tmps.getD 0 undef=.pointer (some ⟨b,0,none⟩):=by rw[←hact];kernel_rfl
 have hv3:act.tmps.getD 3 undef=.pointer (some ⟨bb,0,none⟩):=by rw[←hact];kernel_rfl
 have hv5:act.tmps.getD 5 undef=.int .i64 q:=by rw[←hact];kernel_rfl
 obtain⟨fZ,hfZ,hact2⟩:=act_lit act 86 (by rw[←hact];kernel_rfl) (by rw[←hact];kernel_rfl);clear hact;have he0:fZ 0=.pointer (some ⟨b,0,none⟩):=(hfZ 0).symm.trans hv0;have he3:fZ 3=.pointer (some ⟨bb,0,none⟩):=(hfZ 3).symm.trans hv3;have he5:fZ 5=.int .i64 q:=(hfZ 5).symm.trans hv5;simp only[show List.range 86=[0,1,2,3,4,5,6,7,8,9,10,11,12,13,14,15,16,17,18,19,20,21,22,23,24,25,26,27,28,29,30,31,32,33,34,35,36,37,38,39,40,41,42,43,44,45,46,47,48,49,50,51,52,53,54,55,56,57,58,59,60,61,62,63,64,65,66,67,68,69,70,71,72,73,74,75,76,77,78,79,80,81,82,83,84,85] from rfl,List.map_cons,List.map_nil,he0,he3,he5] at hact2;clear hfZ hv0 he0 hv3 he3 hv5 he5;subst hact2
 by_cases h0:q=0
 ·subst h0
  rw[if_pos rfl] at hd;have HD:=Lib.hid hd;have HQ:=Lib.hid (show decide ((0:Int)=0)=true from rfl);clear hd;go_wp2_with (first|(with_reducible (refine xval rfl 26 rfl _ (fun w=>Fx.e_eql rfl rfl rfl HQ.out w) ?_))|(with_reducible first|refine x1 rfl rfl rfl hst ?_|(refine xsi rfl rfl rfl rfl hst ?_;clear hst;intro w' hst)));go_ret;exact⟨ph,ch,pr,cr,LoH,LoR,by rw[HD.out];rfl,by rw[HD.out];exact hH,by rw[HD.out];exact hR,by rw[HD.out];exact hst.drop⟩
 ·rw[if_neg h0] at hd
  have HD:=Lib.hid hd;have HQ:=Lib.hid (decide_eq_false h0);clear hd;go_wp2_with (first|(with_reducible (refine xval rfl 26 rfl _ (fun w=>Fx.e_eql rfl rfl rfl HQ.out w) ?_))|fail);go_ret;exact⟨ph,ch,pr,cr,LoH,LoR,by rw[HD.out];rfl,by rw[HD.out];exact hH,by rw[HD.out];exact hR,by rw[HD.out];exact hst.drop⟩
end
end Go.Proofs.YtdkeiefgkgpcbaaGreatDoor
namespace Go.Proofs.YtdkeiefgkgpcbaaGreatDoor
open Go.RowKit
instance fldEn4b:Fx.FldT 66 4 4:=⟨fun ad w=>by kernel_rfl⟩
theorem own_set1 {k:Nat} {α:Type} {enc:α→List Value} {C:Array Value} {l:List α} [e:Enc enc k] (hk:0<k) (ht:C.toList.take (l.length*k)=l.flatMap enc) {i:Nat} (hi:i<l.length) {j:Nat} (hj:j<k) {u:Value} (x:α) (hx:enc x=(enc l[i]).set j u):
  (C.setIfInBounds (i*k+j) u).toList.take (l.length*k)=(l.set i x).flatMap enc:=by
 have hik:i*k+k≤l.length*k:=by
  have:(i+1)*k≤l.length*k:=Nat.mul_le_mul_right k hi
  rwa [Nat.add_mul,Nat.one_mul] at this
 have hsz:l.length*k≤C.size:=by
  have:=congrArg List.length ht;rw[List.length_take,rows_length (k:=k)] at this;have h2:C.toList.length=C.size:=Array.length_toList;omega
 have he:C.setIfInBounds (i*k+j) u=wr C (i*k) (enc x):=by
  apply Array.ext_getElem?;intro q;rw[wr_get _ _ _ _ (by rw[e.len];omega),e.len,Array.getElem?_setIfInBounds]
  by_cases h1:i*k≤q∧q<i*k+k
  ·rw[if_pos h1,hx,List.getElem?_set]
   have h3:=OwnR.cells (enc:=enc) (l:=l) ht hi (j:=q-i*k) (by omega);rw[show i*k+(q-i*k)=q by omega] at h3
   by_cases h2:i*k+j=q
   ·rw[if_pos h2,if_pos (by omega),if_pos (by omega),if_pos (by rw[e.len];omega)]
   ·rw[if_neg h2,if_neg (by omega),h3]
  ·rw[if_neg h1,if_neg (by omega)]
 rw[he];exact own_set hk ht hi x
section
variable {S:List Nat} {w0 w:World} {b:Nat} {s:Stm} {ph:Option Addr} {ch:Nat} {pr:Option Addr} {cr:Nat} {LoH LoR L:List Blk} {D:Dat}
set_option maxHeartbeats 2000000 in
theorem does_release (hst:Sx S w0 w ((b,sC s.name s.retain (.slice ph s.holds.length ch) (.slice pr s.recs.length cr),90)::(LoH++(LoR++L))) D []) (hH:OwnR 9 1 strL LoH (.slice ph s.holds.length ch) s.holds) (hR:OwnR 143 37 recL LoR (.slice pr s.recs.length cr) s.recs) (hl:s.holds.length≤1000)
  (e:Ent) (hk:e.kind=5):Calls Tryz.prog 117 #[.pointer (some ⟨b,0,none⟩),.agg (entL e).toArray] w (DoesPost S w0 b (doesF s e) L D):=by
 have hC:(entL e).toArray=entC e:=rfl;rw[hC];clear hC;obtain⟨am,ham⟩:∃am,remF s.holds e.name=am:=⟨_,rfl⟩;have HD:Hid (doesF s e=({s with holds:=(match am with |none=>(s.holds,(143:Int))|some m=>(m,0)).1},(match am with |none=>(s.holds,(143:Int))|some m=>(m,0)).2)):=Lib.hid (by unfold doesF relF;(rw[ham,if_neg (by omega),if_neg (by omega),if_neg (by omega),if_pos hk])<;>cases am<;>rfl);have HK2:=Lib.hid (show decide (e.kind=2)=false from decide_eq_false (by omega));have HK3:=Lib.hid (show decide (e.kind=3)=false from decide_eq_false (by omega));have HK4:=Lib.hid (show decide (e.kind=4)=false from decide_eq_false (by omega));have HK5:=Lib.hid (show decide (e.kind=5)=true from decide_eq_true hk);clear hk;go_enter Tryz.func117,Tryz.ntmps117;go_wp2_with (first|(with_reducible (refine xval rfl 12 rfl _ (fun w=>Fx.e_eql rfl rfl rfl HK2.out w) ?_))|(with_reducible (refine xval rfl 17 rfl _ (fun w=>Fx.e_eql rfl rfl rfl HK3.out w) ?_))|(with_reducible (refine xval rfl 34 rfl _ (fun w=>Fx.e_eql rfl rfl rfl HK4.out w) ?_))|(with_reducible (refine xval rfl 40 rfl _ (fun w=>Fx.e_eql rfl rfl rfl HK5.out w) ?_))|(with_reducible first|refine x1 rfl rfl rfl hst ?_|(refine xba rfl rfl hst rfl ?_;clear hst;intro bb w' hst)));refine Fx.go (fun i=>i==6) (fun i=> !(i==3||i==5)) (fun i=>i==6) (List.range 12) rfl hst (by kernel_rfl) (by kernel_rfl) (by kernel_rfl) (by kernel_rfl) (by kernel_rfl) ?_;refine Fx.val rfl rfl rfl rfl (v:=.pointer (some ⟨b,0,none⟩)) (Fx.e_mv rfl rfl) ?_;refine Fx.val rfl rfl rfl rfl (v:=.pointer (some ⟨b,0,none⟩)) (Fx.e_nil rfl rfl) ?_;refine Fx.fa rfl rfl rfl rfl rfl rfl ?_;refine Fx.l1 rfl rfl rfl rfl rfl rfl ?_;refine Fx.fa rfl rfl rfl rfl rfl rfl ?_;refine Fx.l1 rfl rfl rfl rfl rfl rfl ?_;refine Fx.callS rfl rfl (fun L' u=>∃p c Lo',L'=Lo'++((bb,entC e,66)::(b,sC s.name s.retain (.slice ph s.holds.length ch) (.slice pr s.recs.length cr),90)::(LoH++(LoR++L)))∧u=.tuple #[.slice p (am.getD []).length c,.bool am.isSome]∧OwnR 9 1 strL Lo' (.slice p (am.getD []).length c) (am.getD [])) (f:=148) (args:=#[.slice ph s.holds.length ch,.string e.name]) (fun w hw=>?_) (fun w=>by kernel_rfl) ?_
 ·refine(nrem_calls (D:=snap w) (hH.rowAt (by omega) (fun q hq=>⟨_,hw.st.blk q (by simp[hq])⟩)) (by omega) e.name w (snap_holds w)).mono ?_
  rintro en w' ⟨v,Lo',rfl,hown,hs⟩;rw[ham] at hown ⊢;obtain⟨p,c,rfl⟩:=hown.slice;exact⟨_,_,rfl,⟨p,c,Lo',rfl,rfl,hown⟩,hw.take hs⟩
 rintro L' u ⟨p',c',Lo',rfl,rfl,hown⟩;refine⟨Or.inl rfl,?_⟩;refine Fx.val rfl rfl rfl rfl (v:=.tuple #[.slice p' (am.getD []).length c',.bool am.isSome]) (Fx.e_mv rfl rfl) ?_;refine Fx.val rfl rfl rfl rfl (v:=.slice p' (am.getD []).length c') (fun w=>by kernel_rfl) ?_;refine Fx.val rfl rfl rfl rfl (v:=.bool am.isSome) (fun w=>by kernel_rfl) ?_;refine Fx.val rfl rfl rfl rfl (v:=.slice p' (am.getD []).length c') (Fx.e_as rfl rfl) ?_;refine Fx.val rfl rfl rfl rfl (v:=.bool am.isSome) (Fx.e_as rfl rfl) ?_;clear hst;intro w' hst;generalize hact:Fx.mkO _ _=act;have hv0:act.tmps.getD 0 undef=.pointer (some ⟨b,0,none⟩):=by rw[←hact];kernel_rfl
 have hv6:act.tmps.getD 6 undef=.slice p' (am.getD []).length c':=by rw[←hact];kernel_rfl
 have hv7:act.tmps.getD 7 undef=.bool am.isSome:=by rw[←hact];kernel_rfl
 obtain⟨fZ,hfZ,hact2⟩:=act_lit act 86 (by rw[←hact];kernel_rfl) (by rw[←hact];kernel_rfl);clear hact;have he0:fZ 0=.pointer (some ⟨b,0,none⟩):=(hfZ 0).symm.trans hv0;have he6:fZ 6=.slice p' (am.getD []).length c':=(hfZ 6).symm.trans hv6;have he7:fZ 7=.bool am.isSome:=(hfZ 7).symm.trans hv7;simp only[show List.range 86=[0,1,2,3,4,5,6,7,8,9,10,11,12,13,14,15,16,17,18,19,20,21,22,23,24,25,26,27,28,29,30,31,32,33,34,35,36,37,38,39,40,41,42,43,44,45,46,47,48,49,50,51,52,53,54,55,56,57,58,59,60,61,62,63,64,65,66,67,68,69,70,71,72,73,74,75,76,77,78,79,80,81,82,83,84,85] from rfl,List.map_cons,List.map_nil,he0,he6,he7] at hact2;clear hfZ hv0 he0 hv6 he6 hv7 he7;subst hact2;clear ham
 cases am with
 |none=>
  go_wp2_with fail;go_ret;exact⟨ph,ch,pr,cr,LoH,LoR,by rw[HD.out];rfl,by rw[HD.out];exact hH,by rw[HD.out];exact hR,by rw[HD.out];exact hst.dropL.drop⟩
 |some m=>
  have hown:OwnR 9 1 strL Lo' (.slice p' m.length c') m:=hown;go_wp2_with (with_reducible (refine xsl rfl rfl rfl rfl hst ?_;clear hst;intro w' hst));go_ret;refine⟨p',c',pr,cr,Lo',LoR,by rw[HD.out];rfl,by rw[HD.out];exact hown,by rw[HD.out];exact hR,?_⟩;rw[HD.out];simp only[Option.getD_some] at hst;have hst:=hst.perm (L':=LoH++((bb,entC e,66)::(b,sC s.name s.retain (.slice p' m.length c') (.slice pr s.recs.length cr),90)::(Lo'++(LoR++L)))) (perm_count fun x=>by simp only[List.count_append,List.count_cons];omega);exact hst.dropL.drop
theorem recL_shr (r:Rec):recL (shrR r)=(recL r).set 36 (.bool true):=rfl
set_option maxHeartbeats 4000000 in
theorem does_shred (hst:Sx S w0 w ((b,sC s.name s.retain (.slice ph s.holds.length ch) (.slice pr s.recs.length cr),90)::(LoH++(LoR++L))) D []) (hH:OwnR 9 1 strL LoH (.slice ph s.holds.length ch) s.holds) (hR:OwnR 143 37 recL LoR (.slice pr s.recs.length cr) s.recs)
  (e:Ent) (hk:e.kind=6):Calls Tryz.prog 117 #[.pointer (some ⟨b,0,none⟩),.agg (entL e).toArray] w (DoesPost S w0 b (doesF s e) L D):=by
 have hC:(entL e).toArray=entC e:=rfl;rw[hC];clear hC;have hd:doesF s e=({s with recs:=(shrF s.recs e.n).1},(shrF s.recs e.n).2):=by unfold doesF;rw[if_neg (by omega),if_neg (by omega),if_neg (by omega),if_neg (by omega),if_pos hk]
 have HK2:=Lib.hid (show decide (e.kind=2)=false from decide_eq_false (by omega));have HK3:=Lib.hid (show decide (e.kind=3)=false from decide_eq_false (by omega));have HK4:=Lib.hid (show decide (e.kind=4)=false from decide_eq_false (by omega));have HK5:=Lib.hid (show decide (e.kind=5)=false from decide_eq_false (by omega));have HK6:=Lib.hid (show decide (e.kind=6)=true from decide_eq_true hk);clear hk;obtain⟨b1,h1⟩:∃b,decide (e.n<0)=b:=⟨_,rfl⟩;obtain⟨b2,h2⟩:∃b,decide ((s.recs.length:Int)≤e.n)=b:=⟨_,rfl⟩;go_enter Tryz.func117,Tryz.ntmps117;go_wp2_with (first|(with_reducible (refine xval rfl 12 rfl _ (fun w=>Fx.e_eql rfl rfl rfl HK2.out w) ?_))|(with_reducible (refine xval rfl 17 rfl _ (fun w=>Fx.e_eql rfl rfl rfl HK3.out w) ?_))|(with_reducible (refine xval rfl 34 rfl _ (fun w=>Fx.e_eql rfl rfl rfl HK4.out w) ?_))|(with_reducible (refine xval rfl 40 rfl _ (fun w=>Fx.e_eql rfl rfl rfl HK5.out w) ?_))|(with_reducible (refine xval rfl 58 rfl _ (fun w=>Fx.e_eql rfl rfl rfl HK6.out w) ?_))|(with_reducible first|refine x1 rfl rfl rfl hst ?_|(refine xba rfl rfl hst rfl ?_;clear hst;intro bb w' hst)));refine Fx.goP (fun _=>false) (fun i=> !(i==1||i==5||i==9)) (fun _=>false) (List.range 13) rfl hst (by kernel_rfl) (by kernel_rfl) (by kernel_rfl) (by kernel_rfl) (by kernel_rfl) (fun L' a'=>L'=(bb,entC e,66)::(b,sC s.name s.retain (.slice ph s.holds.length ch) (.slice pr s.recs.length cr),90)::(LoH++(LoR++L))∧a'.tmps.size=86∧a'.defers=[]∧[0,3,71].map (fun i=>a'.tmps.getD i undef)=[.pointer (some ⟨b,0,none⟩),.pointer (some ⟨bb,0,none⟩),.bool (b1||b2)]) ?_ ?_
 ·show Fx.wpLX _ _ _ [0,1,2,3,4,5,6,7,8,9,10,11,12] _ _
  clear hst;refine Fx.fa rfl rfl rfl rfl rfl rfl ?_;refine Fx.l1 rfl rfl rfl rfl rfl rfl ?_;refine Fx.val rfl rfl rfl rfl (v:=.bool b1) (Fx.e_lss rfl rfl rfl h1) ?_;refine Fx.val rfl rfl rfl rfl (v:=.bool b1) (Fx.e_mv rfl rfl) ?_
  cases b1 with
  |true=>
   repeat(first|refine Fx.valN (v:=.bool true) rfl rfl rfl rfl (Fx.e_pkT rfl rfl rfl) ?_|refine Fx.skipN rfl rfl rfl (by kernel_rfl) rfl ?_|refine Fx.skipBN rfl rfl rfl (by kernel_rfl) (fun w h=>h) ?_)
   exact⟨rfl,by kernel_rfl,by kernel_rfl,by kernel_rfl⟩
  |false=>
   refine Fx.fa rfl rfl rfl (by kernel_rfl) rfl rfl ?_;refine Fx.l1 rfl rfl rfl (by kernel_rfl) rfl rfl ?_;refine Fx.val rfl rfl rfl (by kernel_rfl) (v:=.pointer (some ⟨b,0,none⟩)) (Fx.e_mv rfl rfl) ?_;refine Fx.val rfl rfl rfl (by kernel_rfl) (v:=.pointer (some ⟨b,0,none⟩)) (Fx.e_nil rfl rfl) ?_;refine Fx.fa rfl rfl rfl (by kernel_rfl) rfl rfl ?_;refine Fx.l1 rfl rfl rfl (by kernel_rfl) rfl rfl ?_;refine Fx.ln rfl rfl rfl (by kernel_rfl) rfl rfl ?_;refine Fx.val rfl rfl rfl (by kernel_rfl) (v:=.bool b2) (Fx.e_geq rfl rfl rfl h2) ?_;refine Fx.val rfl rfl rfl rfl (v:=.bool b2) (Fx.e_pkF rfl rfl rfl) ?_;exact⟨rfl,by kernel_rfl,by kernel_rfl,by kernel_rfl⟩
 clear hst;rintro L' a1 ⟨rfl,hsz,hdf,hvs⟩ w' hst;simp only[List.map_cons,List.map_nil,List.cons.injEq,and_true] at hvs;obtain⟨hv0,hv3,hv71⟩:=hvs;obtain⟨fZ,hfZ,hact2⟩:=act_lit a1 86 hsz hdf;clear hsz hdf;have he0:fZ 0=.pointer (some ⟨b,0,none⟩):=(hfZ 0).symm.trans hv0;have he3:fZ 3=.pointer (some ⟨bb,0,none⟩):=(hfZ 3).symm.trans hv3;have he71:fZ 71=.bool (b1||b2):=(hfZ 71).symm.trans hv71;simp only[show List.range 86=[0,1,2,3,4,5,6,7,8,9,10,11,12,13,14,15,16,17,18,19,20,21,22,23,24,25,26,27,28,29,30,31,32,33,34,35,36,37,38,39,40,41,42,43,44,45,46,47,48,49,50,51,52,53,54,55,56,57,58,59,60,61,62,63,64,65,66,67,68,69,70,71,72,73,74,75,76,77,78,79,80,81,82,83,84,85] from rfl,List.map_cons,List.map_nil,he0,he3,he71] at hact2;clear hfZ hv0 he0 hv3 he3 hv71 he71;subst hact2
 by_cases hb:(b1||b2)=true
 ·have h3:shrF s.recs e.n=(s.recs,161):=if_pos (by
   rcases Bool.or_eq_true_iff.1 hb with h |h
   ·rw[h] at h1;exact Or.inl (of_decide_eq_true h1)
   ·rw[h] at h2;exact Or.inr (of_decide_eq_true h2))
  rw[h3] at hd;have HD:=Lib.hid hd;clear hd h3 h1 h2;rw[hb];clear hb;go_wp2_with fail;go_ret;exact⟨ph,ch,pr,cr,LoH,LoR,by rw[HD.out];rfl,by rw[HD.out];exact hH,by rw[HD.out];exact hR,by rw[HD.out];exact hst.drop⟩
 ·obtain⟨rfl,rfl⟩:b1=false∧b2=false:=by simpa using hb
  have hn0:0≤e.n:=by have:=of_decide_eq_false h1;omega
  have hnl:e.n<s.recs.length:=by have:=of_decide_eq_false h2;omega
  clear h1 h2 hb;obtain⟨k,hkn⟩:∃k:Nat,e.n=k:=⟨e.n.toNat,by omega⟩;have hlt:k<s.recs.length:=by omega
  have hsF:shrF s.recs e.n=if(s.recs[k]).shr then(s.recs,162) else(s.recs.set k (shrR s.recs[k]),0):=by
   unfold shrF;rw[if_neg (by omega),hkn,Int.toNat_natCast,List.getD_eq_getElem?_getD,List.getElem?_eq_getElem hlt];rfl
  rcases hR with⟨_,_,hn0⟩ |⟨g,c',C,rfl,hsl,h5,h6,h7,h8⟩
  ·rw[hn0] at hlt;cases hlt
  injection hsl with hsl _ hcc
  subst hsl hcc;have h9:=OwnR.cells (enc:=recL) (l:=s.recs) h8 hlt (j:=36) (by decide);have c1:CellAt C (k*37+36) (.bool s.recs[k].shr):=⟨h9⟩;have hfit:k*37+36+1≤C.size:=(Array.getElem?_eq_some_iff.1 (h9.trans rfl:C[k*37+36]? =some (.bool s.recs[k].shr))).1;have w1:WrAt C (k*37+36) 1 (.bool true) (C.setIfInBounds (k*37+36) (.bool true)):=wr_one _ _ _ _ rfl rfl hfit rfl;have HO:=Lib.hid (own_set1 (enc:=recL) (l:=s.recs) (by decide) h8 hlt (j:=36) (by decide) (u:=.bool true) (shrR s.recs[k]) (recL_shr _));have HSz:=Lib.hid (show(C.setIfInBounds (k*37+36) (.bool true)).size=cr*37 by rw[Array.size_setIfInBounds];exact h7);obtain⟨q,hq⟩:∃q,s.recs[k].shr=q:=⟨_,rfl⟩;have hs1:q=true→shrF s.recs e.n=(s.recs,162):=fun h=>by rw[hsF,hq,h];rfl
  have hs0:q=false→shrF s.recs e.n=(s.recs.set k (shrR s.recs[k]),0):=fun h=>by rw[hsF,hq,h];rfl
  replace hs1:=Lib.hid hs1;replace hs0:=Lib.hid hs0;clear hsF;rw[hq] at c1;have H8:=Lib.hid h8;clear h9 hfit hq h8;go_wp2_with fail;refine Fx.go (fun _=>false) (fun i=> !(i==3||i==5)) (fun _=>false) (List.range 8) rfl hst (by kernel_rfl) (by kernel_rfl) (by kernel_rfl) (by kernel_rfl) (by kernel_rfl) ?_;refine Fx.val rfl rfl rfl rfl (v:=.pointer (some ⟨b,0,none⟩)) (Fx.e_mv rfl rfl) ?_;refine Fx.val rfl rfl rfl rfl (v:=.pointer (some ⟨b,0,none⟩)) (Fx.e_nil rfl rfl) ?_;refine Fx.fa rfl rfl rfl rfl rfl rfl ?_;refine Fx.l1 rfl rfl rfl rfl rfl rfl ?_;refine Fx.fa rfl rfl rfl rfl rfl rfl ?_;refine Fx.l1 rfl rfl rfl rfl rfl rfl ?_;rw[hkn];refine Fx.ix rfl rfl rfl rfl rfl rfl rfl hlt ?_;rw[addr_add,Nat.zero_add];refine Fx.val rfl rfl rfl rfl (v:=.pointer (some ⟨g,k*37,none⟩)) (Fx.e_as rfl rfl) ?_;clear hst;intro w' hst;generalize hact:Fx.mkO _ _=act;have hv8:act.tmps.getD 8 undef=.pointer (some ⟨g,k*37,none⟩):=by rw[←hact];kernel_rfl
  obtain⟨fZ,hfZ,hact2⟩:=act_lit act 86 (by rw[←hact];kernel_rfl) (by rw[←hact];kernel_rfl);clear hact;have he8:fZ 8=.pointer (some ⟨g,k*37,none⟩):=(hfZ 8).symm.trans hv8;simp only[show List.range 86=[0,1,2,3,4,5,6,7,8,9,10,11,12,13,14,15,16,17,18,19,20,21,22,23,24,25,26,27,28,29,30,31,32,33,34,35,36,37,38,39,40,41,42,43,44,45,46,47,48,49,50,51,52,53,54,55,56,57,58,59,60,61,62,63,64,65,66,67,68,69,70,71,72,73,74,75,76,77,78,79,80,81,82,83,84,85] from rfl,List.map_cons,List.map_nil,he8] at hact2;clear hfZ hv8 he8;subst hact2
  cases q with
  |true=>
   rw[hs1.out (by simp)] at hd;have HD:=Lib.hid hd;clear hd hs1 hs0;go_wp2_with (with_reducible refine x1 rfl rfl rfl hst ?_);go_ret;exact⟨ph,ch,some ⟨g,0,none⟩,cr,LoH,[(g,C,143)],by rw[HD.out];rfl,by rw[HD.out];exact hH,by rw[HD.out];exact Or.inr ⟨g,cr,C,rfl,rfl,h5,h6,h7,H8.out⟩,by rw[HD.out];exact hst.drop⟩
  |false=>
   rw[hs0.out (by simp)] at hd;have HD:=Lib.hid hd;clear hd hs1 hs0;simp only[List.cons_append,List.nil_append] at hst;go_wp2_with (with_reducible first|refine x1 rfl rfl rfl hst ?_|(refine xsb rfl rfl rfl rfl hst ?_;clear hst;intro w' hst));go_ret;have hll:(s.recs.set k (shrR s.recs[k])).length=s.recs.length:=List.length_set;refine⟨ph,ch,some ⟨g,0,none⟩,cr,LoH,[(g,C.setIfInBounds (k*37+36) (.bool true),143)],by rw[HD.out];rfl,by rw[HD.out];exact hH,by rw[HD.out];exact Or.inr ⟨g,cr,_,rfl,by simp only[hll],by simp only[hll];exact h5,h6,HSz.out,by simp only[hll];exact HO.out⟩,?_⟩;rw[HD.out];simp only[hll];exact hst.drop
set_option maxHeartbeats 1000000 in
theorem does_calls (hst:Sx S w0 w ((b,sC s.name s.retain (.slice ph s.holds.length ch) (.slice pr s.recs.length cr),90)::(LoH++(LoR++L))) D []) (hH:OwnR 9 1 strL LoH (.slice ph s.holds.length ch) s.holds) (hR:OwnR 143 37 recL LoR (.slice pr s.recs.length cr) s.recs) (hl:s.holds.length≤1000) (hl2:s.recs.length≤1000)
  (e:Ent) (hnm:e.name.size≤maxLen):Calls Tryz.prog 117 #[.pointer (some ⟨b,0,none⟩),.agg (entL e).toArray] w (DoesPost S w0 b (doesF s e) L D):=by
 by_cases h2:e.kind=2
 ·exact does_add hst hH hR hl2 e h2
 by_cases h3:e.kind=3
 ·exact does_retain hst hH hR e h3
 by_cases h4:e.kind=4
 ·exact does_hold hst hH hR hl e hnm h4
 by_cases h5:e.kind=5
 ·exact does_release hst hH hR hl e h5
 by_cases h6:e.kind=6
 ·exact does_shred hst hH hR e h6
 ·exact does_none hst hH hR e (by omega)
end
end Go.Proofs.YtdkeiefgkgpcbaaGreatDoor
