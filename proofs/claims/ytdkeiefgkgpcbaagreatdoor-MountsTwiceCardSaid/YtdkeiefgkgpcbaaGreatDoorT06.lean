/- MountsTwice: a Mount behind a Mount does no act, and leads to the same; what Load tells ahead of it and behind it is the same, too: for every input that can be read the call returns true, and the arguments read behind it as they read before; the three tables of sums and sha are tied to the program's text. -/
import Derived.Test.YtdkeiefgkgpcbaaGreatDoorRows
import Derived.WalkKit
import Derived.ProofKit
import Derived.OpenShut
import Derived.ShutString
import Derived.ChangeOld
import Derived.Below
import Derived.SizedLaws
import Derived.Deep.Slices
import Derived.Lib.LaidTab
import Derived.Stop.LaidErr
import Derived.MakeChecks
import Derived.Test.YtdkeiefgkgpcbaaGreatDoorTie
import Derived.Test.YtdkeiefgkgpcbaaGreatDoorCards
import Derived.LaidMore
import Derived.Lay
import Derived.SevenTiedAt
import Derived.Stop.Joined
import Derived.Test.YtdkeiefgkgpcbaaGreatDoorT04
import Derived.Test.YtdkeiefgkgpcbaaGreatDoorT05
set_option linter.unusedVariables false
set_option linter.unusedSimpArgs false
set_option maxRecDepth 100000
namespace Go.Proofs.YtdkeiefgkgpcbaaGreatDoor
open Go.RowKit
theorem ycp {d:Dv} (h:(loadF d).2.2≠0):(loadF d).1=tt0∧(loadF d).2.1=sl0:=by
 unfold loadF at h ⊢;split
 ·exact⟨rfl,rfl⟩
 ·rename_i h1
  rw[if_neg h1] at h;split
  ·exact⟨rfl,rfl⟩
  ·rename_i h2
   rw[if_neg h2] at h;split
   ·exact⟨rfl,rfl⟩
   ·rename_i t ht
    rw[ht] at h;exact absurd rfl h
theorem ycq {d:Dv} (h:(loadF d).2.2≠0):ybV d=(d,(loadF d).1,(loadF d).2.1,(loadF d).2.2):=by
 unfold ybV;rw[if_neg h,(ycp h).1,(ycp h).2]
def failD (d:Dv):Dv:={d with left:=0,keep:=[]}
theorem ycr (d:Dv) (s:Int):∀k,blkGo (failD d) s k=blkGo d s k
 |0=>rfl
 |k+1=>by
  unfold blkGo;rw[ycr d s k];rfl
theorem ycs (d:Dv) (s:Sl):entriesF (failD d) s=entriesF d s:=by
 have hb:blocksF (failD d) s.start s.count=blocksF d s.start s.count:=by
  unfold blocksF;rw[ycr];rfl
 have hy:bytesF (failD d) s=bytesF d s:=by
  unfold bytesF;rw[hb]
 unfold entriesF;rw[hy]
theorem yct (d:Dv):chainF (failD d)=chainF d:=rfl
theorem ycu (d:Dv):loadF (failD d)=loadF d:=by
 unfold loadF;rw[yct,show(failD d).off=d.off from rfl,ybT _ _ (fun x _=>ycs d x)]
theorem ycv (d:Dv) (t:Tt):restF (failD d) t=restF d t:=rfl
theorem ycw (d:Dv):ybb d []=(d,0):=rfl
theorem ycx {N:Nat} {d:Dv} (hq:Quiet N d) (hd:d.Ok):∃d2,ybV d=(d2,(loadF d).1,(loadF d).2.1,(loadF d).2.2)∧d2.off=false∧d2.acts=[]∧loadF (failD d2)=loadF d∧ybV (failD d2)=(failD d2,(loadF d).1,(loadF d).2.1,(loadF d).2.2):=by
 by_cases h0:(loadF d).2.2=0
 ·obtain⟨e1,e2,e3,e4,e5⟩:=ybU hq.good hd hq.acts (ybH d) rfl
  refine⟨(ybb d (restF d (loadF d).1)).1,?_,e2.off,e3,?_,?_⟩
  ·unfold ybV
   rw[if_pos h0,if_pos e1,h0]
  ·rw[ycu,e4]
  ·have hl:loadF (failD (ybb d (restF d (loadF d).1)).1)=loadF d:=by rw[ycu,e4]
   unfold ybV;rw[hl,ycv,e5,ycw,if_pos h0,if_pos rfl,h0]
 ·refine⟨d,ycq h0,hq.good.off,hq.acts,ycu d,?_⟩
  rw[ycq (d:=failD d) (by rw[ycu];exact h0),ycu]
section
variable {S:List Nat} {w0 w:World} {L0:List Blk} {D:Dat} {g:Nat} {d:Dv} {q:Dp} {f:FuncId} {args:Array Value} {K:Ending→World→Prop} {C:List Blk→List Blk}
theorem ycy {x:Dv×Tt×Sl×Int} [c:Ctx L0 (devL g d q) C] (hc:∀F,DevW D F w g d→(∀x∈F,x∈S∨w0.heap.size≤x)→Calls Tryz.prog f args w (ybW D F w g x)) (h:Sx S w0 w L0 D []) (m:DevMem D d q)
  (hk:∀w' q' v' D2,v'.t=x.2.1→TtAt D2 v'→(∀p,D p→D2 p)→Sx S w0 w' (C (devL g x.1 q')) D2 []→DevMem D2 x.1 q'→K (.returned (.tuple #[.agg (ttL v').toArray,.agg (slC x.2.2.1),.int .i64 x.2.2.2])) w'):Calls Tryz.prog f args w K:=by
 have h2:Sx S w0 w (devL g d q++C []) D []:=(show Sx S w0 w (C (devL g d q)) D [] from c.eq ▸ h).perm (c.perm _);obtain⟨F0,hd0,_,hF0,hs⟩:=h2.closeDev m rfl;refine(hc F0 hd0 hF0).mono ?_;rintro e w' ⟨v',D2,F2,rfl,e1,e2,hD1,hD2,hd2,hst2,hF2⟩;have hs2:=(hs.obj0 hst2 hF2 hd2.lt).moreD (w1:=w) (D2:=D2) (fun p hp=>hs.st.lt p hp) hd2.data hd2.apart hD2;obtain⟨q',m',_,hs3⟩:=hs2.openDev hd2;exact hk w' q' v' D2 e1 e2 hD1 (hs3.perm (c.perm _).symm) m'
theorem callT {N:Nat} [c:Ctx L0 (devL g d q) C] (hc:∀F wx,DevW D F wx g d→Calls Tryz.prog f args wx (ycm D F wx g N)) (h:Sx S w0 w L0 D []) (m:DevMem D d q)
  (hk:∀w' d' q',Quiet N d'→Sx S w0 w' (C (devL g d' q')) D []→DevMem D d' q'→K (.returned (.bool true)) w'):Calls Tryz.prog f args w K:=by
 have h1:Sx S w0 w (devL g d q++C []) D []:=(show Sx S w0 w (C (devL g d q)) D [] from c.eq ▸ h).perm (c.perm _);obtain⟨F',hd,_,_,hs⟩:=h1.closeDev m rfl;refine(hc F' w hd).mono ?_;rintro e w' ⟨d',hq,he,F2,hd2,hs2,hF2⟩;subst he;obtain⟨q',m',_,hs3⟩:=(hs.obj0 hs2 hF2 hd2.lt).openDev hd2;exact hk w' d' q' hq (hs3.perm (c.perm _).symm) m'
end
set_option maxHeartbeats 4000000 in
theorem ycz {p ph:Option Addr} {c ch:Nat} {l:List Rw} {hits:List Ht} (w:World) (hr:l.length≤6→RowAt (snap w) 62 1 rwL p c l) (hrs:∀r∈l,r.l.length≤5→RowAt (snap w) 68 40 puL r.p r.c r.l)
  (hwf:∀r∈l,r.l.length≤5→∀x∈r.l,x.e.Wf) (hh:hits.length≤10→RowAt (snap w) 116 4 htL ph ch hits) (hU:GSums w) (hGB:GBegin w) (hGS:GSha w):
  Calls Tryz.prog 5 #[.slice p l.length c,.slice ph hits.length ch] w (Ret (.bool true) w):=by
 have hst:=Sx.start0 w (snap_holds w);have HG:Hid (∀wx,Below w.heap.size w wx→GSums wx∧GBegin wx∧GSha wx):=Lib.hid (fun wx hb=>⟨hU.below hb,hGB.below hb,hGS.below hb⟩);have HL:=Lib.hid (fun wx (hg:GSums wx∧GBegin wx∧GSha wx)=>lives_calls wx hg.1 hg.2.1 hg.2.2)
 have HNG:Hid (∀F:List Nat,(∀x∈F,x∈([]:List Nat)∨w.heap.size≤x)→NotG F):=Lib.hid (fun F hF=>by
  have h1:1<w.heap.size:=cell_lt (hU.at_ 0 (by decide));have h2:2<w.heap.size:=cell_lt (hGS.at_ 0 (by decide));have h3:=hGB.lt
  have h4:∀x,x<w.heap.size→x∉F:=fun x hx hm=>by
   rcases hF _ hm with h |h
   ·simp at h
   ·omega
  exact⟨h4 _ h1,h4 _ h2,h4 _ h3⟩)
 have HB:=Lib.hid (fun wx (hD:Holds (snap w) wx)=>yaz hr hrs wx hD);obtain⟨b,hb⟩:∃b,bey21 l=b:=⟨_,rfl⟩;rw[hb] at HB
 cases b with
 |true=>
  clear hr hrs hwf hh hU hGB hGS hb;go_enter Tryz.func5,Tryz.ntmps5;go_wp2_with (first|(with_reducible refine callB (HB.out _ hst.data) hst ?_;clear hst;intro w' hst)|(with_reducible refine callB (HL.out _ (HG.out _ hst.end)) hst ?_;clear hst;intro w' hst));go_ret;exact⟨rfl,hst.end⟩
 |false=>
  by_cases h10:10<hits.length
  ·have g1:=Lib.hid (show decide ((10:Int)<(hits.length:Int))=true from decide_eq_true (by omega))
   clear hr hrs hwf hh hU hGB hGS hb h10;go_enter Tryz.func5,Tryz.ntmps5;go_wp2_with (first|(with_reducible refine xval rfl 24 rfl _ (fun w=>Fx.e_gtr rfl rfl rfl g1.out w) ?_)|fail |(with_reducible refine callB (HB.out _ hst.data) hst ?_;clear hst;intro w' hst)|(with_reducible refine callB (HL.out _ (HG.out _ hst.end)) hst ?_;clear hst;intro w' hst));go_ret;exact⟨rfl,hst.end⟩
  have g1:=Lib.hid (show decide ((10:Int)<(hits.length:Int))=false from decide_eq_false (by omega));obtain⟨h6,h5⟩:=yaB hb;have hh2:=hh (by omega);have HC:=Lib.hid (fun wx (hD:Holds (snap w) wx) (hg:GSums wx∧GBegin wx∧GSha wx)=>yaG (hr h6) (fun r hx=>hrs r hx (h5 r hx).1) h6 (fun r hx=>⟨(h5 r hx).1,hwf r hx (h5 r hx).1,(h5 r hx).2⟩) wx hD hg.1 hg.2.1 hg.2.2);clear hr hrs hwf hh hU hGB hGS hb h6 h5;go_enter Tryz.func5,Tryz.ntmps5;go_wp2_with (first|(with_reducible refine xval rfl 24 rfl _ (fun w=>Fx.e_gtr rfl rfl rfl g1.out w) ?_)|fail |(with_reducible refine callB (HB.out _ hst.data) hst ?_;clear hst;intro w' hst));refine(HC.out _ hst.data (HG.out _ hst.end)).mono ?_;rintro e w2 ⟨g,v,Lo,D0,q,ps,rfl,hown,hPl,hps,hDD,hgood,hacts,m,hst2⟩;replace hst:=(hst.after hst2).dropL;clear hst2 hown hPl hps HC HB g1;generalize (comF (l.map (·.l))).1=d0 at*;have hq:Quiet d0.now.length d0:=⟨hgood,hacts,rfl⟩;obtain⟨N,hN⟩:∃N,d0.now.length=N:=⟨_,rfl⟩;rw[hN] at hq;have HT:=Lib.hid (fun F wx (hd:DevW D0 F wx g d0)=>yco hd hq (hh2.mono hDD) (by omega));clear hN hgood hacts hq hh2 hDD h10;go_wp2_with (first|(with_reducible refine callT HT.out hst m ?_;clear hst m;intro w3 d q1 hq hst m));clear HT;obtain⟨d2,k1,k2,k3,k4,k5⟩:=ycx hq m.ok;have HLd:=Lib.hid (fun(D:Dat) F wx (hd:DevW D F wx g d) (hg:GSums wx∧GBegin wx∧GSha wx)=>yaW hd hq.good.off hg.1 hg.2.1 hg.2.2);have HMt:=Lib.hid (fun(D:Dat) F wx (hd:DevW D F wx g d) (hf:NotG F) (hg:GSums wx∧GBegin wx∧GSha wx)=>ybZ hd hf hq.good.off (by rw[hq.acts];exact Nat.zero_le _) hg.1 hg.2.1 hg.2.2);have HLd2:=Lib.hid (fun(D:Dat) F wx (hd:DevW D F wx g (failD d2)) (hg:GSums wx∧GBegin wx∧GSha wx)=>yaW hd k2 hg.1 hg.2.1 hg.2.2);have HMt2:=Lib.hid (fun(D:Dat) F wx (hd:DevW D F wx g (failD d2)) (hf:NotG F) (hg:GSums wx∧GBegin wx∧GSha wx)=>ybZ hd hf k2 (show d2.acts.length≤1000 by rw[k3];exact Nat.zero_le _) hg.1 hg.2.1 hg.2.2);have HFa:Hid (∀(D:Dat) F wx,DevW D F wx g d2→Calls Tryz.prog 15 #[.pointer (some ⟨g,0,none⟩),.int .i64 0,.slice none 0 0] wx (DevLay (.int .i64 0) D F wx g (failD d2))):=Lib.hid (fun D F wx hd=>yaZ hd k2 (keep:=[]) (RowAt.nil D 3 1 inL none 0) (by simp) 0 (by decide) (by unfold I64;omega))
  have HUp:Hid (∀(D:Dat) F wx,DevW D F wx g (failD d2)→Calls Tryz.prog 17 #[.pointer (some ⟨g,0,none⟩)] wx (Ret (.bool true) wx)):=Lib.hid (fun D F wx hd=>by
   have:=dup_calls hd;rw[show(failD d2).off=false from k2] at this
   exact this)
  rw[k1] at HMt;rw[k4] at HLd2;rw[k5] at HMt2;clear k1 k2 k3 k4 k5 hq;generalize loadF d=x at*;obtain⟨xt,xs,xe⟩:=x;simp only at HLd HMt HLd2 HMt2;refine yaX (fun F hd=>HLd.out D0 F _ hd (HG.out _ hst.end)) hst m ?_;clear hst;rintro w4 ⟨p1,c1,k1,l1⟩ D1 hv1 hT1 hD1 hst;rw[show(ttL ⟨p1,c1,k1,l1⟩).toArray=[.int .i64 k1,.slice p1 l1.length c1].toArray from rfl];replace m:=m.mono hD1;obtain rfl:(⟨k1,l1.map (·.s)⟩:Tt)=xt:=hv1;clear hD1 HLd;go_wp2_with (first|(with_reducible refine xnwS 7 rfl rfl rfl hst ?_;clear hst;intro b7 w' hst)|(with_reducible refine xnwS 8 rfl rfl rfl hst ?_;clear hst;intro b8 w' hst)|(with_reducible refine xsa rfl rfl rfl rfl hst ?_;clear hst;intro w' hst));refine ycy (fun F hd hF=>HMt.out D1 F _ hd (HNG.out F hF) (HG.out _ hst.end)) hst m ?_;clear hst m;rintro w5 q2 ⟨p2,c2,k2,l2⟩ D2 hv2 hT2 hD2 hst m;rw[show(ttL ⟨p2,c2,k2,l2⟩).toArray=[.int .i64 k2,.slice p2 l2.length c2].toArray from rfl];replace hv2:(⟨k2,l2.map (·.s)⟩:Tt)=⟨k1,l1.map (·.s)⟩:=hv2;injection hv2 with e1 e2
  subst e1;replace hT1:=hT1.mono hD2;have HS12:Hid (∀wx,Holds D2 wx→Calls Tryz.prog 12 #[.agg #[.int .i64 k2,.slice p1 l1.length c1],.agg #[.int .i64 k2,.slice p2 l2.length c2]] wx (Ret (.bool true) wx)):=Lib.hid (fun wx hx=>yaV hT1 hT2 e2.symm wx hx);clear hD2 HMt hT2 e2;go_wp2_with (first|(with_reducible refine xnwS 10 rfl rfl rfl hst ?_;clear hst;intro b10 w' hst)|(with_reducible refine xnwS 11 rfl rfl rfl hst ?_;clear hst;intro b11 w' hst)|(with_reducible refine xval rfl 54 rfl (.bool false) (fun w=>Fx.e_neq rfl rfl rfl (by simp) w) ?_)|(refine xval rfl 58 rfl (.bool false) (fun w=>yaR rfl rfl rfl (by rw[yaT];rfl) w) ?_)|(with_reducible first|refine xa rfl rfl rfl hst ?_|(refine xsa rfl rfl rfl rfl hst ?_;clear hst;intro w' hst))|(with_reducible refine callB (HS12.out _ hst.data) hst ?_;clear hst;intro w' hst)|(with_reducible refine callLay (fun F hd hF=>HFa.out D2 F _ hd) hst m ?_;clear hst m;intro w6 q3 D3 hD3 hst m;replace hT1:=hT1.mono hD3));clear HS12 HFa;refine ycy (fun F hd hF=>HMt2.out D3 F _ hd (HNG.out F hF) (HG.out _ hst.end)) hst m ?_;clear hst m;rintro w7 q4 ⟨p3,c3,k3,l3⟩ D4 hv3 hT3 hD4 hst m;rw[show(ttL ⟨p3,c3,k3,l3⟩).toArray=[.int .i64 k3,.slice p3 l3.length c3].toArray from rfl];replace hv3:(⟨k3,l3.map (·.s)⟩:Tt)=⟨k2,l1.map (·.s)⟩:=hv3;injection hv3 with e3 e4
  subst e3;replace hT1:=hT1.mono hD4;clear hD4 HMt2;go_wp2_with (first|(with_reducible refine xnwS 13 rfl rfl rfl hst ?_;clear hst;intro b13 w' hst)|(with_reducible refine xnwS 14 rfl rfl rfl hst ?_;clear hst;intro b14 w' hst)|(with_reducible refine xsa rfl rfl rfl rfl hst ?_;clear hst;intro w' hst));refine yaX (fun F hd=>HLd2.out D4 F _ hd (HG.out _ hst.end)) hst m ?_;clear hst;rintro w8 ⟨p4,c4,k4,l4⟩ D5 hv4 hT4 hD5 hst;rw[show(ttL ⟨p4,c4,k4,l4⟩).toArray=[.int .i64 k4,.slice p4 l4.length c4].toArray from rfl];replace hv4:(⟨k4,l4.map (·.s)⟩:Tt)=⟨k3,l1.map (·.s)⟩:=hv4;injection hv4 with e5 e6
  subst e5;replace m:=m.mono hD5;replace hT1:=hT1.mono hD5;replace hT3:=hT3.mono hD5;have HS13:Hid (∀wx,Holds D5 wx→Calls Tryz.prog 12 #[.agg #[.int .i64 k4,.slice p1 l1.length c1],.agg #[.int .i64 k4,.slice p3 l3.length c3]] wx (Ret (.bool true) wx)):=Lib.hid (fun wx hx=>yaV hT1 hT3 e4.symm wx hx);have HS14:Hid (∀wx,Holds D5 wx→Calls Tryz.prog 12 #[.agg #[.int .i64 k4,.slice p1 l1.length c1],.agg #[.int .i64 k4,.slice p4 l4.length c4]] wx (Ret (.bool true) wx)):=Lib.hid (fun wx hx=>yaV hT1 hT4 e6.symm wx hx);clear hD5 HLd2 hT1 hT3 hT4 e4 e6;go_wp2_with (first|(with_reducible refine xnwS 16 rfl rfl rfl hst ?_;clear hst;intro b16 w' hst)|(with_reducible refine xnwS 17 rfl rfl rfl hst ?_;clear hst;intro b17 w' hst)|(with_reducible refine xval rfl 85 rfl (.bool true) (fun w=>Fx.e_eql rfl rfl rfl (by simp) w) ?_)|(with_reducible refine xval rfl 89 rfl (.bool true) (fun w=>Fx.e_eql rfl rfl rfl (by simp) w) ?_)|(refine xval rfl 94 rfl (.bool true) (fun w=>e_eqS rfl rfl rfl (yaT _) w) ?_)|(refine xval rfl 99 rfl (.bool true) (fun w=>e_eqS rfl rfl rfl (yaT _) w) ?_)|(with_reducible first|refine xa rfl rfl rfl hst ?_|(refine xsa rfl rfl rfl rfl hst ?_;clear hst;intro w' hst))|(with_reducible refine callB (HS13.out _ hst.data) hst ?_;clear hst;intro w' hst)|(with_reducible refine callB (HS14.out _ hst.data) hst ?_;clear hst;intro w' hst)|(with_reducible refine callOw (fun F hd=>HUp.out _ F _ hd) hst m ?_;clear hst;intro w' hst)|(with_reducible refine callB (HL.out _ (HG.out _ hst.end)) hst ?_;clear hst;intro w' hst));go_ret;exact⟨rfl,hst.end⟩
end Go.Proofs.YtdkeiefgkgpcbaaGreatDoor
namespace Go.Proofs.YtdkeiefgkgpcbaaGreatDoor
open Go.ChangeShapes Go.WideShapes Go.ChangeAt Go.RowKit
theorem ycA {cs:Array Value} {n:Nat} (hn:cs.size=n) (h:∀i,i<n→∃a:Int,cs[i]? =some (.int .u8 a)∧(Lit.int .u8 a).wf=true):∃l:List UInt8,l.length=n∧cs=(u8s l).toArray:=by
 let f:Value→UInt8:=fun v=>match v with | .int _ a=>UInt8.ofNat a.toNat |_=>0
 refine⟨cs.toList.map f,by simpa using hn,?_⟩;apply Array.ext';apply List.ext_getElem?;intro i
 by_cases hi:i<n
 ·obtain⟨a,ha,hw⟩:=h i hi
  obtain⟨h0,h1⟩:=bounds_u8 hw;have e:(UInt8.ofNat a.toNat).toNat=a.toNat:=by simp;omega
  have e2:((UInt8.ofNat a.toNat).toNat:Int)=a:=by rw[e];omega
  simp only[Array.getElem?_toList,ha,u8s,List.map_map,List.getElem?_map,Option.map_some,Function.comp,f,e2]
 ·have h1:cs.toList.length≤i:=by simp;omega
  simp[u8s,List.getElem?_eq_none h1]
theorem ycB {H:Type} {enc:TypeId×Value→H} {W:World} {m k:Nat} {t:TypeId} {cs:List Value} {x:DataW H×List MemPlace} (ht:Tryz.prog.underlying t=some (.array k 5)) (hl:cs.length=k)
  (h:DataW.trod enc Tryz.prog W 0 (fun _=>true) true m t cs=some x):∃l:List UInt8,l.length=k∧cs=u8s l:=by
 have hc5:Tryz.prog.cellsOf 5=1:=by kernel_rfl
 obtain⟨xs,m',_,_,_,hlen,hx⟩:=DataW.trod_array ht h
 obtain⟨l,h1,h2⟩:=ycA (cs:=cs.toArray) (n:=k) (by simpa using hl) (fun i hi=>by
  have h1:=hx i hi;rw[hc5] at h1;have hi':i<cs.length:=by omega
  have h2:(cs.drop (i*1)).take 1=[cs[i]]:=by
   rw[Nat.mul_one,List.drop_eq_getElem_cons hi',List.take_succ_cons,List.take_zero]
  rw[h2,List.getElem?_eq_getElem (by omega)] at h1;obtain⟨a,hv,_,hw⟩:=DataW.trod_int Tryz.underlying5 h1
  exact⟨a,by simp[hi'];simpa using hv,hw⟩)
 exact⟨l,h1,by have:=congrArg Array.toList h2;simpa using this⟩
section
variable {H:Type} {enc:TypeId×Value→H} {W:World} {m:Nat} {t:TypeId} {cs:List Value} {x:DataW H×List MemPlace}
theorem ycC {fs:Array Field} (ht:Tryz.prog.underlying t=some (.struct fs)) (h:DataW.trod enc Tryz.prog W 0 (fun _=>true) true m t cs=some x) (i:Nat) (ty:TypeId) (off n:Nat) (hf:(fs[i]?).map (fun f=>(f.type,f.offset))=some (ty,off)) (hn:Tryz.prog.cellsOf ty=n):
  ∃m' y,DataW.trod enc Tryz.prog W 0 (fun _=>true) true m' ty ((cs.drop off).take n)=some y:=by
 obtain⟨xs,m',_,_,_,hlen,hx⟩:=DataW.trod_struct ht h
 cases hq:fs[i]? with
 |none=>rw[hq] at hf;cases hf
 |some f=>
  rw[hq] at hf;simp only[Option.map_some,Option.some.injEq,Prod.mk.injEq] at hf;obtain⟨rfl,rfl⟩:=hf;have h1:=hx i f hq;rw[hn] at h1;have hi:i<xs.length:=by rw[hlen];exact(Array.getElem?_eq_some_iff.1 hq).1
  rw[List.getElem?_eq_getElem hi] at h1;exact⟨m',_,h1⟩
theorem ycD {n:Int} (h:(Lit.int .i64 n).wf=true):I64 n:=by
 simp[Lit.wf,IntKind.min,IntKind.max,IntKind.signed,IntKind.bits] at h;unfold I64;omega
theorem ycE {fs:Array Field} (ht:Tryz.prog.underlying t=some (.struct fs)) (h:DataW.trod enc Tryz.prog W 0 (fun _=>true) true m t cs=some x) (i off:Nat) (hf:(fs[i]?).map (fun f=>(f.type,f.offset))=some (3,off)):
  ∃n:Int,(cs.drop off).take 1=[.int .i64 n]∧I64 n:=by
 obtain⟨m',y,hy⟩:=ycC ht h i _ off 1 hf (by kernel_rfl);obtain⟨n,h1,_,h2⟩:=DataW.trod_int Tryz.underlying3 hy;exact⟨n,h1,ycD h2⟩
theorem chop (cs:List Value) (i n:Nat):cs.drop i=(cs.drop i).take n++cs.drop (i+n):=by
 rw[←List.drop_drop,List.take_append_drop]
theorem ycF (hl:cs.length=39) (h:DataW.trod enc Tryz.prog W 0 (fun _=>true) true m 66 cs=some x):∃e:Ent,e.Wf∧cs=entL e:=by
 obtain⟨k,hk,wk⟩:=ycE underEnt h 0 0 (by kernel_rfl);obtain⟨s,hs,ws⟩:=ycE underEnt h 1 1 (by kernel_rfl);obtain⟨n,hn,wn⟩:=ycE underEnt h 2 2 (by kernel_rfl);obtain⟨l,hl',wl⟩:=ycE underEnt h 3 3 (by kernel_rfl);obtain⟨_,_,h4⟩:=ycC underEnt h 4 9 4 1 (by kernel_rfl) (by kernel_rfl);obtain⟨nm,h4,_,wnm⟩:=DataW.trod_string Tryz.underlying9 h4;obtain⟨_,_,h5⟩:=ycC underEnt h 5 39 5 32 (by kernel_rfl) (by kernel_rfl);obtain⟨hb,wh,h5⟩:=ycB Tryz.underlying39 (by simp;omega) h5;obtain⟨_,_,h6⟩:=ycC underEnt h 6 36 37 2 (by kernel_rfl) (by kernel_rfl);obtain⟨st,hst,wst⟩:=ycE underRun h6 0 0 (by kernel_rfl);obtain⟨c,hc,wc⟩:=ycE underRun h6 1 1 (by kernel_rfl);refine⟨⟨k,s,n,l,nm,hb,st,c⟩,⟨wk,ws,wn,wl,wnm,wh,wst,wc⟩,?_⟩
 have hr:(cs.drop 37).take 2=[.int .i64 st,.int .i64 c]:=by
  have e:=chop ((cs.drop 37).take 2) 0 1;have e2:=chop ((cs.drop 37).take 2) 1 1;have e0:(cs.drop 37).take 2=((cs.drop 37).take 2).drop 0:=rfl;rw[e0,e,hst,show 0+1=1 from rfl,e2,hc,List.drop_eq_nil_of_le (by simp;omega)];rfl
 have e0:=chop cs 0 1;have e1:=chop cs 1 1;have e2:=chop cs 2 1;have e3:=chop cs 3 1;have e4:=chop cs 4 1;have e5:=chop cs 5 32;have e6:=chop cs 37 2;have e7:cs.drop 39=[]:=List.drop_eq_nil_of_le (by omega)
 conv=>lhs;rw[←List.drop_zero (l:=cs)]
 rw[e0,hk,show 0+1=1 from rfl,e1,hs,show 1+1=2 from rfl,e2,hn,show 2+1=3 from rfl,e3,hl',show 3+1=4 from rfl,e4,h4,show 4+1=5 from rfl,e5,h5,show 5+32=37 from rfl,e6,hr,show 37+2=39 from rfl,e7];simp[entL,hashL_eq hb wh]
end
theorem ycG:Tryz.prog.underlying 68=some (.struct (Tryz.prog.fieldsOf 68)):=by kernel_rfl
instance:Inhabited Pu:=⟨pu0⟩
instance:Inhabited Rw:=⟨⟨none,0,[]⟩⟩
theorem ycH {H:Type} {enc:TypeId×Value→H} {W:World} {m:Nat} {cs:List Value} {x:DataW H×List MemPlace} (hl:cs.length=40) (h:DataW.trod enc Tryz.prog W 0 (fun _=>true) true m 68 cs=some x):∃q:Pu,q.e.Wf∧cs=puL q:=by
 obtain⟨_,_,h0⟩:=ycC ycG h 0 66 0 39 (by kernel_rfl) (by kernel_rfl);obtain⟨e,we,he⟩:=ycF (by simp;omega) h0;obtain⟨_,_,h1⟩:=ycC ycG h 1 9 39 1 (by kernel_rfl) (by kernel_rfl);obtain⟨t,ht,_,wt⟩:=DataW.trod_string Tryz.underlying9 h1;refine⟨⟨e,t⟩,we,?_⟩;have e0:=chop cs 0 39;have e1:=chop cs 39 1;have e2:cs.drop 40=[]:=List.drop_eq_nil_of_le (by omega)
 conv=>lhs;rw[←List.drop_zero (l:=cs)]
 rw[e0,he,show 0+39=39 from rfl,e1,ht,show 39+1=40 from rfl,e2];rfl
theorem ycI {W:World} {a:Addr} {v:Value} (h:W.cell? a=some v):a.spot=none∧∃C T z,W.heap[a.block]? =some (.cells C T z)∧C[a.off]? =some v:=by
 unfold World.cell? at h;split at h
 ·rename_i C T z hc
  split at h
  ·cases h
  ·rename_i hs
   exact⟨by simpa using hs,C,T,z,hc,h⟩
 ·cases h
theorem ycJ {α:Type} {enc:α→List Value} {k:Nat} [e:Enc enc k] (hk:0<k) {W:World} {T:TypeId} {a:Addr} {n c:Nat} (hn:n≤c) (hb:n≤1000000000) (F:Nat→α) (h:∀i,i<n→∀j,j<k→W.cell? (a.add (i*k+j))=(enc (F i))[j]?):
  RowAt (snap W) T k enc (some a) c ((List.range n).map F) where
 cap:=by simpa using hn
 big:=by simpa using hb
 at_ i hi:=by
  have hi':i<n:=by simpa using hi
  have h0:=h 0 (by omega) 0 hk;rw[Nat.zero_mul,Nat.add_zero,List.getElem?_eq_getElem (by rw[e.len];exact hk)] at h0;have h00:a.add 0=a:=by unfold Addr.add;rw[if_pos rfl]
  rw[h00] at h0;obtain⟨hs,C,Tb,z,hc,_⟩:=ycI h0;obtain⟨g,off,sp⟩:=a;simp only at hs;subst hs;refine⟨g,off,C,Tb,rfl,⟨z,hc⟩,fun j v hj=>?_⟩;simp only[List.getElem_map,List.getElem_range] at hj;have hjk:j<k:=by rw[←e.len (F i)];exact(List.getElem?_eq_some_iff.1 hj).1
  have h1:=h i hi' j hjk;rw[hj,addr_add] at h1;obtain⟨_,C',T',z',hc',hv⟩:=ycI h1;simp only at hc' hv;rw[hc] at hc';injection hc' with hc'
  injection hc' with hc'
  rw[hc',Nat.add_assoc];exact hv
theorem ycK {H:Type} {enc:TypeId×Value→H} {W:World} {m:Nat} {v:Value} {x:DataW H×List MemPlace} (h:DataW.trod enc Tryz.prog W 0 (fun _=>true) true m 62 [v]=some x):
  ∃r:Rw,v=.slice r.p r.l.length r.c∧(r.l.length≤5→RowAt (snap W) 68 40 puL r.p r.c r.l∧∀q∈r.l,q.e.Wf):=by
 have hc:Tryz.prog.cellsOf 68=40:=by kernel_rfl
 rcases Deep.open_slice Tryz.underlying62 h with⟨hcs,_⟩ |⟨a,len,cap,m',n,D,Pl,hcs,_,hl,hm,hmm,_,hx⟩
 ·injection hcs with hcs
  subst hcs;exact⟨⟨none,0,[]⟩,rfl,fun _=>⟨RowAt.nil ..,by simp⟩⟩
 ·injection hcs with hcs
  subst hcs;have hm':m'=cap:=by simpa using hmm
  subst hm'
  by_cases h5:len≤5
  ·rw[hc] at hx
   have each:∀i,i<len→∃q:Pu,q.e.Wf∧∀j (hj:j<40),W.cell? (a.add (i*40+j))=(puL q)[j]? :=fun i hi=>by
    obtain⟨cs',h1,h2⟩:=hx i (by omega);obtain⟨_,hlen,hcell⟩:=World.cells?_some h1;obtain⟨q,we,rfl⟩:=ycH (by simpa using hlen) h2;refine⟨q,we,fun j hj=>?_⟩;have h3:=hcell j (by omega);rw[add_add2 a (i*40) j] at h3;exact h3
   obtain⟨F,hF⟩:=Deep.choose_lt (α:=Pu) (p:=fun i q=>q.e.Wf∧∀j (hj:j<40),W.cell? (a.add (i*40+j))=(puL q)[j]?) each;refine⟨⟨some a,m',(List.range len).map F⟩,by simp,fun _=>⟨ycJ (by decide) hl (by omega) F (fun i hi j hj=>(hF i hi).2 j hj),fun q hq=>?_⟩⟩;obtain⟨i,hi,rfl⟩:=List.mem_map.1 hq;exact(hF i (by simpa using hi)).1
  ·exact⟨⟨some a,m',List.replicate len pu0⟩,by simp,fun h=>absurd (by simpa using h) h5⟩
def ycL (W:World) (p:Option Addr) (c:Nat) (l:List Rw):Prop:=
 (l.length≤6→RowAt (snap W) 62 1 rwL p c l)∧∀r∈l,r.l.length≤5→RowAt (snap W) 68 40 puL r.p r.c r.l∧∀q∈r.l,q.e.Wf
theorem ycM {H:Type} {enc:TypeId×Value→H} {W:World} {base:Nat} {v:Value} {d:DataW H} {p:List MemPlace}
  (hv:Value.okWide Tryz.prog W .any base 22 v) (h:DataW.Trod enc Tryz.prog W 0 (fun _=>true) true 22 v d p):∃q c l,v=.slice q l.length c∧ycL W q c l:=by
 have hc:Tryz.prog.cellsOf 62=1:=by kernel_rfl
 obtain⟨a,len,cap,rfl⟩:=okWide_slice Tryz.underlying22 hv;obtain⟨fuel,hf⟩:=h;rcases Deep.open_slice1 Tryz.underlying22 hc hf with⟨hcs,_⟩ |⟨x,l,c,m,n,V,D,Pl,hcs,_,hl,hm,hmm,_,hx⟩
 ·simp[Value.cells] at hcs
  obtain⟨rfl,rfl,rfl⟩:=hcs;exact⟨none,0,[],rfl,fun _=>RowAt.nil ..,by simp⟩
 ·simp[Value.cells] at hcs
  obtain⟨rfl,rfl,rfl⟩:=hcs;have hm':m=cap:=by simpa using hmm
  subst hm'
  by_cases h6:len≤6
  ·have each:∀i,i<len→∃r:Rw,W.cell? (x.add i)=some (.slice r.p r.l.length r.c)∧(r.l.length≤5→RowAt (snap W) 68 40 puL r.p r.c r.l∧∀q∈r.l,q.e.Wf):=fun i hi=>by
    obtain⟨h1,h2⟩:=hx i (by omega);obtain⟨r,e,hr⟩:=ycK h2;exact⟨r,by rw[h1,e],hr⟩
   obtain⟨F,hF⟩:=Deep.choose_lt (α:=Rw) (p:=fun i r=>W.cell? (x.add i)=some (.slice r.p r.l.length r.c)∧(r.l.length≤5→RowAt (snap W) 68 40 puL r.p r.c r.l∧∀q∈r.l,q.e.Wf)) each;refine⟨some x,m,(List.range len).map F,by simp,fun _=>ycJ (by decide) hl (by omega) F (fun i hi j hj=>?_),fun r hr=>?_⟩
   ·obtain rfl:j=0:=by omega
    rw[Nat.mul_one,Nat.add_zero,(hF i hi).1];rfl
   ·obtain⟨i,hi,rfl⟩:=List.mem_map.1 hr
    exact(hF i (by simpa using hi)).2
  ·exact⟨some x,m,List.replicate len ⟨none,0,[]⟩,by simp,fun h=>absurd (by simpa using h) h6,fun r hr h=>by obtain rfl:=(List.mem_replicate.1 hr).2;exact⟨RowAt.nil ..,by simp⟩⟩
section
variable {H:Type} {enc:TypeId×Value→H} {W:World} {base:Nat} {v:Value} {d:DataW H} {p:List MemPlace}
theorem ycN:Tryz.prog.underlying 116=some (.struct (Tryz.prog.fieldsOf 116)):=by kernel_rfl
theorem u8_of {a:Int} (hw:(Lit.int .u8 a).wf=true):∃c:UInt8,a=(c.toNat:Int):=by
 obtain⟨h0,h1⟩:=bounds_u8 hw;refine⟨UInt8.ofNat a.toNat,?_⟩;have e:(UInt8.ofNat a.toNat).toNat=a.toNat:=by simp;omega
 rw[e];omega
theorem ycO {a:Int} (hw:(Lit.int .u16 a).wf=true):∃c:UInt16,a=(c.toNat:Int):=by
 have e1:IntKind.u16.min=0:=by decide
 have e2:IntKind.u16.max=65535:=by decide
 have hb:0≤a∧a<65536:=by
  simp[Lit.wf] at hw;omega
 refine⟨UInt16.ofNat a.toNat,?_⟩;have e:(UInt16.ofNat a.toNat).toNat=a.toNat:=by simp;omega
 rw[e];omega
theorem ycP {m:Nat} {cs:List Value} {x:DataW H×List MemPlace} (hl:cs.length=4) (h:DataW.trod enc Tryz.prog W 0 (fun _=>true) true m 116 cs=some x):∃q:Ht,cs=htL q:=by
 match cs,hl with
 | [c0,c1,c2,c3],_=>
  obtain⟨_,_,h0⟩:=ycC ycN h 0 114 0 1 (by kernel_rfl) (by kernel_rfl);obtain⟨_,_,h1⟩:=ycC ycN h 1 5 1 1 (by kernel_rfl) (by kernel_rfl);obtain⟨_,_,h2⟩:=ycC ycN h 2 5 2 1 (by kernel_rfl) (by kernel_rfl);obtain⟨_,_,h3⟩:=ycC ycN h 3 5 3 1 (by kernel_rfl) (by kernel_rfl);obtain⟨a0,e0,_,w0⟩:=DataW.trod_int Tryz.underlying114 h0;obtain⟨a1,e1,_,w1⟩:=DataW.trod_int Tryz.underlying5 h1;obtain⟨a2,e2,_,w2⟩:=DataW.trod_int Tryz.underlying5 h2;obtain⟨a3,e3,_,w3⟩:=DataW.trod_int Tryz.underlying5 h3;obtain⟨b0,rfl⟩:=ycO w0;obtain⟨b1,rfl⟩:=u8_of w1;obtain⟨b2,rfl⟩:=u8_of w2;obtain⟨b3,rfl⟩:=u8_of w3;simp at e0 e1 e2 e3;exact⟨⟨b0,b1,b2,b3⟩,by rw[e0,e1,e2,e3];rfl⟩
theorem ycQ (hv:Value.okWide Tryz.prog W .any base 56 v) (h:DataW.Trod enc Tryz.prog W 0 (fun _=>true) true 56 v d p):∃q c l,v=.slice q l.length c∧(l.length≤10→RowAt (snap W) 116 4 htL q c l):=by
 have hc:Tryz.prog.cellsOf 116=4:=by kernel_rfl
 obtain⟨a,len,cap,rfl⟩:=okWide_slice Tryz.underlying56 hv;obtain⟨fuel,hf⟩:=h;rcases Deep.open_slice Tryz.underlying56 hf with⟨hcs,_⟩ |⟨y,l',c',m',n,D,Pl,hcs,_,hl,hm,hmm,_,hx⟩
 ·simp[Value.cells] at hcs
  obtain⟨rfl,rfl,rfl⟩:=hcs;exact⟨none,0,[],rfl,fun _=>RowAt.nil ..⟩
 ·simp[Value.cells] at hcs
  obtain⟨rfl,rfl,rfl⟩:=hcs;have hm':m'=cap:=by simpa using hmm
  subst hm'
  by_cases h10:len≤10
  ·rw[hc] at hx
   have each:∀i,i<len→∃q:Ht,∀j (hj:j<4),W.cell? (y.add (i*4+j))=(htL q)[j]? :=fun i hi=>by
    obtain⟨cs',h1,h2⟩:=hx i (by omega);obtain⟨_,hlen,hcell⟩:=World.cells?_some h1;obtain⟨q,rfl⟩:=ycP (by simpa using hlen) h2;refine⟨q,fun j hj=>?_⟩;have h3:=hcell j (by omega);rw[add_add2 y (i*4) j] at h3;exact h3
   haveI:Inhabited Ht:=⟨⟨0,0,0,0⟩⟩
   obtain⟨F,hF⟩:=Deep.choose_lt (α:=Ht) (p:=fun i q=>∀j (hj:j<4),W.cell? (y.add (i*4+j))=(htL q)[j]?) each;exact⟨some y,m',(List.range len).map F,by simp,fun _=>ycJ (by decide) hl (by omega) F (fun i hi j hj=>hF i hi j hj)⟩
  ·exact⟨some y,m',List.replicate len ⟨0,0,0,0⟩,by simp,fun h=>absurd (by simpa using h) h10⟩
end
end Go.Proofs.YtdkeiefgkgpcbaaGreatDoor
namespace Go.Proofs.YtdkeiefgkgpcbaaGreatDoor
open Go.RowKit
def sumsZ:List Int:=(List.range 16).map fun i=>(sumsT.getD i 0:Int)
def shaZ:List Int:=(List.range 64).map fun i=>((mk32 (shaT.getD i 0)).val:Int)
def shaBZ:List Int:=shaB.map fun x=>(x.val:Int)
theorem laidG {W:World} {l:List (String×DataW Unit)} (hl:l=[("sealingwax/sums.table",Lib.tabData .u32 sumsZ),("sealingwax/sha.table",Lib.tabData .u32 shaZ),("sealingwax/sha.begin",Lib.tabData .u32 shaBZ)]) (h:laidMetH Tryz.prog l W):GSums W∧GSha W∧GBegin W:=by
 subst hl;rw[MakeChecks.laidMetH_plain _ _ _ (by kernel_rfl)] at h;have t1:=Lib.tabIs_of_head (g:=1) (t:=287) (e:=223) (n:=16) (by kernel_rfl) (by kernel_rfl) Tryz.underlying287 Tryz.underlying223 (by kernel_rfl) (by kernel_rfl) h;have t2:=Lib.tabIs_of_head (g:=2) (t:=298) (e:=223) (n:=64) (by kernel_rfl) (by kernel_rfl) Tryz.underlying298 Tryz.underlying223 (by kernel_rfl) (by kernel_rfl) h.tail;have t3:=Lib.tabIs_of_head (g:=0) (t:=238) (e:=223) (n:=8) (by kernel_rfl) (by kernel_rfl) Tryz.underlying238 Tryz.underlying223 (by kernel_rfl) (by kernel_rfl) h.tail.tail;refine⟨⟨fun i hi=>?_⟩,⟨fun i hi=>?_⟩,⟨fun i v hi=>?_⟩⟩
 ·have h1:=t1.cell (g:=1) (by kernel_rfl) i (by simpa[sumsZ] using hi)
  rw[h1];unfold sumsZ;rw[List.getD_eq_getElem?_getD,List.getElem?_map,List.getElem?_range hi];rfl
 ·have h1:=t2.cell (g:=2) (by kernel_rfl) i (by simpa[shaZ] using hi)
  rw[h1];unfold shaZ;rw[List.getD_eq_getElem?_getD,List.getElem?_map,List.getElem?_range hi];rfl
 ·have hi8:i<8:=(List.getElem?_eq_some_iff.1 hi).1
  have h1:=t3.cell (g:=0) (by kernel_rfl) i (show i<shaBZ.length from hi8);rw[h1,←hi];unfold shaBZ;rw[List.getD_eq_getElem?_getD,List.getElem?_map,List.getElem?_map];have h2:shaB[i]? =some shaB[i]:=List.getElem?_eq_getElem hi8;rw[h2];rfl
end Go.Proofs.YtdkeiefgkgpcbaaGreatDoor
namespace Go.Proofs.YtdkeiefgkgpcbaaGreatDoor.mountsTwice
open Go.ChangeShapes Go.WideShapes Go.ChangeAt Go.RowKit
theorem own:ownKnob Tryz.prog.godebug=none:=by kernel_rfl
theorem ycR:laidOutB Tryz.prog=true:=by kernel_rfl
set_option maxRecDepth 100000 in
theorem ycS (os:Os) (started:os.Started) (H:Type) (enc:TypeId×Value→H):
  ReturnsInHanded {} Tryz.checked os 5 .any (fun w args=>(Rows.mountsTwiceSpec.pre enc Tryz.prog Tryz.f5 Rows.mountsTwiceRow.domain false w args∧laidMetH Tryz.prog Rows.mountsTwiceRow.laid w)∧sizedMet enc Tryz.prog Tryz.f5 (OpenSpec.ofChange Rows.mountsTwiceSpec) false w args)
   (Rows.mountsTwiceSpec.post enc Tryz.prog Tryz.f5 false true false false):=by
 refine returnsInHanded_of_change_and (C:=Tryz.checked) (X:=fun w _=>laidMetH Tryz.prog Rows.mountsTwiceRow.laid w) (fun _ _ _ hh h=>h.of_heap hh) own started (by kernel_rfl) Tryz.func5
  (ChangeSpec.witness_shaped (enc:=enc) (C:=Tryz.checked) (os:=os) (X:=fun w _=>laidMetH Tryz.prog Rows.mountsTwiceRow.laid w) false (World.laidAll Tryz.prog os Rows.mountsTwiceRow.laid) #[.slice none 0 0,.slice none 0 0] 8 (World.laidAll_os _ _ _)
   (World.shaped_of_ZipB (by kernel_rfl) (by kernel_rfl)) (by kernel_rfl) (by kernel_rfl) (by kernel_rfl)
   (by rw[MakeChecks.laidMetH_plain _ _ _ (by kernel_rfl)];exact laidMet_laidAll _ (by kernel_rfl) (by kernel_rfl))) ?_
 intro W base args ds gs before hval0 hW hcnd hsz0 hL _;have hval:∀(j:Nat) t v,Tryz.f5.params[j]? =some t→args[j]? =some v→Value.okWide Tryz.prog W .any base t v:=hval0;have hW':=hW;obtain⟨p,q,hA0,hV,rfl,hfz,hnd⟩:=hW;have hA:DataW.TrodAll enc Tryz.prog W 0 (fun _=>true) true Tryz.f5.params.toList args.toList ds p:=hA0;rw[Tryz.params5] at hA hval;obtain⟨v0,vs0,d0,ds0,p0,q0,hargs,rfl,rfl,h0,r0⟩:=trodAll_cons hA;obtain⟨v1,vs1,d1,ds1,p1,q1,rfl,rfl,rfl,h1,r1⟩:=trodAll_cons r0;obtain⟨rfl,rfl,rfl⟩:=trodAll_nil r1;obtain rfl:args=#[v0,v1]:=by cases args;simp_all
 obtain⟨rfl,rfl⟩:=trodVars_none hV;have k0:=h0;have k1:=h1;have lt0:∀x∈p0,x.block<W.heap.size:=by obtain⟨m,hm⟩:=k0;exact DataW.trod_lt m _ _ _ hm
 have lt1:∀x∈p1,x.block<W.heap.size:=by obtain⟨m,hm⟩:=k1;exact DataW.trod_lt m _ _ _ hm
 obtain⟨a,c,l,rfl,hp⟩:=ycM (hval 0 22 v0 rfl rfl) h0;obtain⟨a1,c1,l1,rfl,e1⟩:=ycQ (hval 1 56 v1 rfl rfl) h1;obtain⟨g1,g2,g3⟩:=laidG (by kernel_rfl) hL;clear hA0 hval0 hsz0;refine(ycz W hp.1 (fun r hr h=>(hp.2 r hr h).1) (fun r hr h=>(hp.2 r hr h).2) e1 g1 g3 g2).mono fun e W' ⟨he,bel⟩=>?_
 subst he;exact⟨_,rfl,_,_,_,[],_,[],hW',trodAll_mk1 (shut_bool Tryz.underlying4 _),(trodAll_cons_mk (Below.trod ycR (by kernel_rfl) (of_decide_eq_true (by kernel_rfl)) k0 bel lt0) (trodAll_cons_mk (Below.trod ycR (by kernel_rfl) (of_decide_eq_true (by kernel_rfl)) k1 bel lt1) trodAll_mk0)),rfl,bel.frame _,fun h=>by cases h⟩
theorem over:Rows.mountsTwiceRow.holds Tryz.pinned (OpenSpec.ofChange Rows.mountsTwiceSpec):=
 OpenClaim.holds_of_wide 5 Tryz.f5 rfl rfl rfl rfl rfl rfl rfl ⟨rfl,rfl,rfl,rfl,rfl⟩ rfl rfl rfl rfl rfl (by kernel_rfl) Tryz.func5 (by kernel_rfl)
  (of_decide_eq_true (by kernel_rfl)) (by unfold Func.isWrapper;first|(rw[if_pos (by decide+kernel)];kernel_rfl)|(rw[if_neg (by decide+kernel)];exact⟨rfl,rfl⟩))
  (fun os started H enc _=>ycS os started H enc)
end Go.Proofs.YtdkeiefgkgpcbaaGreatDoor.mountsTwice
namespace Go.Proofs.YtdkeiefgkgpcbaaGreatDoor
theorem mountsTwice_holds:Rows.MountsTwiceCardSaid:=
 Claim7.holds_tied_plain_at .later [] [.data,.data,.data] true (true,"44404d3c6b4dca10751decef35bda2213d51fe443a8c8ec2c31aae5bc50fed4e") true
  mountsTwice.over (fun _ h=>by cases h) (by kernel_rfl) (fun _ h=>by cases h) mountsTwice_row_tie rfl ⟨rfl,rfl⟩ (by kernel_rfl) rfl
  (fun f fn hf hfn=>by
   obtain rfl:f=5:=Option.some.inj ((show Tryz.prog.funcNamed "sealingwax/sealingwaxlaw23.MountsTwice"=some 5 by kernel_rfl).symm.trans hf)|>.symm;obtain rfl:fn=Tryz.f5:=(Option.some.inj (Tryz.func5.symm.trans hfn)).symm
   exact⟨by kernel_rfl,fun j t ht=>by
    rw[Tryz.params5] at ht;have hm:t∈[22,56]:=by simpa using Array.mem_of_getElem? ht
    have hall:([22,56].all fun u=> !Tryz.prog.wantsStandIn u)=true:=by kernel_rfl
    exact(show Tryz.prog.wantsStandIn t=false by simpa using List.all_eq_true.1 hall t hm)⟩)
  (by kernel_rfl)
#print axioms mountsTwice_holds
end Go.Proofs.YtdkeiefgkgpcbaaGreatDoor
