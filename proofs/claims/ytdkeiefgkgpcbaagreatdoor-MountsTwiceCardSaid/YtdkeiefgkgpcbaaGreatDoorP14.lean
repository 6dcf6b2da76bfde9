/- Steps of the proof: DevDo, DevNew. -/
import Derived.Test.YtdkeiefgkgpcbaaGreatDoorP13
set_option linter.unusedVariables false
set_option linter.unusedSimpArgs false
set_option maxRecDepth 100000
namespace Go.Proofs.YtdkeiefgkgpcbaaGreatDoor
open Go.RowKit
theorem Sx.perm {S:List Nat} {w0 w:World} {L L':List Blk} {D:Dat} {F:List Nat} (h:Sx S w0 w L D F) (hp:L.Perm L'):Sx S w0 w L' D F:=
 h.sub (fun p hp'=>hp.mem_iff.2 hp') ((hp.map _).nodup_iff.1 h.st.nodup)
instance oneCac {x:Ac}:OneC (acV x):=⟨by cases x<;>rfl,by cases x<;>rfl⟩
section
variable {ops:Array Oper} {rest:List Oper} {o:Oper} {a:Act} {w:World} {Q:Exit→Act→World→Prop} {S:List Nat} {w0:World} {L:List Blk} {D:Dat} {F:List Nat}
theorem run_bs1d {TS T:TypeId} [sl:SlT TS T] [e:Elt T 1] {v:Value} [ov:OneC v] (w:World):(Instr.buildSlice TS 1 #[(0,v)]).run Tryz.prog w=.ok (.slice (some ⟨w.heap.size,0,none⟩) 1 1) (w.alloc (.cells #[v] T)):=by
 obtain⟨i,z,hi,hz,hs,hb,hzs,hk⟩:=elt_info T 1;have hc:=ov.cells
 have e1:(Array.map (fun x=>z.cells[x%z.cells.size]!) (Array.range 1)).setIfInBounds 0 v=#[v]:=by
  apply Array.ext
  ·simp
  ·intro j h1 h2
   have:j=0:=by simpa using h2
   subst this;simp
 simp[Instr.buildSlice,run_underlying sl.under,sizeOf,typeInfo,hi,hs,zeroValue,hz,Instr.fill,hc,newRow,e1]
theorem xbs1 (hw:Region.wanted o (yielded ops a.tmps)=true) {TS T:TypeId} {y:Operand} (ho:o.op=.buildSlice TS 1 #[(0,y)]) {v:Value} (hy:a.eval y=v) (h:Sx S w0 w L D F) [sl:SlT TS T] [e:Elt T 1] [ov:OneC v]
  (hk:∀(b:Nat) (w':World),Sx S w0 w' ((b,#[v],T)::L) D F→wpList Tryz.prog ops Q rest (a.put o.dst (.slice (some ⟨b,0,none⟩) 1 1)) w'):wpList Tryz.prog ops Q (o::rest) a w:=
 BigFrame.wpList_want hw fun K hK=>by
  unfold Oper.wp execOp;simp only[ho,List.map_toArray,List.map_cons,List.map_nil,hy,Sem.run_bind,run_bs1d,Result.andThen_ok];exact hK _ _ (hk _ _ (h.alloc _ _))
end
def dPut (d:Dv) (x:Ac):Dv:={d with acts:=d.acts++[x],now:=d.now.set x.at_.toNat (doneF x)}
def dDo (d:Dv) (x:Ac):Dv×Int:=
 let f:=dFails d
 let e:=dPut f.1 x
 if f.2 then((dCrash e e.keep).1,43) else(e,0)
theorem doneF_ok (x:Ac) (h:∀a s,x=.write a s→s.size≤1000):(doneF x).Ok:=by
 cases x with
 |write a s=>exact⟨Or.inr (Or.inl rfl),h a s rfl⟩
 |erase a=>exact⟨Or.inr (Or.inr rfl),Nat.zero_le _⟩
theorem dFails_same (d:Dv):(dFails d).1.now=d.now∧(dFails d).1.acts=d.acts∧(dFails d).1.sure=d.sure∧(dFails d).1.off=d.off∧(dFails d).1.keep=d.keep:=by
 unfold dFails;split<;>exact⟨rfl,rfl,rfl,rfl,rfl⟩
instance oneActX:OneT 137:=oneAc
section
variable {ops:Array Oper} {F:Fx.Flow} {Qf:List Blk→Act→Prop} {l:List Nat} {k:Nat} {o:Oper} {L:List Blk} {a:Act} {r:List (Nat×Value)}
theorem Fx.ofc (h0:Fx.nthO ops.toList k=some o) (hs:F.special k=false) {rr:Operand} {ty:Array TypeId} (ho:o.op=.call {callee:=.invoke rr "sealingwax/device.of",args:=#[],argTypes:=ty}) {x:Ac} {j:Int} (hj:x.at_=j) (hx:Fx.evO r a rr=acV x) (hp:F.pure k=true) (hw:Region.wanted o (yielded ops (Fx.mkO r a).tmps)=true) (hk:Fx.wpLX ops F Qf l L (Fx.mkO (Fx.nxt o.dst (.int .i64 j) r) a)):Fx.wpLX ops F Qf (k::l) L (Fx.mkO r a):=by
 refine Fx.stp h0 hs _ (Or.inl ⟨hw,fun w _=>?_⟩) (fun w _=>Or.inl hp) hk;obtain⟨f,C,h1,h2⟩:=of_enter x w;unfold Oper.quietAt;rw[←Fx.evO_eq]
 have e:(execOp (Fx.evO r a) o).run Tryz.prog w=.ok (.enter f C) w:=by
  unfold execOp;simp only[ho,resolve,hx,Sem.run_bind,Sem.run_pure,Result.andThen_ok,List.map_toArray,List.map_nil,invoke];have e:(#[acV x]++#[]:Array Value)=#[acV x]:=rfl;have e2:(#[acV x]:Array Value)[0]? =some (acV x):=rfl;have e3:(#[acV x]:Array Value).extract 1 (#[acV x]:Array Value).size=#[]:=rfl;simp only[e,e2,e3,h1]
 rw[e,←hj];exact⟨rfl,h2⟩
end
section
variable {D:Dat} {F:List Nat} {w:World} {g:Nat} {d:Dv}
set_option maxHeartbeats 2000000 in
theorem ddo_calls (h:DevW D F w g d) (x:Ac) {j:Nat} (hj:x.at_=j) (hjn:j<d.now.length) (hx:∀a s,x=.write a s→s.size≤1000) (hal:d.acts.length<1000000):
  Calls Tryz.prog 79 #[.pointer (some ⟨g,0,none⟩),acV x] w (DevRet (.int .i64 (dDo d x).2) D F w g (dDo d x).1):=by
 have hst:=h.start;have HR:Hid (dDo d x=if(dFails d).2 then((dCrash (dPut (dFails d).1 x) (dPut (dFails d).1 x).keep).1,43) else(dPut (dFails d).1 x,0)):=Lib.hid rfl;have HF:=Lib.hid (dfails_calls h);have hn1:=(dFails_same d).1;have ha1:=(dFails_same d).2.1;rw[←hn1] at hjn;rw[←ha1] at hal;generalize dFails d=fd at*;obtain⟨d1,fb⟩:=fd;simp only at*;clear hn1 ha1;go_enter Tryz.func79,Tryz.ntmps79;go_wp2_with fail;refine callD HF.out hst ?_;clear hst h;intro w' F1 hst hd;obtain⟨q,m,hFq,hst⟩:=hst.openDev hd;simp only[List.append_nil] at hst;have hac:=m.ac;obtain⟨pa,ca,hva⟩:=hac.slice;rw[hva] at hac;have c2:CellAt (devC d1 q) 2 (.slice pa d1.acts.length ca):=⟨by rw[←hva];rfl⟩;have HM:=Lib.hid m;clear m hd hFq HF;unfold devL at hst;have hst:=hst.perm (L':=q.La++[(g,devC d1 q,112),(q.gs,q.Cs,139),(q.gn,q.Cn,139)]) (List.perm_append_comm (l₁:=[(g,devC d1 q,112),(q.gs,q.Cs,139),(q.gn,q.Cn,139)]) (l₂:=q.La));go_wp2_with (first|(with_reducible first|refine x1 rfl rfl rfl hst ?_|(refine xsl rfl rfl rfl rfl hst ?_;clear hst;intro w' hst))|(with_reducible refine xbs1 (T:=137) (v:=acV x) rfl rfl rfl hst ?_;clear hst;intro b w' hst)|(with_reducible refine xap1 (T:=137) rfl _ _ rfl x rfl rfl rfl hst hac rfl (by omega) ?_;clear hst;intro p4 c4 w4 Lo4 hown4 hst));have hst:=hst.perm (List.perm_append_comm (l₂:=[(g,devC d1 {q with va:=.slice p4 (d1.acts.length+1) c4},112),(q.gs,q.Cs,139),(q.gn,q.Cn,139)]));simp only[List.cons_append,List.nil_append] at hst;have hlen:=HM.out.nl;have HZ:=Lib.hid HM.out.ns;have hW:WrAt q.Cn (j*2) 2 (.agg #[.int .i64 (doneF x).st,.string (doneF x).data]) (Go.Proofs.YtdkeiefgkgpcbaaGreatDoor.wr q.Cn (j*2) (bkL (doneF x))):=wrRow _ _ _ _ rfl (encBk.one (doneF x)) (by have:=HZ.out;omega);have HC2:Hid ((Go.Proofs.YtdkeiefgkgpcbaaGreatDoor.wr q.Cn (j*2) (bkL (doneF x))).toList.take ((d1.now.set j (doneF x)).length*2)=(d1.now.set j (doneF x)).flatMap bkL):=Lib.hid (by rw[List.length_set];exact own_set (enc:=bkL) (by decide) HM.out.nt hjn (doneF x));have HDn:=Lib.hid (done_calls x);refine Fx.go (fun i=>i==9) (fun i=> !(i==3)) (fun i=>i==9) (List.range 10) rfl hst (by kernel_rfl) (by kernel_rfl) (by kernel_rfl) (by kernel_rfl) (by kernel_rfl) ?_
 repeat(first|refine Fx.val rfl rfl rfl rfl (Fx.e_mv rfl rfl) ?_|refine Fx.val rfl rfl rfl rfl (Fx.e_nil rfl rfl) ?_|refine Fx.fa rfl rfl rfl rfl rfl rfl ?_|refine Fx.l1 rfl rfl rfl rfl rfl rfl ?_)
 refine Fx.ofc rfl rfl rfl hj rfl rfl rfl ?_
 repeat(refine Fx.val rfl rfl rfl rfl (Fx.e_mv rfl rfl) ?_)
 refine Fx.call rfl rfl HDn.out rfl rfl (fun w=>by kernel_rfl) ?_
 repeat(first|refine Fx.ix rfl rfl rfl rfl rfl rfl rfl (by omega) ?_|refine Fx.stA rfl rfl rfl rfl rfl (Or.inl rfl) ?_)
 clear hst;intro w' hst;simp only[Fx.nxt_some,Fx.nxt_none,Fx.mkO_cons,Fx.mkO_nil,Fx.evO_eq];obtain⟨pk,ck,hvk,hkr⟩:=HM.out.kp
 have HM2:Hid (DevMem D (dPut d1 x) {q with va:=.slice p4 (d1.acts.length+1) c4,La:=Lo4,Cn:=Go.Proofs.YtdkeiefgkgpcbaaGreatDoor.wr q.Cn (j*2) (bkL (doneF x))}):=Lib.hid (by
  have m:=HM.out;have hjt:x.at_.toNat=j:=by rw[hj];rfl
  refine⟨⟨by simp[dPut,m.ok.same],by simp[dPut,m.ok.min],by simp[dPut,m.ok.max],fun a ha=>?_,fun a ha=>?_,m.ok.bsure,fun b hb=>?_,m.ok.left,m.ok.keep⟩,m.sl,m.ss,m.st,by simp[dPut,m.nl],by simp only[wr_size];exact m.ns,?_,hown4,by simp[dPut];omega,m.kp⟩
  ·simp only[dPut,List.length_set]
   rcases List.mem_append.1 ha with h1 |h1
   ·exact m.ok.acts a h1
   ·simp at h1;subst h1;exact⟨j,hj,hjn⟩
  ·rcases List.mem_append.1 ha with h1 |h1
   ·exact m.ok.adat a h1
   ·simp at h1;subst h1;exact hx
  ·rcases List.mem_or_eq_of_mem_set hb with h1 |rfl
   ·exact m.ok.bnow b h1
   ·exact doneF_ok x hx
  ·simp only[dPut,hjt]
   exact HC2.out)
 have HL2:Hid ((g,devC d1 {q with va:=.slice p4 (d1.acts.length+1) c4},112)::(q.gs,q.Cs,139)::(q.gn,Go.Proofs.YtdkeiefgkgpcbaaGreatDoor.wr q.Cn (j*2) (bkL (doneF x)),139)::Lo4=devL g (dPut d1 x) {q with va:=.slice p4 (d1.acts.length+1) c4,La:=Lo4,Cn:=Go.Proofs.YtdkeiefgkgpcbaaGreatDoor.wr q.Cn (j*2) (bkL (doneF x))}):=Lib.hid (by simp[devL,devC,dPut]);have HKI:=Lib.hid HM2.out.ok.keep
 cases fb
 ·go_wp2_with fail
  go_ret;have HR2:dDo d x=(dPut d1 x,0):=by rw[HR.out];exact if_neg (by simp)
  rw[HR2];obtain⟨F',h1,h2,h3⟩:=Sx.closeDev0 hst HM2.out HL2.out;exact⟨rfl,F',h1,h2,h3⟩
 ·have c6:CellAt (devC d1 {q with va:=.slice p4 (d1.acts.length+1) c4}) 6 (.slice pk d1.keep.length ck):=⟨by rw[←hvk];rfl⟩
  clear hvk;go_wp2_with (with_reducible refine x1 rfl rfl rfl hst ?_);obtain⟨F',h1,h2,h3,hst⟩:=Sx.closeDev (L:=[]) (by simpa using hst) HM2.out HL2.out;refine callD (dcrash_calls h1 hkr HKI.out) hst ?_;clear hst;intro w5 F5 hst hd;go_wp2_with fail;go_ret;have HR2:dDo d x=((dCrash (dPut d1 x) (dPut d1 x).keep).1,43):=by rw[HR.out];simp
  rw[HR2];exact⟨rfl,F5,hd,hst.endF,hst.fS⟩
def dWrite (d:Dv) (i:Int) (s:ByteArray):Dv×Int:=
 if dBlock d i≠0 then(d,dBlock d i) else if s.size≠128 then(d,2) else if dState d i=1 then(d,40) else if dState d i=2 then(d,42) else dDo d (.write i s)
def dErase (d:Dv) (i:Int):Dv×Int:=
 if dBlock d i≠0 then(d,dBlock d i) else if dState d i=0 then(d,41) else if dState d i=2 then(d,0) else dDo d (.erase i)
theorem dBlock_zero {d:Dv} {i:Int} (hb:dBlock d i=0):∃k:Nat,i=k∧k<d.now.length:=by
 have hs:¬dState d i<0:=fun h1=>by
  unfold dBlock at hb;split at hb
  ·omega
  ·rename_i h2;exact h2 ⟨hb,h1⟩
 unfold dState at hs;split at hs
 ·omega
 ·exact⟨i.toNat,by omega,by omega⟩
set_option maxHeartbeats 1000000 in
theorem dwrite_calls (h:DevW D F w g d) (i:Int) (s:ByteArray) (hs:s.size≤100000) (hal:d.acts.length<1000000):
  Calls Tryz.prog 36 #[.pointer (some ⟨g,0,none⟩),.int .i64 i,.string s] w (DevRet (.int .i64 (dWrite d i s).2) D F w g (dWrite d i s).1):=by
 have hst:=h.start;have hd:=h;have HB:=Lib.hid (fun w (hd:DevW D F w g d)=>dblock_calls hd i);have HS:=Lib.hid (fun w (hd:DevW D F w g d)=>dstate_calls hd i);clear h
 have fin:∀(r:Dv×Int),dWrite d i s=r→(∃e,r=(d,e)∧((dBlock d i≠0∧e=dBlock d i)∨(dBlock d i=0∧((s.size≠128∧e=2)∨(s.size=128∧(dState d i=1∧e=40∨dState d i=2∧e=42))))))∨(dBlock d i=0∧s.size=128∧¬dState d i=1∧¬dState d i=2∧r=dDo d (.write i s)):=by
  rintro r rfl;unfold dWrite
  by_cases h1:dBlock d i=0
  ·by_cases h2:s.size=128
   ·by_cases h3:dState d i=1
    ·left;exact⟨40,by simp[h1,h2,h3],by simp[h1,h2,h3]⟩
    ·by_cases h4:dState d i=2
     ·left;exact⟨42,by simp[h1,h2,h4],by simp[h1,h2,h4]⟩
     ·right;simp[h1,h2,h3,h4]
   ·left;exact⟨2,by simp[h1,h2],by simp[h1,h2]⟩
  ·left;exact⟨dBlock d i,by simp[h1],by simp[h1]⟩
 rcases fin _ rfl with⟨e,hr,hc⟩ |⟨h1,h2,h3,h4,hr⟩
 ·have HR:=Lib.hid hr
  clear fin hr;rcases hc with⟨h1,rfl⟩ |⟨h1,⟨h2,rfl⟩ |⟨h2,⟨h3,rfl⟩ |⟨h3,rfl⟩⟩⟩
  ·have hne:(dBlock d i !=0)=true:=by simpa using h1
   generalize dBlock d i=e at*;generalize dState d i=y at*;clear h1;go_enter Tryz.func36,Tryz.ntmps36;go_wp2_with (first|(with_reducible (refine callR (HB.out _ hd) hst hd ?_;clear hst hd;intro w' hst hd))|(with_reducible (refine callR (HS.out _ hd) hst hd ?_;clear hst hd;intro w' hst hd)));go_ret;rw[HR.out];exact⟨rfl,F,hd,hst.endF,fun x hx=>Or.inl hx⟩
  ·rw[h1] at HB
   generalize dState d i=y at*;have hne:((s.size:Int) !=128)=true:=by simp;omega
   clear h1 h2;go_enter Tryz.func36,Tryz.ntmps36;go_wp2_with (first|(with_reducible (refine callR (HB.out _ hd) hst hd ?_;clear hst hd;intro w' hst hd))|(with_reducible (refine callR (HS.out _ hd) hst hd ?_;clear hst hd;intro w' hst hd)));go_ret;rw[HR.out];exact⟨rfl,F,hd,hst.endF,fun x hx=>Or.inl hx⟩
  all_goals
   rw[h1] at HB;rw[h3] at HS;have hne:((s.size:Int) !=128)=false:=by simp;omega
   clear h1 h2 h3;go_enter Tryz.func36,Tryz.ntmps36;go_wp2_with (first|(with_reducible (refine callR (HB.out _ hd) hst hd ?_;clear hst hd;intro w' hst hd))|(with_reducible (refine callR (HS.out _ hd) hst hd ?_;clear hst hd;intro w' hst hd)));go_ret;rw[HR.out];exact⟨rfl,F,hd,hst.endF,fun x hx=>Or.inl hx⟩
 ·obtain⟨k,rfl,hk⟩:=dBlock_zero h1
  have HR:=Lib.hid hr;rw[h1] at HB;have hne:((s.size:Int) !=128)=false:=by simp;omega
  have hne1:(dState d k==1)=false:=by simpa using h3
  have hne2:(dState d k==2)=false:=by simpa using h4
  have HD:=Lib.hid (fun w (hd:DevW D F w g d)=>ddo_calls hd (.write k s) (j:=k) rfl hk (fun a t e=>by cases e;omega) hal);generalize dState d k=y at*;clear h1 h2 h3 h4 fin hr;go_enter Tryz.func36,Tryz.ntmps36;go_wp2_with (first|(with_reducible (refine callR (HB.out _ hd) hst hd ?_;clear hst hd;intro w' hst hd))|(with_reducible (refine callR (HS.out _ hd) hst hd ?_;clear hst hd;intro w' hst hd))|(with_reducible (refine callR (strclone_calls s (by omega) _) hst hd ?_;clear hst hd;intro w' hst hd))|(with_reducible refine xval rfl 33 rfl (.agg #[.int .i64 (k:Int),.string s]) (fun w=>by kernel_rfl) ?_)|(with_reducible refine xval rfl 34 rfl (.iface 171 (.agg #[.int .i64 (k:Int),.string s])) (fun w=>by kernel_rfl) ?_));refine callD (HD.out _ hd) hst ?_;clear hst hd;intro w5 F5 hst hd;go_wp2_with fail;go_ret;rw[HR.out];exact⟨rfl,F5,hd,hst.endF,hst.fS⟩
set_option maxHeartbeats 1000000 in
theorem derase_calls (h:DevW D F w g d) (i:Int) (hal:d.acts.length<1000000):
  Calls Tryz.prog 37 #[.pointer (some ⟨g,0,none⟩),.int .i64 i] w (DevRet (.int .i64 (dErase d i).2) D F w g (dErase d i).1):=by
 have hst:=h.start;have hd:=h;have HB:=Lib.hid (fun w (hd:DevW D F w g d)=>dblock_calls hd i);have HS:=Lib.hid (fun w (hd:DevW D F w g d)=>dstate_calls hd i);clear h
 have fin:∀(r:Dv×Int),dErase d i=r→(∃e,r=(d,e)∧((dBlock d i≠0∧e=dBlock d i)∨(dBlock d i=0∧(dState d i=0∧e=41∨dState d i=2∧e=0))))∨(dBlock d i=0∧¬dState d i=0∧¬dState d i=2∧r=dDo d (.erase i)):=by
  rintro r rfl;unfold dErase
  by_cases h1:dBlock d i=0
  ·by_cases h3:dState d i=0
   ·left;exact⟨41,by simp[h1,h3],by simp[h1,h3]⟩
   ·by_cases h4:dState d i=2
    ·left;exact⟨0,by simp[h1,h4],by simp[h1,h4]⟩
    ·right;simp[h1,h3,h4]
  ·left;exact⟨dBlock d i,by simp[h1],by simp[h1]⟩
 rcases fin _ rfl with⟨e,hr,hc⟩ |⟨h1,h3,h4,hr⟩
 ·have HR:=Lib.hid hr
  clear fin hr;rcases hc with⟨h1,rfl⟩ |⟨h1,⟨h3,rfl⟩ |⟨h3,rfl⟩⟩
  ·have hne:(dBlock d i !=0)=true:=by simpa using h1
   generalize dBlock d i=e at*;generalize dState d i=y at*;clear h1;go_enter Tryz.func37,Tryz.ntmps37;go_wp2_with (first|(with_reducible (refine callR (HB.out _ hd) hst hd ?_;clear hst hd;intro w' hst hd))|(with_reducible (refine callR (HS.out _ hd) hst hd ?_;clear hst hd;intro w' hst hd)));go_ret;rw[HR.out];exact⟨rfl,F,hd,hst.endF,fun x hx=>Or.inl hx⟩
  all_goals
   rw[h1] at HB;rw[h3] at HS;clear h1 h3;go_enter Tryz.func37,Tryz.ntmps37;go_wp2_with (first|(with_reducible (refine callR (HB.out _ hd) hst hd ?_;clear hst hd;intro w' hst hd))|(with_reducible (refine callR (HS.out _ hd) hst hd ?_;clear hst hd;intro w' hst hd)));go_ret;rw[HR.out];exact⟨rfl,F,hd,hst.endF,fun x hx=>Or.inl hx⟩
 ·obtain⟨k,rfl,hk⟩:=dBlock_zero h1
  have HR:=Lib.hid hr;rw[h1] at HB;have hne1:(dState d k==0)=false:=by simpa using h3
  have hne2:(dState d k==2)=false:=by simpa using h4
  have HD:=Lib.hid (fun w (hd:DevW D F w g d)=>ddo_calls hd (.erase k) (j:=k) rfl hk (fun a t e=>by cases e) hal);generalize dState d k=y at*;clear h1 h3 h4 fin hr;go_enter Tryz.func37,Tryz.ntmps37;go_wp2_with (first|(with_reducible (refine callR (HB.out _ hd) hst hd ?_;clear hst hd;intro w' hst hd))|(with_reducible (refine callR (HS.out _ hd) hst hd ?_;clear hst hd;intro w' hst hd))|(with_reducible refine xval rfl 25 rfl (.iface 172 (.int .i64 (k:Int))) (fun w=>by kernel_rfl) ?_));refine callD (HD.out _ hd) hst ?_;clear hst hd;intro w5 F5 hst hd;go_wp2_with fail;go_ret;rw[HR.out];exact⟨rfl,F5,hd,hst.endF,hst.fS⟩
def dFlush (d:Dv):Dv×Int:=
 if dOn d≠0 then(d,dOn d) else
 let f:=dFails d
 if f.2 then((dCrash f.1 f.1.keep).1,43) else({f.1 with sure:=f.1.now,acts:=[]},0)
set_option maxHeartbeats 2000000 in
theorem dflush_calls (h:DevW D F w g d):
  Calls Tryz.prog 38 #[.pointer (some ⟨g,0,none⟩)] w (DevRet (.int .i64 (dFlush d).2) D F w g (dFlush d).1):=by
 have hst:=h.start;have hd:=h;have HO:=Lib.hid (fun w (hd:DevW D F w g d)=>don_calls hd);clear h
 by_cases hon:dOn d=0
 case neg=>
  have HR:Hid (dFlush d=(d,dOn d)):=Lib.hid (if_pos hon);have hne:(dOn d !=0)=true:=by simpa using hon
  generalize dOn d=x at*;clear hon;go_enter Tryz.func38,Tryz.ntmps38;go_wp2_with (first|(with_reducible (refine callR (HO.out _ hd) hst hd ?_;clear hst hd;intro w' hst hd)));go_ret;rw[HR.out];exact⟨rfl,F,hd,hst.endF,fun x hx=>Or.inl hx⟩
 case pos=>
  have HR:Hid (dFlush d=if(dFails d).2 then((dCrash (dFails d).1 (dFails d).1.keep).1,43) else({(dFails d).1 with sure:=(dFails d).1.now,acts:=[]},0)):=Lib.hid (by unfold dFlush;rw[if_neg (by simp[hon])]);have HF:=Lib.hid (fun w (hd:DevW D F w g d)=>dfails_calls hd);rw[hon] at HO;generalize dFails d=fd at*;obtain⟨d1,fb⟩:=fd;simp only at*;clear hon;go_enter Tryz.func38,Tryz.ntmps38;go_wp2_with (first|(with_reducible (refine callR (HO.out _ hd) hst hd ?_;clear hst hd;intro w' hst hd)));refine callD (HF.out _ hd) hst ?_;clear hst hd;intro w' F1 hst hd;have hd1:=hd;obtain⟨q,m,hFq,hst⟩:=hst.openDev hd;simp only[List.append_nil] at hst;obtain⟨pk,ck,hvk,hkr⟩:=m.kp;have HKI:=Lib.hid m.ok.keep;have HM:=Lib.hid m;clear m;unfold devL at hst
  cases fb
  ·have hl1:=HM.out.ok.same
   have HNT:=Lib.hid HM.out.nt;have HCD:Hid (d1.now.length*2≤q.Cs.size):=Lib.hid (by have:=HM.out.ss;have:=HM.out.sl;omega);clear hvk hFq hd hd1;go_wp2_with fail;refine Fx.go (fun i=>i==8) (fun i=> !(i==3||i==7)) (fun i=>i==8) (List.range 9) rfl hst (by kernel_rfl) (by kernel_rfl) (by kernel_rfl) (by kernel_rfl) (by kernel_rfl) ?_
   repeat(first|refine Fx.val rfl rfl rfl rfl (Fx.e_mv rfl rfl) ?_|refine Fx.val rfl rfl rfl rfl (Fx.e_nil rfl rfl) ?_|refine Fx.fa rfl rfl rfl rfl rfl rfl ?_|refine Fx.l1 rfl rfl rfl rfl rfl rfl ?_)
   refine Fx.cpy (enc:=bkL) rfl rfl rfl d1.now rfl rfl hl1 rfl HNT.out HCD.out rfl ?_;clear hst;intro w' hst;simp only[Fx.nxt_some,Fx.nxt_none,Fx.mkO_cons,Fx.mkO_nil,Fx.evO_eq];go_wp2_with (with_reducible (refine xsl rfl rfl rfl rfl hst ?_;clear hst;intro w' hst));go_ret;have HR2:dFlush d=({d1 with sure:=d1.now,acts:=[]},0):=by rw[HR.out];simp
   rw[HR2];have m:=HM.out;obtain⟨F',h1,h2,h3⟩:=Sx.closeDev0 (g:=g) (d:={d1 with sure:=d1.now,acts:=[]}) (q:={q with Cs:=Go.Proofs.YtdkeiefgkgpcbaaGreatDoor.wr q.Cs 0 (d1.now.flatMap bkL),va:=.slice none 0 0,La:=[]}) hst.three
    ⟨⟨rfl,m.ok.min,m.ok.max,fun a ha=>by simp at ha,fun a ha=>by simp at ha,m.ok.bnow,m.ok.bnow,m.ok.left,m.ok.keep⟩,by simp only;rw[←hl1];exact m.sl,by simp only;rw[wr_size];exact m.ss,by
     have:=wr_zero_take (C:=q.Cs) (d1.now.flatMap bkL) (by rw[rows_length (k:=2)];exact HCD.out)
     rwa [rows_length (k:=2)] at this,m.nl,m.ns,m.nt,OwnR.none _,by simp,m.kp⟩ (by simp only[devL,devC,hl1])
   exact⟨rfl,F',h1,h2,h3⟩
  ·have c6:CellAt (devC d1 q) 6 (.slice pk d1.keep.length ck):=⟨by rw[←hvk];rfl⟩
   have HL2:Hid (devL g d1 q=devL g d1 q):=Lib.hid rfl;clear hvk hFq hd;go_wp2_with (with_reducible refine x1 rfl rfl rfl hst ?_);obtain⟨F',h1,h2,h3,hst⟩:=Sx.closeDev (g:=g) (L:=[]) (L1:=devL g d1 q) (by rw[List.append_nil];exact hst) HM.out rfl;refine callD (dcrash_calls h1 hkr HKI.out) hst ?_;clear hst;intro w5 F5 hst hd;go_wp2_with fail;go_ret;have HR2:dFlush d=((dCrash d1 d1.keep).1,43):=by rw[HR.out];simp
   rw[HR2];exact⟨rfl,F5,hd,hst.endF,hst.fS⟩
end
end Go.Proofs.YtdkeiefgkgpcbaaGreatDoor
namespace Go.Proofs.YtdkeiefgkgpcbaaGreatDoor
open Go.RowKit
theorem cloneBk_calls {D:Dat} {p:Option Addr} {c:Nat} {l:List Bk} (h:RowAt D 139 2 bkL p c l) (w:World) (hD:Holds D w):Calls Tryz.prog 94 #[.slice p l.length c] w fun e w'=>∃v Lo,e=.returned v∧OwnR 139 2 bkL Lo v l∧St [] w w' Lo:=by
 have hbig:=h.big
 cases p with
 |none=>
  obtain rfl:l=[]:=h.nil_of rfl;go_enter Tryz.func94,Tryz.ntmps94;go_wp2_with (refine xval rfl 4 rfl (.bool true) (fun w=>by kernel_rfl) ?_);go_ret;exact⟨_,[],rfl,OwnR.none _,(Sx.startN w).st⟩
 |some ad=>
  have hst:=Sx.start0 w hD;have hsrc:∀w',Holds D w'→Src w' bkL (.slice (some ad) l.length c) l:=fun w' hw=>RowD.src ⟨_,_,rfl,h⟩ hw (by decide)
  go_enter Tryz.func94,Tryz.ntmps94;go_wp2_with (first|(with_reducible refine xval rfl 4 rfl (.bool false) (fun w=>by kernel_rfl) ?_)|(with_reducible refine xmk rfl 5 rfl hst #[] 139 (fun b=>.slice (some ⟨b,0,none⟩) 0 0) (fun w=>by kernel_rfl) ?_;clear hst;intro b w' hst)|(with_reducible refine xap0 (T:=139) (TS:=104) rfl rfl rfl hst (hsrc _ hst.data) rfl hbig ?_;clear hst;intro p2 c2 w2 Lo hown hst));go_ret;exact⟨_,Lo,rfl,hown,hst.takeL.st⟩
theorem madeRows {α:Type} {enc:α→List Value} {k:Nat} [e:Enc enc k] (hk:0<k) (x:α) (z:Value) (hz:z.cells=(enc x).toArray) (n:Nat):madeCells z.cells (n*k)=((List.replicate n x).flatMap enc).toArray:=by
 apply Array.ext
 ·rw[size_madeCells,List.size_toArray,rows_length (k:=k),List.length_replicate]
 ·intro j h1 h2
  rw[size_madeCells] at h1;have hq:j / k<n:=Nat.div_lt_of_lt_mul (by rw[Nat.mul_comm];exact h1);have hr:j%k<k:=Nat.mod_lt _ hk;have hjk:j / k*k+j%k=j:=Nat.div_add_mod' j k;have:=rows_at (enc:=enc) (List.replicate n x) (j / k) (by simpa using hq) (j%k) hr;rw[hjk] at this;have h3:((List.replicate n x).flatMap enc)[j]? =some (((List.replicate n x).flatMap enc).toArray[j]'h2):=by simp
  have hl:(enc x).length=k:=e.len x;rw[h3,List.getElem_replicate,List.getElem?_eq_getElem (by omega)] at this;injection this with this
  rw[this];simp only[madeCells,Array.getElem_map,Array.getElem_range,hz,List.size_toArray,hl];rw[getElem!_pos _ _ (by simp[hl,hr])];simp
section
variable {ops:Array Oper} {rest:List Oper} {o:Oper} {a:Act} {w:World} {Q:Exit→Act→World→Prop} {S:List Nat} {w0:World} {L:List Blk} {D:Dat} {F:List Nat} {α:Type} {enc:α→List Value} {k:Nat} {T TS:TypeId}
theorem xmake (hw:Region.wanted o (yielded ops a.tmps)=true) {x y:Operand} (ho:o.op=.makeSlice TS x y) {n:Nat} (hx:a.eval x=.int .i64 (n:Int)) (hy:a.eval y=.int .i64 (n:Int)) (h:Sx S w0 w L D F) [sl:SlT TS T] [e:Elt T k] [en:Enc enc k] (hn:n≤1000000000) (x0:α) (hz:∀i z,Tryz.prog.info? T=some i→i.zero=some z→z.cells=(enc x0).toArray)
  (hk:∀(b:Nat) (w':World),Sx S w0 w' ((b,((List.replicate n x0).flatMap enc).toArray,T)::L) D F→wpList Tryz.prog ops Q rest (a.put o.dst (.slice (some ⟨b,0,none⟩) n n)) w'):wpList Tryz.prog ops Q (o::rest) a w:=
 BigFrame.wpList_want hw fun K hK=>by
  obtain⟨i,z,hi,hzz,hs,hb,hzs,hk0⟩:=elt_info T k;have hbn:i.bytes*n≤10000*1000000000:=Nat.mul_le_mul hb hn
  have hbi:(i.bytes:Int)*(n:Int)≤281474976710656:=by
   have h1:((i.bytes*n:Nat):Int)≤281474976710656:=by omega
   rwa [Int.natCast_mul] at h1
  have hr:=run_make (P:=Tryz.prog) w TS T i z sl.under hi hzz .i64 .i64 n n (by omega) (by omega) hbi (by omega);rw[hs,show((n:Int)).toNat=n from rfl,madeRows (enc:=enc) hk0 x0 z (hz i z hi hzz)] at hr;unfold Oper.wp execOp;simp only[ho,hx,hy,Sem.run_bind,hr,Result.andThen_ok];exact hK _ _ (hk _ _ (h.alloc _ _))
end
def NewDev (D:Dat) (d:Dv) (w:World) (e:Ending) (w':World):Prop:=∃g F,e=.returned (.pointer (some ⟨g,0,none⟩))∧DevW D F w' g d∧Below w.heap.size w w'∧∀x∈F,w.heap.size≤x
def dvOf (l:List Bk):Dv:=⟨l,l,[],false,0,-1,[]⟩
set_option maxHeartbeats 1000000 in
theorem devof_calls {D:Dat} {p:Option Addr} {c:Nat} {l:List Bk} (h:RowAt D 139 2 bkL p c l) (h4:4≤l.length) (h5:l.length≤512) (hok:∀b∈l,b.Ok) (w:World) (hD:Holds D w):Calls Tryz.prog 49 #[.slice p l.length c] w (NewDev D (dvOf l) w):=by
 have hst:=Sx.start0 w hD;have HC:=Lib.hid (fun w hD=>cloneBk_calls h w hD);go_enter Tryz.func49,Tryz.ntmps49;go_wp2_with fail;refine(HC.out _ hst.data).mono ?_;rintro e w1 ⟨v1,L1,rfl,hown1,hs1⟩;have hst:=hst.take hs1;clear hs1;go_wp2_with fail;refine(HC.out _ hst.data).mono ?_;rintro e w2 ⟨v2,L2,rfl,hown2,hs2⟩;have hst:=hst.take hs2;clear hs2;rcases hown1 with⟨_,_,h0⟩ |⟨gs,cs,Cs,rfl,rfl,s1,s2,s3,s4⟩
 ·rw[h0] at h4;simp at h4
 rcases hown2 with⟨_,_,h0⟩ |⟨gn,cn,Cn,rfl,rfl,n1,n2,n3,n4⟩
 ·rw[h0] at h4;simp at h4
 simp only[List.cons_append,List.nil_append] at hst;go_wp2_with (first|(with_reducible (refine xba rfl rfl hst rfl ?_;clear hst;intro bb w' hst))|(with_reducible refine xval rfl 7 rfl (.agg #[.slice (some ⟨gs,0,none⟩) l.length cs,.slice (some ⟨gn,0,none⟩) l.length cn,.slice none 0 0,.bool false,.int .i64 0,.int .i64 (-1),.slice none 0 0]) (fun w=>by kernel_rfl) ?_));go_ret;have hst:=hst.perm ((List.Perm.swap _ _ _).cons _);obtain⟨F',h1,h2,h3⟩:=Sx.closeDev0 (g:=bb) (d:=dvOf l) (q:=⟨gs,cs,Cs,gn,cn,Cn,.slice none 0 0,[],.slice none 0 0⟩) hst
  ⟨⟨rfl,h4,h5,fun a ha=>by simp[dvOf] at ha,fun a ha=>by simp[dvOf] at ha,hok,hok,by unfold I64 dvOf;simp only;omega,fun x hx=>by simp[dvOf] at hx⟩,s1,s3,s4,n1,n3,n4,OwnR.none _,by simp[dvOf],RowD.nil ..⟩ rfl
 exact⟨bb,F',rfl,h1,hst.end,fun x hx=>by rcases h3 x hx with h |h;simp at h;exact h⟩
def NewDev2 (D:Dat) (d:Dv) (w:World) (e:Ending) (w':World):Prop:=∃g F,e=.returned (.tuple #[.pointer (some ⟨g,0,none⟩),.int .i64 0])∧DevW D F w' g d∧Below w.heap.size w w'∧∀x∈F,w.heap.size≤x
set_option maxHeartbeats 1000000 in
theorem dnew_calls {D:Dat} (n:Nat) (h4:4≤n) (h5:n≤512) (w:World) (hD:Holds D w):Calls Tryz.prog 21 #[.int .i64 n] w (NewDev2 D (dvOf (List.replicate n b0)) w):=by
 have hst:=Sx.start0 w hD
 have HZ:Hid (∀i z,Tryz.prog.info? 139=some i→i.zero=some z→z.cells=(bkL b0).toArray):=Lib.hid (fun i z hi hz=>by
  obtain⟨i',h1,h2,_⟩:=info_parts (P:=Tryz.prog) (e:=139) (z:=.agg #[.int .i64 0,.string ⟨#[]⟩]) (size:=2) (bytes:=24) (by kernel_rfl);rw[hi] at h1
  cases h1
  rw[hz] at h2
  cases h2
  rfl)
 have h1:(4:Int)≤(n:Int):=by omega
 have h2:(n:Int)≤512:=by omega
 go_enter Tryz.func21,Tryz.ntmps21;go_wp2_with (first|fail |(with_reducible refine xmake (T:=139) (enc:=bkL) rfl rfl rfl rfl hst (by omega) b0 HZ.out ?_;clear hst;intro b w' hst));have hsz:=hst.size;have hst:=Sx.lay (L1:=[(b,((List.replicate n b0).flatMap bkL).toArray,139)]) (L2:=[]) hst;have hrow:RowAt (fun p=>D p∨p∈[(b,((List.replicate n b0).flatMap bkL).toArray,139)]) 139 2 bkL (some ⟨b,0,none⟩) n (List.replicate n b0):=RowAt.ofBlock (C:=((List.replicate n b0).flatMap bkL).toArray) (Or.inr (by simp)) (by simp) (by simp;omega) (by rw[List.take_of_length_le (by simp[rows_length (k:=2)])]);have hl:(List.replicate n b0).length=n:=List.length_replicate;have HC:=Lib.hid (devof_calls hrow (by omega) (by omega) (fun b hb=>by rw[List.eq_of_mem_replicate hb];exact⟨Or.inl rfl,by decide⟩) w' hst.data);rw[hl] at HC;refine HC.out.mono ?_;rintro e w2 ⟨g,F',rfl,hd,hb,hF⟩;have hst:=hst.below hb;go_wp2_with fail;go_ret2;obtain⟨q,m,e1,e2,e3⟩:=hd.mem;obtain⟨pk,ck,hvk,_⟩:=m.kp;exact⟨g,F',rfl,⟨fun p hp=>hd.data p (Or.inl hp),fun x hx p hp=>hd.apart x hx p (Or.inl hp),q,⟨m.ok,m.sl,m.ss,m.st,m.nl,m.ns,m.nt,m.ac,m.al,by rw[hvk];exact RowD.nil ..⟩,e1,e2,e3⟩,hst.end,fun x hx=>Nat.le_trans hsz (hF x hx)⟩
end Go.Proofs.YtdkeiefgkgpcbaaGreatDoor
