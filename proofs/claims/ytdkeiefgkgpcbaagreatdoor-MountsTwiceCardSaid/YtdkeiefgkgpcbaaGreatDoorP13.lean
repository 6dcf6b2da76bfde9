/- Steps of the proof: DevRead, Clone, DevMut, Torn, Crash. -/
import Derived.Shelf.Strconv.Clone
import Derived.Test.YtdkeiefgkgpcbaaGreatDoorP12
set_option linter.unusedVariables false
set_option linter.unusedSimpArgs false
set_option maxRecDepth 100000
namespace Go.Proofs.YtdkeiefgkgpcbaaGreatDoor
open Go.RowKit
theorem ret_intx {k:IntKind} {a b:Int} (h:a=b):Ending.returned (.int k a)=.returned (.int k b):=by rw[h]
section
variable {D:Dat} {F:List Nat} {w:World} {g:Nat} {d:Dv}
theorem don_calls (h:DevW D F w g d):Calls Tryz.prog 42 #[.pointer (some ⟨g,0,none⟩)] w (Ret (.int .i64 (dOn d)) w):=by
 obtain⟨D2,q,hD,_,h0,_,_,_⟩:=h.ro;have HL:=Lib.hid (fun w' (hb:Below w.heap.size w w')=>dlen_calls (h.below hb));have hst:=Sx.start0 w hD;have hmin:=h.ok.min;have e1:LdD D2 4 ⟨g,3,none⟩ (.bool d.off):=ldC h0 rfl;unfold dOn;generalize d.off=o at*;go_enter Tryz.func42,Tryz.ntmps42;go_wp2_with (first|(with_reducible refine xd rfl rfl rfl hst ?_)|(with_reducible (refine callB (HL.out _ hst.end) hst ?_;clear hst;intro w' hst)))
 all_goals
  go_ret;exact⟨by simp[*],hst.end⟩
theorem dup_calls (h:DevW D F w g d):Calls Tryz.prog 17 #[.pointer (some ⟨g,0,none⟩)] w (Ret (.bool (!d.off)) w):=by
 have hst:=Sx.start0 w h.data;have HO:=Lib.hid (don_calls h);have HE:Hid ((dOn d==0)= !d.off):=Lib.hid (by unfold dOn;cases d.off<;>rfl);generalize dOn d=x at*;go_enter Tryz.func17,Tryz.ntmps17;go_wp2_with (first|fail |(with_reducible (refine callB HO.out hst ?_;clear hst;intro w' hst)));go_ret;refine⟨?_,hst.end⟩;rw[←HE.out];rfl
theorem dblock_calls (h:DevW D F w g d) (i:Int):Calls Tryz.prog 78 #[.pointer (some ⟨g,0,none⟩),.int .i64 i] w (Ret (.int .i64 (dBlock d i)) w):=by
 have hst:=Sx.start0 w h.data;have HO:=Lib.hid (don_calls h);have HS:=Lib.hid (fun w' (hb:Below w.heap.size w w')=>dstate_calls (h.below hb) i);unfold dBlock;generalize dOn d=x at*;generalize dState d i=y at*;go_enter Tryz.func78,Tryz.ntmps78;go_wp2_with (first|fail |(with_reducible (refine callB HO.out hst ?_;clear hst;intro w' hst))|(with_reducible (refine callB (HS.out _ hst.end) hst ?_;clear hst;intro w' hst)))
 all_goals
  go_ret;refine⟨?_,hst.end⟩;refine ret_intx ?_
  simp_all
 all_goals omega
theorem dread_calls (h:DevW D F w g d) (i:Int):Calls Tryz.prog 45 #[.pointer (some ⟨g,0,none⟩),.int .i64 i] w (Ret (.tuple #[.string (dRead d i).1,.int .i64 (dRead d i).2]) w):=by
 obtain⟨D2,q,hD,_,h0,_,hn,_⟩:=h.ro;have hst:=Sx.start0 w hD;have HO:=Lib.hid (dblock_calls h i);have HS:=Lib.hid (fun w' (hb:Below w.heap.size w w')=>dstate_calls (h.below hb) i);have e1:LdD D2 104 ⟨g,1,none⟩ (.slice (some ⟨q.gn,0,none⟩) d.now.length q.cn):=ldC h0 rfl
 by_cases hb:dBlock d i=0
 case neg=>
  have HR:Hid (dRead d i=(noS,dBlock d i)):=Lib.hid (by unfold dRead;rw[if_pos hb]);have hne:(dBlock d i !=0)=true:=by simpa using hb
  generalize dBlock d i=x at*;clear hb;go_enter Tryz.func45,Tryz.ntmps45;go_wp2_with (first|fail |(with_reducible (refine callB HO.out hst ?_;clear hst;intro w' hst)));go_ret2;exact⟨by rw[HR.out];rfl,hst.end⟩
 case pos=>
  have hs:¬dState d i<0:=fun h1=>by
   unfold dBlock at hb;split at hb
   ·omega
   ·rename_i h2;exact h2 ⟨hb,h1⟩
  obtain⟨k,rfl,hk⟩:∃k:Nat,i=k∧k<d.now.length:=by
   unfold dState at hs;split at hs
   ·omega
   ·exact⟨i.toNat,by omega,by omega⟩
  have HR:Hid (dRead d k=if dState d k=0 then(noS,41) else if dState d k=2 then(noS,42) else(d.now[k].data,0)):=Lib.hid (by
   unfold dRead;rw[if_neg (fun h=>h hb)]
   simp[hk])
  have e2:=hn.ldf hk 1 (U:=9) (v:=.string d.now[k].data) rfl (ad:=⟨q.gn,k*2+1,none⟩) (by simp);rw[hb] at HO;generalize d.now[k].data=s at*;generalize dState d k=y at*;generalize dRead d k=res at*;clear hb hs
  have key:∀r:ByteArray×Int,res=r→((y==0)=true∧r=(noS,41)∨(y==0)=false∧((y==2)=true∧r=(noS,42)∨(y==2)=false∧r=(s,0)))→Calls Tryz.prog 45 #[.pointer (some ⟨g,0,none⟩),.int .i64 (k:Int)] w (Ret (.tuple #[.string r.1,.int .i64 r.2]) w):=by
   intro r _ hc;clear HR;rcases hc with⟨h1,rfl⟩ |⟨h1,⟨h2,rfl⟩ |⟨h2,rfl⟩⟩
   all_goals
    go_enter Tryz.func45,Tryz.ntmps45;go_wp2_with (first|(with_reducible refine xd rfl rfl rfl hst ?_)|(with_reducible (refine callB HO.out hst ?_;clear hst;intro w' hst))|(with_reducible (refine callB (HS.out _ hst.end) hst ?_;clear hst;intro w' hst)));go_ret2;exact⟨rfl,hst.end⟩
  refine key res rfl ?_;rw[HR.out]
  by_cases h1:y=0
  ·exact Or.inl ⟨by simp[h1],if_pos h1⟩
  ·refine Or.inr ⟨by simp[h1],?_⟩
   rw[if_neg h1]
   by_cases h2:y=2
   ·exact Or.inl ⟨by simp[h2],if_pos h2⟩
   ·exact Or.inr ⟨by simp[h2],if_neg h2⟩
def dStates (d:Dv):List Int:=d.now.map (·.st)
theorem dState_at {d:Dv} {k:Nat} (hk:k<d.now.length):dState d k=(d.now[k]).st:=by
 unfold dState;rw[if_neg (by omega)];simp[hk]
set_option maxHeartbeats 1000000 in
theorem dstates_calls (h:DevW D F w g d):Calls Tryz.prog 41 #[.pointer (some ⟨g,0,none⟩)] w (OwnRet 3 1 inL (dStates d) w):=by
 have hst:=Sx.start0 w h.data;have hmax:=h.ok.max;have HL:=Lib.hid (fun w' (hb:Below w.heap.size w w')=>dlen_calls (h.below hb));have HS:=Lib.hid (fun(k:Nat) w' (hb:Below w.heap.size w w')=>dstate_calls (h.below hb) k);go_enter Tryz.func41,Tryz.ntmps41;go_wp2_with (first|fail |(with_reducible (refine callB (HL.out _ hst.end) hst ?_;clear hst;intro w' hst)));go_loopw [3,7] (fun ov iv wr=>∃(k:Nat) (Lo:List Blk) (out:List Int),k≤d.now.length∧iv=.int .i64 k∧Hid (out=(dStates d).take k)∧Sx [] w wr (Lo++[]) D []∧OwnR 3 1 inL Lo ov out) (fun _ iv _=>d.now.length-(intOf iv).toNat)
 case atStart=>exact⟨0,[],[],by omega,rfl,Lib.hid rfl,hst,OwnR.none _⟩
 case round=>
  obtain⟨k,Lo,out,hk,rfl,HO,hst,hown⟩:=hrel;obtain⟨p3,c3,rfl⟩:=hown.slice;have hol:out.length≤512:=by rw[HO.out,List.length_take];omega
  by_cases hlt:k<d.now.length
  ·have HC:=Lib.hid (HS.out k wr hst.end)
   have HT:Hid ((dStates d).take (k+1)=out++[dState d k]):=Lib.hid (by
    rw[HO.out,List.take_succ_eq_append_getElem (by simpa[dStates] using hlt),dState_at hlt]
    simp[dStates])
   generalize dState d k=s at*;go_wp2_with (first|fail |(with_reducible (refine callB HC.out hst ?_;clear hst;intro w' hst))|(with_reducible refine xmk rfl 14 rfl hst #[.int .i64 s] 3 (fun b=>.slice (some ⟨b,0,none⟩) 1 1) (fun w=>by kernel_rfl) ?_;clear hst;intro b w' hst)|(with_reducible refine xap1 (T:=3) rfl _ _ rfl s rfl rfl rfl hst hown rfl (by omega) ?_;clear hst;intro p4 c4 w4 Lo4 hown4 hst));go_roundw
   case rel=>exact⟨k+1,Lo4,_,by omega,by go_num,Lib.hid HT.out.symm,hst,hown4⟩
   case measure=>simp[intOf];omega
  ·obtain rfl:k=d.now.length:=by omega
   have HE:Hid (out=dStates d):=Lib.hid (by rw[HO.out,List.take_of_length_le (by simp[dStates])]);go_wp2_with fail;go_ret;rw[HE.out] at hown;exact⟨_,Lo,rfl,by rw[HE.out];exact hown,hst.takeL.st⟩
end
end Go.Proofs.YtdkeiefgkgpcbaaGreatDoor
namespace Go.Proofs.YtdkeiefgkgpcbaaGreatDoor
open Go.Shelf Go.RowKit
def cloneRen:Go.Shelf.Ren:=⟨fun |316=>127 |n=>n,fun |0=>0 |3=>3 |4=>4 |5=>5 |9=>9 |37=>47 |127=>226 |n=>n,fun |n=>n⟩
theorem cloneLays:Go.Proofs.LaysM.n316 Tryz.prog cloneRen:={
 mixed:=by kernel_rfl
 f316:=Tryz.func127.trans (congrArg some (by kernel_rfl))
 t0:=Tryz.underlying0
 a0:=Tryz.isAgg0
 z0:=Tryz.sizeOf0
 v0:=Tryz.zeroValue0
 t3:=Tryz.underlying3
 a3:=Tryz.isAgg3
 z3:=Tryz.sizeOf3
 v3:=Tryz.zeroValue3
 t4:=Tryz.underlying4
 a4:=Tryz.isAgg4
 z4:=Tryz.sizeOf4
 v4:=Tryz.zeroValue4
 t9:=Tryz.underlying9
 a9:=Tryz.isAgg9
 z9:=Tryz.sizeOf9
 v9:=Tryz.zeroValue9
 t37:=Tryz.underlying47
 a37:=Tryz.isAgg47
 z37:=Tryz.sizeOf47
 v37:=Tryz.zeroValue47
 t127:=Tryz.underlying226
 a127:=Tryz.isAgg226
 z127:=Tryz.sizeOf226
 v127:=Tryz.zeroValue226
 t5:=Tryz.underlying5
 a5:=Tryz.isAgg5
 z5:=Tryz.sizeOf5
 v5:=Tryz.zeroValue5
 i0:=by kernel_rfl
 i3:=by kernel_rfl
 i4:=by kernel_rfl
 i5:=by kernel_rfl
 i9:=by kernel_rfl
 i37:=by kernel_rfl
 i127:=by kernel_rfl}
theorem strclone_calls (s:ByteArray) (hs:s.size≤100000000) (w:World):Calls Tryz.prog 80 #[.string s] w (Ret (.string s) w):=by
 have hst:=Sx.startN w;have HC:Hid (∀w,Calls Tryz.prog 127 #[.string s] w fun e w'=>e=.returned (.string s)∧Below w.heap.size w w'):=Lib.hid (fun w=>Any.stringslite_Clone cloneLays s w (by omega));go_enter Tryz.func80,Tryz.ntmps80;go_wp2_with (with_reducible (refine callE (HC.out _) hst ?_;clear hst;intro w' hst));go_ret;exact⟨rfl,hst.end⟩
end Go.Proofs.YtdkeiefgkgpcbaaGreatDoor
namespace Go.Proofs.YtdkeiefgkgpcbaaGreatDoor
open Go.RowKit
instance {d:Dv} {q:Dp}:CellAt (devC d q) 0 (.slice (some ⟨q.gs,0,none⟩) d.sure.length q.cs):=⟨rfl⟩
instance {d:Dv} {q:Dp}:CellAt (devC d q) 1 (.slice (some ⟨q.gn,0,none⟩) d.now.length q.cn):=⟨rfl⟩
instance {d:Dv} {q:Dp}:CellAt (devC d q) 2 q.va:=⟨rfl⟩
instance {d:Dv} {q:Dp}:CellAt (devC d q) 3 (.bool d.off):=⟨rfl⟩
instance {d:Dv} {q:Dp}:CellAt (devC d q) 4 (.int .i64 d.starts):=⟨rfl⟩
instance {d:Dv} {q:Dp}:CellAt (devC d q) 5 (.int .i64 d.left):=⟨rfl⟩
instance {d:Dv} {q:Dp}:CellAt (devC d q) 6 q.vk:=⟨rfl⟩
instance {d:Dv} {q:Dp} {p:Option Addr} {n c:Nat}:WrAt (devC d q) 2 1 (.slice p n c) (devC d {q with va:=.slice p n c}):=wrOne (Nat.le_of_ble_eq_true rfl) rfl
instance {d:Dv} {q:Dp} {b:Bool}:WrAt (devC d q) 3 1 (.bool b) (devC {d with off:=b} q):=wrOne (Nat.le_of_ble_eq_true rfl) rfl
instance {d:Dv} {q:Dp} {x:Int}:WrAt (devC d q) 5 1 (.int .i64 x) (devC {d with left:=x} q):=wrOne (Nat.le_of_ble_eq_true rfl) rfl
instance {d:Dv} {q:Dp} {p:Option Addr} {n c:Nat}:WrAt (devC d q) 6 1 (.slice p n c) (devC d {q with vk:=.slice p n c}):=wrOne (Nat.le_of_ble_eq_true rfl) rfl
section
variable {S:List Nat} {w0 w:World} {L:List Blk} {D:Dat} {F:List Nat} {g:Nat} {d:Dv}
theorem Sx.openDev (h:Sx S w0 w L D F) (hd:DevW D F w g d):∃q,DevMem D d q∧F=(devL g d q).map (·.1)∧Sx S w0 w (devL g d q++L) D []:=by
 obtain⟨q,m,rfl,hn,hb⟩:=hd.mem;refine⟨q,m,rfl,⟨h.st.os,h.st.tape,h.st.output,h.st.size,h.st.kept,fun p hp=>?_,?_,fun p hp=>?_⟩,h.data,fun p hp r hr=>?_,fun x hx=>by simp at hx,fun x hx=>by simp at hx,fun x hx=>by simp at hx,fun x hx=>by simp at hx⟩
 ·rcases List.mem_append.1 hp with hp |hp
  ·exact(h.fS p.1 (List.mem_map.2 ⟨p,hp,rfl⟩)).symm
  ·exact h.st.own p hp
 ·rw[List.map_append,List.nodup_append]
  refine⟨hn,h.st.nodup,fun x hx y hy e=>?_⟩;obtain⟨r,hr,rfl⟩:=List.mem_map.1 hy;exact h.fL x hx r hr e.symm
 ·rcases List.mem_append.1 hp with hp |hp
  ·exact hb p hp
  ·exact h.st.blk p hp
 ·rcases List.mem_append.1 hr with hr |hr
  ·exact h.fD r.1 (List.mem_map.2 ⟨r,hr,rfl⟩) p hp
  ·exact h.apart p hp r hr
theorem DevW.open (h:DevW D F w g d) (hF:∀x∈F,x<w.heap.size):∃q,DevMem D d q∧F=(devL g d q).map (·.1)∧Sx F w w (devL g d q) D []:=by
 obtain⟨q,m,e,hs⟩:=(Sx.start w h.data hF h.apart).openDev h;exact⟨q,m,e,by simpa using hs⟩
def DevRet (v:Value) (D:Dat) (F:List Nat) (w:World) (g:Nat) (d':Dv) (e:Ending) (w':World):Prop:=e=.returned v∧∃F',DevW D F' w' g d'∧St F w w' []∧∀x∈F',x∈F∨w.heap.size≤x
theorem Sx.closeDev {q:Dp} {L1:List Blk} (h:Sx S w0 w (L1++L) D []) (m:DevMem D d q) (hL:L1=devL g d q):∃F',DevW D F' w g d∧St S w0 w []∧(∀x∈F',x∈S∨w0.heap.size≤x)∧Sx S w0 w L D F':=by
 subst hL
 have hS:∀x∈(devL g d q).map (·.1),x∈S∨w0.heap.size≤x:=fun x hx=>by
  obtain⟨p,hp,rfl⟩:=List.mem_map.1 hx;exact(h.st.own p (by simp[hp])).symm
 have hD:∀x∈(devL g d q).map (·.1),∀p,D p→p.1≠x:=fun x hx p hp=>by
  obtain⟨r,hr,rfl⟩:=List.mem_map.1 hx;exact h.apart p hp r (by simp[hr])
 have hn:=h.st.nodup;rw[List.map_append,List.nodup_append] at hn;refine⟨_,⟨h.data,hD,q,m,rfl,hn.1,fun p hp=>h.st.blk p (by simp[hp])⟩,h.endF,hS,h.dropL.st,h.data,fun p hp r hr=>h.apart p hp r (by simp[hr]),fun x hx=>?_,fun x hx r hr=>?_,hD,hS⟩
 ·obtain⟨p,hp,rfl⟩:=List.mem_map.1 hx
  exact h.st.lt p (by simp[hp])
 ·exact fun e=>hn.2.2 x hx _ (List.mem_map.2 ⟨r,hr,rfl⟩) e.symm
theorem Sx.closeDev0 {q:Dp} {L1:List Blk} (h:Sx S w0 w L1 D []) (m:DevMem D d q) (hL:L1=devL g d q):∃F',DevW D F' w g d∧St S w0 w []∧(∀x∈F',x∈S∨w0.heap.size≤x):=by
 obtain⟨F',h1,h2,h3,_⟩:=Sx.closeDev (L:=[]) (by simpa using h) m hL;exact⟨F',h1,h2,h3⟩
theorem DevW.start (h:DevW D F w g d):Sx F w w [] D F:=
 Sx.start w h.data (fun x hx=>by
  obtain⟨q,_,rfl,_,hb⟩:=h.mem;obtain⟨p,hp,rfl⟩:=List.mem_map.1 hx
  exact lt_of_heap' (hb p hp)) h.apart
theorem DevW.lt (h:DevW D F w g d):∀x∈F,x<w.heap.size:=h.start.flt
theorem callD {f:FuncId} {args:Array Value} {v:Value} {d':Dv} {K:Ending→World→Prop} (hc:Calls Tryz.prog f args w (DevRet v D F w g d')) (h:Sx S w0 w L D F) (hk:∀w' F',Sx S w0 w' L D F'→DevW D F' w' g d'→K (.returned v) w'):Calls Tryz.prog f args w K:=
 hc.mono fun e w' ⟨he,F',hd,hs,hF⟩=>by subst he;exact hk w' F' (h.obj0 hs hF hd.lt) hd
theorem callR {f:FuncId} {args:Array Value} {v:Value} {K:Ending→World→Prop} (hc:Calls Tryz.prog f args w (Ret v w)) (h:Sx S w0 w L D F) (hd:DevW D F w g d) (hk:∀w',Sx S w0 w' L D F→DevW D F w' g d→K (.returned v) w'):Calls Tryz.prog f args w K:=
 hc.mono fun e w' ⟨he,hb⟩=>by subst he;exact hk w' (h.below hb) (hd.below hb)
def dFails (d:Dv):Dv×Bool:=if 0<d.left then({d with left:=d.left-1},false) else(d,d.left==0)
theorem dfails_calls (h:DevW D F w g d):Calls Tryz.prog 81 #[.pointer (some ⟨g,0,none⟩)] w (DevRet (.bool (dFails d).2) D F w g (dFails d).1):=by
 obtain⟨q,m,rfl,hst⟩:=h.open h.lt;have hl:=m.ok.left;have hl1:=hl.1;have hl2:=hl.2;have HM:=Lib.hid m;clear m
 by_cases h0:0<d.left
 ·have HR:Hid (dFails d=({d with left:=d.left-1},false)):=Lib.hid (if_pos h0)
  unfold devL at hst;go_enter Tryz.func81,Tryz.ntmps81;go_wp2_with (with_reducible first|refine x1 rfl rfl rfl hst ?_|(refine xsi rfl rfl rfl rfl hst ?_;clear hst;intro w' hst));go_ret;rw[HR.out];have m:=HM.out;obtain⟨F',h1,h2,h3⟩:=Sx.closeDev0 (d:={d with left:=d.left-1}) (q:=q) hst ⟨⟨m.ok.same,m.ok.min,m.ok.max,m.ok.acts,m.ok.adat,m.ok.bsure,m.ok.bnow,by unfold I64;simp only;omega,m.ok.keep⟩,m.sl,m.ss,m.st,m.nl,m.ns,m.nt,m.ac,m.al,m.kp⟩ rfl;exact⟨rfl,F',h1,h2,h3⟩
 ·have HR:Hid (dFails d=(d,d.left==0)):=Lib.hid (if_neg h0)
  unfold devL at hst;go_enter Tryz.func81,Tryz.ntmps81;go_wp2_with (with_reducible refine x1 rfl rfl rfl hst ?_);go_ret;rw[HR.out];obtain⟨F',h1,h2,h3⟩:=Sx.closeDev0 (d:=d) (q:=q) hst HM.out rfl;exact⟨rfl,F',h1,h2,h3⟩
end
def doneF:Ac→Bk
 | .write _ s=>⟨1,s⟩
 | .erase _=>⟨2,noS⟩
instance zeroWr:ZeroT 171 #[.int .i64 0,.string ⟨#[]⟩]:=.agg fun w=>by kernel_rfl
instance aggWr:AggT 171 2:=⟨fun w=>by kernel_rfl,by kernel_rfl⟩
theorem done_calls (x:Ac) (w:World):Calls Tryz.prog 109 #[acV x] w (Ret (.agg #[.int .i64 (doneF x).st,.string (doneF x).data]) w):=by
 have hst:=Sx.startN w
 cases x with
 |write a s=>
  unfold acV;go_enter Tryz.func109,Tryz.ntmps109;go_wp2_with (first|(with_reducible first|refine x1 rfl rfl rfl hst ?_|(refine xsa rfl rfl rfl rfl hst ?_;clear hst;intro w' hst)|(refine xnw rfl rfl hst ?_;clear hst;intro bn w' hst))|(with_reducible refine xval rfl 7 rfl (.tuple #[.agg #[.int .i64 a,.string s],.bool true]) (fun w=>by kernel_rfl) ?_)|(with_reducible refine xval rfl 12 rfl (.agg #[.int .i64 1,.string s]) (fun w=>by kernel_rfl) ?_));refine bodyPost_ret (results1 rfl (res_agg rfl hst.st.has)) rfl ⟨rfl,hst.end⟩
 |erase a=>
  unfold acV;go_enter Tryz.func109,Tryz.ntmps109;go_wp2_with (first|(with_reducible first|(refine xsa rfl rfl rfl rfl hst ?_;clear hst;intro w' hst)|(refine xnw rfl rfl hst ?_;clear hst;intro bn w' hst))|(with_reducible refine xval rfl 7 rfl (.tuple #[.agg #[.int .i64 0,.string ⟨#[]⟩],.bool false]) (fun w=>by kernel_rfl) ?_)|(with_reducible refine xval rfl 6 rfl (.agg #[.int .i64 2,.string ⟨#[]⟩]) (fun w=>by kernel_rfl) ?_));refine bodyPost_ret (results1 rfl (res_agg rfl hst.st.has)) rfl ⟨rfl,hst.end⟩
theorem writeof_calls (a:Int) (s:ByteArray) (w:World):Calls Tryz.prog 213 #[.agg #[.int .i64 a,.string s]] w (Ret (.int .i64 a) w):=by
 have hst:=Sx.startN w;go_enter Tryz.func213,Tryz.ntmps213;go_wp2_with (with_reducible first|refine x1 rfl rfl rfl hst ?_|(refine xba rfl rfl hst rfl ?_;clear hst;intro bb w' hst));go_ret;exact⟨rfl,hst.end⟩
theorem eraseof_calls (a:Int) (w:World):Calls Tryz.prog 214 #[.int .i64 a] w (Ret (.int .i64 a) w):=by
 have hst:=Sx.startN w;go_enter Tryz.func214,Tryz.ntmps214;go_wp2_with fail;go_ret;exact⟨rfl,hst.end⟩
end Go.Proofs.YtdkeiefgkgpcbaaGreatDoor
namespace Go.Proofs.YtdkeiefgkgpcbaaGreatDoor
open Go.RowKit
section
variable {ops:Array Oper} {rest:List Oper} {o:Oper} {a:Act} {w:World} {Q:Exit→Act→World→Prop} {S:List Nat} {w0:World} {L:List Blk} {D:Dat} {F:List Nat}
theorem xs2b (hw:Region.wanted o (yielded ops a.tmps)=true) {x:Operand} (ho:o.op=.convert 9 47 x) {s:ByteArray} (hx:a.eval x=.string s) (h:Sx S w0 w L D F)
  (hk:∀(b cap:Nat) (C:Array Value) (w':World),Sx S w0 w' L D F→(∀p∈L,p.1≠b)→(∀p,D p→p.1≠b)→(∀x∈F,x≠b)→w0.heap.size≤b→s.size≤C.size→w'.heap[b]? =some (.cells C 5 (C.size,C.size+1))→(∀j,j<s.size→C[j]? =some (.int .u8 ((ls s).getD j 0).toNat))→
   wpList Tryz.prog ops Q rest (a.put o.dst (.slice (some ⟨b,0,none⟩) s.size cap)) w'):wpList Tryz.prog ops Q (o::rest) a w:=
 BigFrame.wpList_want hw fun K hK=>by
  unfold Oper.wp execOp;simp only[ho,hx,Sem.run_bind,Lib.run_convert_string_bytes w _ _ _ s Tryz.underlying9 Tryz.underlying47 Tryz.underlying5,Result.andThen_ok];have hg:=Lib.bytesWorld_at_new w 5 s;refine hK _ _ (hk _ _ _ _ (h.below (bytesWorld_below w _ s)) (fun p hp=>?_) (fun p hp=>?_) (fun x hx=>?_) h.size ?_ hg (fun j hj=>?_))
  ·have:=h.st.lt p hp;omega
  ·have:=h.data.lt hp;omega
  ·have:=h.flt x hx;omega
  ·simp[Lib.bytesCells]
  ·have:=Lib.bytesWorld_cell w 5 s j hj
   rw[cell_of_row _ _ _ _ _ _ hg] at this;exact this
theorem xsF (hw:Region.wanted o (yielded ops a.tmps)=true) {T:TypeId} {x y:Operand} (ho:o.op=.store T x y) {b k:Nat} (hx:a.eval x=.pointer (some ⟨b,k,none⟩)) {kk:IntKind} {z:Int} (hy:a.eval y=.int kk z) (h:Sx S w0 w L D F) [t:OneT T] {C:Array Value} {U:TypeId} (hb:w.heap[b]? =some (.cells C U (C.size,C.size+1))) (hkC:k<C.size) (hw0:w0.heap.size≤b) (hL:∀p∈L,p.1≠b) (hD:∀p,D p→p.1≠b) (hF:∀x∈F,x≠b)
  (hk:∀w',Sx S w0 w' L D F→w'.heap[b]? =some (.cells (C.setIfInBounds k (.int kk z)) U (C.size,C.size+1))→wpList Tryz.prog ops Q rest (a.put o.dst undef) w'):wpList Tryz.prog ops Q (o::rest) a w:=
 BigFrame.wpList_want hw fun K hK=>by
  have hcell:w.cell? ⟨b,k,none⟩=some C[k]:=by simp[World.cell?,hb,hkC]
  have hfro:w.frozen? ⟨b,k,none⟩=false:=by simp[World.frozen?,hb];omega
  have hst:(store (⟨b,k,none⟩:Addr) (.int kk z)).run Tryz.prog w=.ok () (w.setRow b (C.setIfInBounds k (.int kk z))):=by
   rw[run_store Tryz.prog w _ _ _ rfl,hcell];simp[hfro,setCell_eq_setRow w b _ C U _ _ hb]
  have hr:(storeVar T ⟨b,k,none⟩ (.int kk z)).run Tryz.prog w=.ok () (w.setRow b (C.setIfInBounds k (.int kk z))):=by
   unfold storeVar;rw[Sem.run_bind,run_size t.size,Result.andThen_ok];simp[Value.cells,storeCells,Addr.add,hst]
  have hsx:Sx S w0 (w.setRow b (C.setIfInBounds k (.int kk z))) L D F:=by
   refine⟨⟨h.st.os,h.st.tape,h.st.output,by rw[size_setRow];exact h.st.size,fun j hj hs=>?_,h.st.own,h.st.nodup,fun p hp=>?_⟩,fun p hp=>?_,h.apart,fun x hx=>by rw[size_setRow];exact h.flt x hx,h.fL,h.fD,h.fS⟩
   ·rw[heap_setRow_other _ _ _ _ (by omega)];exact h.st.kept j hj hs
   ·rw[heap_setRow_other _ _ _ _ (hL p hp)];exact h.st.blk p hp
   ·obtain⟨zz,hz⟩:=h.data p hp
    exact⟨zz,by rw[heap_setRow_other _ _ _ _ (hD p hp)];exact hz⟩
  unfold Oper.wp execOp;simp only[ho,hx,hy,Instr.storeAt,Instr.sureAddr,Sem.run_bind,Sem.run_pure,Result.andThen_ok,hr];exact hK _ _ (hk _ hsx (setRow_heap w b C _ U _ hb))
theorem xbin {p:BinOp} {T U:TypeId} {x y:Operand} (hw:Region.wanted o (yielded ops a.tmps)=true) (ho:o.op=.binOp p T x y U) {k k':IntKind} {m n:Int} {v:Value} (hr:∀w,(binOp p T (.int k m) (.int k' n)).run Tryz.prog w=.ok v w) (hx:a.eval x=.int k m) (hy:a.eval y=.int k' n)
  (hk:wpList Tryz.prog ops Q rest (a.put o.dst v) w):wpList Tryz.prog ops Q (o::rest) a w:=
 BigFrame.wpList_want hw fun K hK=>by
  unfold Oper.wp;rw[Fx.e_bin ho hx hy hr];exact hK _ _ hk
theorem xnow (hw:Region.wanted o (yielded ops a.tmps)=true) (d:Nat) (hd:o.dst=some d) (v:Value) (hv:(execOp a.eval o).run Tryz.prog w=.ok (.value v) w)
  (hk:wpList Tryz.prog ops Q rest (a.put o.dst v) w):wpList Tryz.prog ops Q (o::rest) a w:=
 BigFrame.wpList_want hw fun K hK=>by
  unfold Oper.wp;rw[hv];exact hK _ _ hk
end
def keepsB (keep:Int) (k:Nat):Bool:= !(bits .and .i64 (keep.fdiv (2 ^ (min (k / 32) 64))) 1==0)
def tornL (keep:Int) (s:List UInt8):List UInt8:=s.mapIdx fun k c=>if keepsB keep k then c else 0
def tornF (x:Ac) (was:Bk) (keep:Int):Bk:=match x with
 | .write _ s=>if bits .and .i64 keep 15=0 then was else⟨1,mkS (tornL keep (ls s))⟩
 | .erase _=>if bits .and .i64 keep 1=0 then was else⟨2,noS⟩
set_option maxHeartbeats 2000000 in
theorem torn_calls (x:Ac) (b:Bk) (keep:Int) (hx:∀a s,x=.write a s→s.size≤100000000) (w:World):Calls Tryz.prog 64 #[acV x,.agg #[.int .i64 b.st,.string b.data],.int .i64 keep] w (Ret (.agg #[.int .i64 (tornF x b keep).st,.string (tornF x b keep).data]) w):=by
 have hst:=Sx.startN w
 cases x with
 |erase a=>
  have HR:Hid (tornF (.erase a) b keep=if bits .and .i64 keep 1=0 then b else⟨2,noS⟩):=Lib.hid rfl;generalize tornF (.erase a) b keep=res at*;have HDn:Hid (∀w,Calls Tryz.prog 109 #[.iface 172 (.int .i64 a)] w (Ret (.agg #[.int .i64 2,.string noS]) w)):=Lib.hid (done_calls (.erase a));unfold acV;go_enter Tryz.func64,Tryz.ntmps64;go_wp2_with (first|(with_reducible first|refine xa rfl rfl rfl hst ?_|(refine xsa rfl rfl rfl rfl hst ?_;clear hst;intro w' hst)|(refine xba rfl rfl hst rfl ?_;clear hst;intro bb w' hst)|(refine xnw rfl rfl hst ?_;clear hst;intro bn w' hst))|(with_reducible refine xval rfl 18 rfl (.tuple #[.agg #[.int .i64 0,.string ⟨#[]⟩],.bool false]) (fun w=>by kernel_rfl) ?_)|(with_reducible (refine callB (HDn.out _) hst ?_;clear hst;intro w' hst)))
  ·have h1:bits .and .i64 keep 1=0:=by simpa using ‹(bits .and .i64 keep 1==0)=true›
   obtain rfl:res=b:=by rw[HR.out,if_pos h1]
   refine bodyPost_ret (results1 rfl (res_agg rfl hst.st.has)) rfl ⟨rfl,hst.end⟩
  ·have h1:¬bits .and .i64 keep 1=0:=by simpa using ‹(bits .and .i64 keep 1==0)=false›
   obtain rfl:res=⟨2,noS⟩:=by rw[HR.out,if_neg h1]
   refine bodyPost_ret (results1 rfl (res_agg rfl hst.st.has)) rfl ⟨rfl,hst.end⟩
 |write a s=>
  have hsz:=hx a s rfl;have HR:Hid (tornF (.write a s) b keep=if bits .and .i64 keep 15=0 then b else⟨1,mkS (tornL keep (ls s))⟩):=Lib.hid rfl;generalize tornF (.write a s) b keep=res at*;clear hx;unfold acV;go_enter Tryz.func64,Tryz.ntmps64;go_wp2_with (first|(with_reducible refine xnw (T:=171) rfl rfl hst ?_;clear hst;intro b7 w' hst)|(with_reducible first|refine x1 rfl rfl rfl hst ?_|refine xa rfl rfl rfl hst ?_|(refine xsa rfl rfl rfl rfl hst ?_;clear hst;intro w' hst)|(refine xba rfl rfl hst rfl ?_;clear hst;intro bb w' hst)|(refine xnw rfl rfl hst ?_;clear hst;intro bn w' hst))|(with_reducible refine xval rfl 18 rfl (.tuple #[.agg #[.int .i64 a,.string s],.bool true]) (fun w=>by kernel_rfl) ?_)|(with_reducible refine xs2b rfl rfl rfl hst ?_;clear hst;intro b2 cap C w' hst hL hD hF hw0 hsC hg hC))
  ·have h1:bits .and .i64 keep 15=0:=by simpa using ‹(bits .and .i64 keep 15==0)=true›
   obtain rfl:res=b:=by rw[HR.out,if_pos h1]
   refine bodyPost_ret (results1 rfl (res_agg rfl hst.st.has)) rfl ⟨rfl,hst.end⟩
  ·have h1:¬bits .and .i64 keep 15=0:=by simpa using ‹(bits .and .i64 keep 15==0)=false›
   obtain rfl:res=⟨1,mkS (tornL keep (ls s))⟩:=by rw[HR.out,if_neg h1]
   have HL:=Lib.hid hL;have HD0:=Lib.hid hD;have HF0:=Lib.hid hF;have HC:Hid (∀j,j<s.size→C[j]? =some (.int .u8 (if j<0 then(tornL keep (ls s)).getD j 0 else(ls s).getD j 0).toNat)):=Lib.hid (fun j hj=>by rw[if_neg (by omega)];exact hC j hj);have HZ:Hid (C.size=C.size):=Lib.hid rfl;clear hL hC hD hF h1 HR;go_loopw [30] (fun iv wr=>∃(k:Nat) (C':Array Value),k≤s.size∧iv=.int .i64 k∧Sx [] w wr [(b7,#[.int .i64 a,.string s],171),(bn,#[.int .i64 0,.string ⟨#[]⟩],139),(bb,#[.int .i64 b.st,.string b.data],139)] NoD []∧C'.size=C.size∧wr.heap[b2]? =some (.cells C' 5 (C'.size,C'.size+1))∧Hid (∀j,j<s.size→C'[j]? =some (.int .u8 (if j<k then(tornL keep (ls s)).getD j 0 else(ls s).getD j 0).toNat))) (fun iv _=>s.size-(intOf iv).toNat)
   case atStart=>exact⟨0,C,by omega,rfl,hst,rfl,hg,HC⟩
   case round=>
    obtain⟨k,C',hk,rfl,hst,hsz',hg',HC'⟩:=hrel
    by_cases hlt:k<s.size
    ·have hkl:k<(ls s).length:=by rw[ls_length];exact hlt
     have hshr:∀w:World,(binOp .shr 3 (.int .i64 keep) (.int .i64 ((k:Int) / 32))).run Tryz.prog w=.ok (.int .i64 (keep.fdiv (2 ^ (min (k / 32) 64)))) w:=fun w=>by
      have e:((k:Int) / 32)=((k / 32:Nat):Int):=by omega
      rw[e];show(Op.shift .shr .i64 keep .i64 ((k / 32:Nat):Int)).run Tryz.prog w=_;unfold Op.shift;rw[if_neg (by omega)];rfl
     have HK:Hid (keepsB keep k= !(bits .and .i64 (keep.fdiv (2 ^ (min (k / 32) 64))) 1==0)):=Lib.hid rfl;have HTk:Hid ((tornL keep (ls s)).getD k 0=if keepsB keep k then(ls s).getD k 0 else 0):=Lib.hid (by simp[tornL,hkl]);have hkC:k<C'.size:=by omega
     generalize hm0:keep.fdiv (2 ^ (min (k / 32) 64))=m at*;clear hm0;go_wp2_with (first|(with_reducible refine xbin rfl rfl hshr rfl rfl ?_)|fail |(with_reducible refine xsF rfl rfl rfl rfl hst hg' hkC hw0 HL.out HD0.out HF0.out ?_;clear hst;intro w2 hst hg2))
     ·have hm:keepsB keep k=false:=by rw[HK.out];simpa using ‹(bits .and .i64 m 1==0)=true›
      go_roundw
      case rel=>exact⟨k+1,C'.setIfInBounds k (.int .u8 0),by omega,by go_num,hst,by simpa using hsz',by rw[Array.size_setIfInBounds];exact hg2,Lib.hid (fun j hj=>by
       by_cases h1:j=k
       ·subst h1
        rw[if_pos (by omega),HTk.out,hm];simp[Array.getElem?_setIfInBounds,hkC]
       ·rw[Array.getElem?_setIfInBounds_ne (by omega),HC'.out j hj]
        congr 3
        by_cases h2:j<k
        ·rw[if_pos h2,if_pos (by omega)]
        ·rw[if_neg h2,if_neg (by omega)])⟩
      case measure=>simp[intOf];omega
     ·have hm:keepsB keep k=true:=by rw[HK.out];simpa using ‹(bits .and .i64 m 1==0)=false›
      go_roundw
      case rel=>exact⟨k+1,C',by omega,by go_num,hst,hsz',hg',Lib.hid (fun j hj=>by
       rw[HC'.out j hj];congr 3
       by_cases h1:j=k
       ·subst h1
        rw[if_neg (by omega),if_pos (by omega),HTk.out,hm];rfl
       ·by_cases h2:j<k
        ·rw[if_pos h2,if_pos (by omega)]
        ·rw[if_neg h2,if_neg (by omega)])⟩
      case measure=>simp[intOf];omega
    ·obtain rfl:k=s.size:=by omega
     have hlen:(tornL keep (ls s)).length=s.size:=by rw[tornL,List.length_mapIdx,ls_length]
     have hback:=run_convert_bytes_back (P:=Tryz.prog) wr 47 9 5 ⟨b2,0,none⟩ cap (tornL keep (ls s)) Tryz.underlying47 Tryz.underlying5 Tryz.underlying9 (fun j hj=>by
      rw[addr_add,cell_of_row wr b2 _ _ _ _ hg',Nat.zero_add,HC'.out j (by omega),if_pos (by omega)]
      simp[hj])
     rw[hlen] at hback;go_wp2_with (first|(with_reducible (refine xsa rfl rfl rfl rfl hst ?_;clear hst;intro w' hst))|(with_reducible refine xnow rfl 44 rfl (.string (mkS (tornL keep (ls s)))) (by unfold execOp;simp only[Sem.run_bind];erw [hback];rfl) ?_)|(with_reducible refine xval rfl 45 rfl (.agg #[.int .i64 1,.string (mkS (tornL keep (ls s)))]) (fun w=>by kernel_rfl) ?_));refine bodyPost_ret (results1 rfl (res_agg rfl hst.st.has)) rfl ⟨rfl,hst.end⟩
end Go.Proofs.YtdkeiefgkgpcbaaGreatDoor
namespace Go.Proofs.YtdkeiefgkgpcbaaGreatDoor
open Go.RowKit
section
variable {ops:Array Oper} {rest:List Oper} {o:Oper} {a:Act} {w:World} {Q:Exit→Act→World→Prop} {S:List Nat} {w0:World} {L:List Blk} {D:Dat} {F:List Nat}
theorem of_enter (x:Ac) (w:World):∃f C,(callMethod (acV x) "sealingwax/device.of" #[]).run Tryz.prog w=.ok (.enter f C) w∧Calls Tryz.prog f C w (Ret (.int .i64 x.at_) w):=by
 cases x with
 |write a s=>exact⟨213,#[.agg #[.int .i64 a,.string s]],by kernel_rfl,writeof_calls a s w⟩
 |erase a=>exact⟨214,#[.int .i64 a],by kernel_rfl,eraseof_calls a w⟩
theorem xof (hw:Region.wanted o (yielded ops a.tmps)=true) {r:Operand} {ty:Array TypeId} (ho:o.op=.call {callee:=.invoke r "sealingwax/device.of",args:=#[],argTypes:=ty}) {x:Ac} (hx:a.eval r=acV x) {j:Int} (hj:x.at_=j) (h:Sx S w0 w L D F)
  (hk:∀w',Sx S w0 w' L D F→wpList Tryz.prog ops Q rest (a.put o.dst (.int .i64 j)) w'):wpList Tryz.prog ops Q (o::rest) a w:=
 BigFrame.wpList_want hw fun K hK=>by
  subst hj;obtain⟨f,C,h1,h2⟩:=of_enter x w;unfold Oper.wp execOp;simp only[ho,resolve,hx,Sem.run_bind,Sem.run_pure,Result.andThen_ok,List.map_toArray,List.map_nil,invoke];have e:(#[acV x]++#[]:Array Value)=#[acV x]:=rfl;have e2:(#[acV x]:Array Value)[0]? =some (acV x):=rfl;have e3:(#[acV x]:Array Value).extract 1 (#[acV x]:Array Value).size=#[]:=rfl;simp only[e,e2,e3,h1];exact h2.mono fun en w' ⟨he,hb⟩=>by subst he;exact hK _ _ (hk w' (h.below hb))
end
theorem wr_zero_take {C:Array Value} (vs:List Value) (h:vs.length≤C.size):(wr C 0 vs).toList.take vs.length=vs:=by
 apply List.ext_getElem?;intro j;rw[List.getElem?_take]
 by_cases hj:j<vs.length
 ·rw[if_pos hj,Array.getElem?_toList,wr_get _ _ _ _ (by omega),if_pos (by omega),Nat.sub_zero]
 ·rw[if_neg hj,List.getElem?_eq_none (by omega)]
theorem Sx.three {S:List Nat} {w0 w:World} {p q r:Blk} {L:List Blk} {D:Dat} {F:List Nat} (h:Sx S w0 w (p::q::r::L) D F):Sx S w0 w [p,q,r] D F:=
 Sx.takeL (L1:=[p,q,r]) (L2:=L) h
theorem tornF_ok (x:Ac) (b:Bk) (n:Int) (hb:b.Ok) (hx:∀a s,x=.write a s→s.size≤1000):(tornF x b n).Ok:=by
 cases x with
 |write a s=>
  unfold tornF;simp only;split
  ·exact hb
  ·exact⟨Or.inr (Or.inl rfl),by have:=hx a s rfl;rw[size_mkS,tornL,List.length_mapIdx,ls_length];exact this⟩
 |erase a=>
  unfold tornF;simp only;split
  ·exact hb
  ·exact⟨Or.inr (Or.inr rfl),by decide⟩
theorem Fx.cpy {α:Type} {enc:α→List Value} {k':Nat} {T TS:TypeId} {ops:Array Oper} {F:Fx.Flow} {Qf:List Blk→Act→Prop} {l:List Nat} {k:Nat} {o:Oper} {L:List Blk} {a:Act} {r:List (Nat×Value)} (h0:Fx.nthO ops.toList k=some o) (hs:F.special k=true) {x y:Operand} (ho:o.op=.call {callee:=.builtin .copy,args:=#[x,y],argTypes:=#[TS,TS]})
  {gd gs n m cd cs:Nat} {Cd Cs:Array Value} (xs:List α) (hx:Fx.evO r a x=.slice (some ⟨gd,0,none⟩) n cd) (hy:Fx.evO r a y=.slice (some ⟨gs,0,none⟩) m cs) [h1:Has L gd Cd T] [h2:Has L gs Cs T] [sl:SlT TS T] [e:Elt T k'] [en:Enc enc k'] (hn:n=xs.length) (hm:m=xs.length) (hC:Cs.toList.take (xs.length*k')=xs.flatMap enc) (hd:xs.length*k'≤Cd.size) {L':List Blk} [u:Upd L gd Cd T (wr Cd 0 (xs.flatMap enc)) L'] (hl:F.late k=true)
  (hk:Fx.wpLX ops F Qf l L' (Fx.mkO (Fx.nxt o.dst (.int .i64 xs.length) r) a)):Fx.wpLX ops F Qf (k::l) L (Fx.mkO r a):=by
 refine Fx.spec h0 hs (fun L'' v=>L''=L'∧v=.int .i64 xs.length) (fun w hw=>Or.inl ?_) ?_
 ·obtain⟨i,z,hi,hz,hsz,hby,hzs,hk0⟩:=elt_info T k'
  subst hn hm;have hg:=hw.st.has (g:=gd);have hg2:=hw.st.has (g:=gs);have hlen:(xs.flatMap enc).length=xs.length*i.size:=by rw[rows_length (k:=k'),hsz]
  have hf:=run_firstCells_some (P:=Tryz.prog) w i.size xs.length ⟨gs,0,none⟩ xs.length cs (xs.flatMap enc) hlen (fun j v hj=>by
   have hjl:=(List.getElem?_eq_some_iff.1 hj).1
   rw[addr_add,cell_of_row w gs _ _ _ _ hg2,Nat.zero_add,←hj,←hC,List.getElem?_take,if_pos (by rw[←hsz,←hlen];exact hjl),Array.getElem?_toList])
  have hst:=run_storeCells_at gd 0 T (xs.flatMap enc) 0 Cd w hg (by rw[hlen,hsz];omega) (rows_one (k:=k') xs);refine⟨.int .i64 xs.length,w.setRow gd (wr Cd 0 (xs.flatMap enc)),L',?_,⟨rfl,rfl⟩,hw.upd (St.write1 hg)⟩;have hmin:Nat.min xs.length xs.length=xs.length:=Nat.min_self _;unfold execOp;simp only[ho,resolve,invoke,builtin,Sem.run_bind,Sem.run_pure,Result.andThen_ok,List.map_toArray,List.map_cons,List.map_nil,hx,hy];simp[Builtin.copy_,run_underlying sl.under,sizeOf,typeInfo,hi,Builtin.lenOf,hmin,hf,hst,goInt]
 ·rintro L'' v ⟨rfl,rfl⟩
  exact⟨Or.inl hl,hk⟩
def crashGo:List Ac→Nat→List Int→List Bk→List Bk
 | [],_,_,s=>s
 |x::l,i,keep,s=>crashGo l (i+1) keep (s.set x.at_.toNat (tornF x (s.getD x.at_.toNat b0) (keep.getD i 0)))
def dCrash (d:Dv) (keep:List Int):Dv×Int:=
 if dOn d≠0 then(d,dOn d) else
 let s:=crashGo d.acts 0 keep d.sure
 ({d with sure:=s,now:=s,acts:=[],off:=true,left:= -1},0)
set_option maxHeartbeats 2000000 in
theorem dcrash_calls {D:Dat} {F:List Nat} {w:World} {g:Nat} {d:Dv} (h:DevW D F w g d) {p:Option Addr} {c:Nat} {keep:List Int} (hk:RowAt D 3 1 inL p c keep) (hki:∀x∈keep,I64 x):Calls Tryz.prog 26 #[.pointer (some ⟨g,0,none⟩),.slice p keep.length c] w (DevRet (.int .i64 (dCrash d keep).2) D F w g (dCrash d keep).1):=by
 have hst:=h.start;have hd:=h
 by_cases hon:dOn d=0
 case neg=>
  have HR:Hid (dCrash d keep=(d,dOn d)):=Lib.hid (if_pos hon);have hne:(dOn d !=0)=true:=by simpa using hon
  have HO:=Lib.hid (fun w (hd:DevW D F w g d)=>don_calls hd);generalize dOn d=x at*;clear hon h;go_enter Tryz.func26,Tryz.ntmps26;go_wp2_with (first|(with_reducible (refine callR (HO.out _ hd) hst hd ?_;clear hst hd;intro w' hst hd)));go_ret;rw[HR.out];exact⟨rfl,F,hd,hst.endF,fun x hx=>Or.inl hx⟩
 case pos=>
  have HR:Hid (dCrash d keep=({d with sure:=crashGo d.acts 0 keep d.sure,now:=crashGo d.acts 0 keep d.sure,acts:=[],off:=true,left:= -1},0)):=Lib.hid (by unfold dCrash;rw[if_neg (by simp[hon])]);have HO:=Lib.hid (fun w (hd:DevW D F w g d)=>don_calls hd);have HK:=Lib.hid hki;rw[hon] at HO;clear hon h hki;go_enter Tryz.func26,Tryz.ntmps26;go_wp2_with fail;refine callR (HO.out _ hd) hst hd ?_;clear hst hd;intro w' hst hd;obtain⟨q,m,hFq,hst⟩:=hst.openDev hd;simp only[List.append_nil] at hst;have hal:=m.al;have hac:=m.ac;obtain⟨pa,ca,hva⟩:=hac.slice;rw[hva] at hac;have hmem:Sx F w w' (devL g {d with sure:=d.sure} {q with Cs:=q.Cs}) D []:=hst;have HSt:Hid (q.Cs.toList.take (d.sure.length*2)=d.sure.flatMap bkL):=Lib.hid m.st;have HM:=Lib.hid m;have hsl:=m.ok.same;have hmx:=m.ok.max;have HA:=Lib.hid m.ok.acts;have HT:=Lib.hid m.ok.adat;clear m hd hFq;unfold devL at hst;have c2:CellAt (devC d q) 2 (.slice pa d.acts.length ca):=⟨by rw[←hva];rfl⟩;go_wp2_with (with_reducible refine x1 rfl rfl rfl hst ?_);clear c2;go_loopw [20] (fun iv wv=>∃(k:Nat) (s:List Bk) (Cs':Array Value),k≤d.acts.length∧iv=.int .i64 k∧s.length=d.sure.length∧Cs'.size=q.Cs.size∧Hid (Cs'.toList.take (s.length*2)=s.flatMap bkL)∧Hid (∀b∈s,b.Ok)∧Sx F w wv ((g,devC d q,112)::(q.gs,Cs',139)::(q.gn,q.Cn,139)::q.La) D []∧Hid (crashGo (d.acts.drop k) k keep s=crashGo d.acts 0 keep d.sure)) (fun iv _=>d.acts.length-(intOf iv).toNat)
  case atStart=>exact⟨0,d.sure,q.Cs,by omega,rfl,rfl,rfl,HSt,Lib.hid HM.out.ok.bsure,hst,Lib.hid rfl⟩
  case round=>
   obtain⟨k,s,Cs',hk',rfl,hls,hszs,HC,HB,hst,HF⟩:=hrel
   by_cases hlt:k<d.acts.length
   ·rcases hac with⟨_,_,h0⟩ |⟨ga,ca',Ca,hLa,hva2,hca1,hca2,hca3,hca4⟩
    ·rw[h0] at hlt;simp at hlt
    obtain⟨rfl,rfl⟩:pa=some ⟨ga,0,none⟩∧ca=ca':=by injection hva2;exact⟨by assumption,by assumption⟩
    rw[hLa] at hst
    have hca:CellAt Ca k (acV d.acts[k]):=⟨by
     have:=OwnR.cells (enc:=acL) hca4 hlt (j:=0) (by decide)
     simpa using this⟩
    rw[List.drop_eq_getElem_cons hlt] at HF;obtain⟨j,hj,hjn⟩:=HA.out _ (List.getElem_mem hlt);have HX:=Lib.hid (HT.out _ (List.getElem_mem hlt));generalize d.acts[k]=x at*
    by_cases hkl:k<keep.length
    ·obtain⟨gk,offk,rfl⟩:=hk.at_some hkl
     have hldk:=hk.ld1 hkl rfl;have HN:Hid (keep.getD k 0=keep[k]):=Lib.hid (by simp[hkl]);generalize keep[k]=n at*;go_wp2_with (first|(with_reducible first|refine x1 rfl rfl rfl hst ?_|refine xd rfl rfl rfl hst ?_)|(with_reducible refine xof rfl rfl rfl hj hst ?_;clear hst;intro w' hst));have hjs:j<s.length:=by omega
     have hp:PartAt Cs' (j*2) 2 (bkL s[j]):=⟨rfl,fun i v hv=>by
      have hi:i<2:=(List.getElem?_eq_some_iff.1 hv).1;rw[OwnR.cells (enc:=bkL) HC.out hjs hi]
      exact hv⟩
     have hW:WrAt Cs' (j*2) 2 (.agg #[.int .i64 (tornF x s[j] n).st,.string (tornF x s[j] n).data]) (Go.Proofs.YtdkeiefgkgpcbaaGreatDoor.wr Cs' (j*2) (bkL (tornF x s[j] n))):=wrRow _ _ _ _ rfl (encBk.one (tornF x s[j] n)) (by have:=HM.out.ss;have:=HM.out.sl;omega);have HT2:=Lib.hid (torn_calls x s[j] n (fun a b e=>by have:=HX.out a b e;omega));have HC2:Hid ((Go.Proofs.YtdkeiefgkgpcbaaGreatDoor.wr Cs' (j*2) (bkL (tornF x s[j] n))).toList.take ((s.set j (tornF x s[j] n)).length*2)=(s.set j (tornF x s[j] n)).flatMap bkL):=Lib.hid (by rw[List.length_set];exact own_set (enc:=bkL) (by decide) HC.out hjs (tornF x s[j] n))
     have HF2:Hid (crashGo (d.acts.drop (k+1)) (k+1) keep (s.set j (tornF x s[j] n))=crashGo d.acts 0 keep d.sure):=Lib.hid (by
      rw[←HF.out,crashGo,hj,HN.out,Int.toNat_natCast]
      simp[hjs])
     have HB2:Hid (∀b∈s.set j (tornF x s[j] n),b.Ok):=Lib.hid (fun b hb=>by
      rcases List.mem_or_eq_of_mem_set hb with h1 |rfl
      ·exact HB.out b h1
      ·exact tornF_ok x _ n (HB.out _ (List.getElem_mem hjs)) HX.out)
     have hsz2:(Go.Proofs.YtdkeiefgkgpcbaaGreatDoor.wr Cs' (j*2) (bkL (tornF x s[j] n))).size=q.Cs.size:=by rw[wr_size];exact hszs
     have hls2:(s.set j (tornF x s[j] n)).length=d.sure.length:=by simpa using hls
     generalize tornF x s[j] n=tb at*;generalize s[j]=sb at*;refine Fx.go (fun i=>i==16) (fun i=> !(i==3||i==9||i==12)) (fun i=>i==16) (List.range 17) rfl hst (by kernel_rfl) (by kernel_rfl) (by kernel_rfl) (by kernel_rfl) (by kernel_rfl) ?_
     repeat(first|refine Fx.val rfl rfl rfl rfl (Fx.e_mv rfl rfl) ?_|refine Fx.val rfl rfl rfl rfl (Fx.e_nil rfl rfl) ?_|refine Fx.fa rfl rfl rfl rfl rfl rfl ?_|refine Fx.l1 rfl rfl rfl rfl rfl rfl ?_|refine Fx.lA rfl rfl rfl rfl rfl rfl ?_|refine Fx.ix rfl rfl rfl rfl rfl rfl rfl (by omega) ?_)
     refine Fx.call rfl rfl HT2.out rfl rfl (fun w=>by kernel_rfl) ?_
     repeat(first|refine Fx.ix rfl rfl rfl rfl rfl rfl rfl (by omega) ?_|refine Fx.stA rfl rfl rfl rfl rfl (Or.inl rfl) ?_)
     clear hst;intro w' hst;simp only[Fx.nxt_some,Fx.nxt_none,Fx.mkO_cons,Fx.mkO_nil,Fx.evO_eq];go_wp2_with fail;go_roundw
     case rel=>exact⟨k+1,_,_,by omega,by go_num,hls2,hsz2,HC2,HB2,by rw[hLa];exact hst,HF2⟩
     case measure=>simp[intOf];omega
    ·have HN:Hid (keep.getD k 0=0):=Lib.hid (by simp[List.getElem?_eq_none (Nat.le_of_not_lt hkl)])
     go_wp2_with (first|(with_reducible refine x1 rfl rfl rfl hst ?_)|(with_reducible refine xof rfl rfl rfl hj hst ?_;clear hst;intro w' hst));have hjs:j<s.length:=by omega
     have hp:PartAt Cs' (j*2) 2 (bkL s[j]):=⟨rfl,fun i v hv=>by
      have hi:i<2:=(List.getElem?_eq_some_iff.1 hv).1;rw[OwnR.cells (enc:=bkL) HC.out hjs hi]
      exact hv⟩
     have hW:WrAt Cs' (j*2) 2 (.agg #[.int .i64 (tornF x s[j] 0).st,.string (tornF x s[j] 0).data]) (Go.Proofs.YtdkeiefgkgpcbaaGreatDoor.wr Cs' (j*2) (bkL (tornF x s[j] 0))):=wrRow _ _ _ _ rfl (encBk.one (tornF x s[j] 0)) (by have:=HM.out.ss;have:=HM.out.sl;omega);have HT2:=Lib.hid (torn_calls x s[j] 0 (fun a b e=>by have:=HX.out a b e;omega));have HC2:Hid ((Go.Proofs.YtdkeiefgkgpcbaaGreatDoor.wr Cs' (j*2) (bkL (tornF x s[j] 0))).toList.take ((s.set j (tornF x s[j] 0)).length*2)=(s.set j (tornF x s[j] 0)).flatMap bkL):=Lib.hid (by rw[List.length_set];exact own_set (enc:=bkL) (by decide) HC.out hjs (tornF x s[j] 0))
     have HF2:Hid (crashGo (d.acts.drop (k+1)) (k+1) keep (s.set j (tornF x s[j] 0))=crashGo d.acts 0 keep d.sure):=Lib.hid (by
      rw[←HF.out,crashGo,hj,HN.out,Int.toNat_natCast]
      simp[hjs])
     have HB2:Hid (∀b∈s.set j (tornF x s[j] 0),b.Ok):=Lib.hid (fun b hb=>by
      rcases List.mem_or_eq_of_mem_set hb with h1 |rfl
      ·exact HB.out b h1
      ·exact tornF_ok x _ 0 (HB.out _ (List.getElem_mem hjs)) HX.out)
     have hsz2:(Go.Proofs.YtdkeiefgkgpcbaaGreatDoor.wr Cs' (j*2) (bkL (tornF x s[j] 0))).size=q.Cs.size:=by rw[wr_size];exact hszs
     have hls2:(s.set j (tornF x s[j] 0)).length=d.sure.length:=by simpa using hls
     generalize tornF x s[j] 0=tb at*;generalize s[j]=sb at*;refine Fx.go (fun i=>i==16) (fun i=> !(i==3||i==9||i==12)) (fun i=>i==16) (List.range 17) rfl hst (by kernel_rfl) (by kernel_rfl) (by kernel_rfl) (by kernel_rfl) (by kernel_rfl) ?_
     repeat(first|refine Fx.val rfl rfl rfl rfl (Fx.e_mv rfl rfl) ?_|refine Fx.val rfl rfl rfl rfl (Fx.e_nil rfl rfl) ?_|refine Fx.fa rfl rfl rfl rfl rfl rfl ?_|refine Fx.l1 rfl rfl rfl rfl rfl rfl ?_|refine Fx.lA rfl rfl rfl rfl rfl rfl ?_|refine Fx.ix rfl rfl rfl rfl rfl rfl rfl (by omega) ?_)
     refine Fx.call rfl rfl HT2.out rfl rfl (fun w=>by kernel_rfl) ?_
     repeat(first|refine Fx.ix rfl rfl rfl rfl rfl rfl rfl (by omega) ?_|refine Fx.stA rfl rfl rfl rfl rfl (Or.inl rfl) ?_)
     clear hst;intro w' hst;simp only[Fx.nxt_some,Fx.nxt_none,Fx.mkO_cons,Fx.mkO_nil,Fx.evO_eq];go_wp2_with fail;go_roundw
     case rel=>exact⟨k+1,_,_,by omega,by go_num,hls2,hsz2,HC2,HB2,by rw[hLa];exact hst,HF2⟩
     case measure=>simp[intOf];omega
   ·obtain rfl:k=d.acts.length:=by omega
    rw[List.drop_length] at HF
    have hcp:(Go.Proofs.YtdkeiefgkgpcbaaGreatDoor.wr q.Cn 0 (s.flatMap bkL)).toList.take (s.length*2)=s.flatMap bkL:=by
     have:=wr_zero_take (C:=q.Cn) (s.flatMap bkL) (by rw[rows_length (k:=2)];have:=HM.out.ns;have:=HM.out.nl;omega)
     rwa [rows_length (k:=2)] at this
    have HCP:=Lib.hid hcp;have HCD:Hid (s.length*2≤q.Cn.size):=Lib.hid (by have:=HM.out.ns;have:=HM.out.nl;omega);clear hcp;go_wp2_with fail;refine Fx.go (fun i=>i==8) (fun i=> !(i==3||i==7)) (fun i=>i==8) (List.range 9) rfl hst (by kernel_rfl) (by kernel_rfl) (by kernel_rfl) (by kernel_rfl) (by kernel_rfl) ?_
    repeat(first|refine Fx.val rfl rfl rfl rfl (Fx.e_mv rfl rfl) ?_|refine Fx.val rfl rfl rfl rfl (Fx.e_nil rfl rfl) ?_|refine Fx.fa rfl rfl rfl rfl rfl rfl ?_|refine Fx.l1 rfl rfl rfl rfl rfl rfl ?_)
    refine Fx.cpy (enc:=bkL) rfl rfl rfl s rfl rfl (by omega) (by omega) HC.out HCD.out rfl ?_;clear hst;intro w' hst;simp only[Fx.nxt_some,Fx.nxt_none,Fx.mkO_cons,Fx.mkO_nil,Fx.evO_eq];go_wp2_with (with_reducible first|(refine xsi rfl rfl rfl rfl hst ?_;clear hst;intro w' hst)|(refine xsb rfl rfl rfl rfl hst ?_;clear hst;intro w' hst)|(refine xsl rfl rfl rfl rfl hst ?_;clear hst;intro w' hst));go_ret;rw[HR.out];have hs:s=crashGo d.acts 0 keep d.sure:=HF.out;rw[←hs];have m:=HM.out;obtain⟨F',h1,h2,h3⟩:=Sx.closeDev0 (g:=g) (d:={d with sure:=s,now:=s,acts:=[],off:=true,left:= -1}) (q:={q with Cs:=Cs',Cn:=Go.Proofs.YtdkeiefgkgpcbaaGreatDoor.wr q.Cn 0 (s.flatMap bkL),va:=.slice none 0 0,La:=[]})
     hst.three
     ⟨⟨rfl,by simp only;rw[hls,hsl];exact m.ok.min,by simp only;omega,fun a ha=>by simp at ha,fun a ha=>by simp at ha,HB.out,HB.out,by unfold I64;simp only;omega,m.ok.keep⟩,by simp only;rw[hls];exact m.sl,by simp only;rw[hszs];exact m.ss,HC.out,by simp only;rw[hls,hsl];exact m.nl,by simp only;rw[wr_size];exact m.ns,HCP.out,OwnR.none _,by simp,m.kp⟩ (by simp only[devL,devC,hls,hsl])
    exact⟨rfl,F',h1,h2,h3⟩
end Go.Proofs.YtdkeiefgkgpcbaaGreatDoor
