/- Steps of the proof: ScanChain. -/
import Derived.WalkMore
import Derived.Deep.LoopGhost
import Derived.Test.YtdkeiefgkgpcbaaGreatDoorP20
set_option linter.unusedVariables false
set_option linter.unusedSimpArgs false
set_option maxRecDepth 100000
namespace Go.Proofs.YtdkeiefgkgpcbaaGreatDoor
open Go.RowKit
instance encSl:Enc slL 69:=⟨fun _=>rfl,fun x v hv=>by
 have h:(slL x).all (·.oneCell')=true:=rfl
 exact List.all_eq_true.1 h v hv⟩
instance eltSl:Elt 41 69:=⟨.agg (slC sl0),104,by kernel_rfl,rfl,by decide,by decide⟩
instance sltSl:SlT 82 41:=⟨by kernel_rfl⟩
instance fldFd0:Fx.FldT 153 0 0:=⟨fun ad w=>by kernel_rfl⟩
instance fldFd1:Fx.FldT 153 1 69:=⟨fun ad w=>by kernel_rfl⟩
instance zeroFd:ZeroT 153 (fdC fd0):=.agg fun w=>by kernel_rfl
instance wrFd (p q:Fnd):WrAt (fdC p) 0 70 (.agg (fdC q)) (fdC q):=wr_row _ _ _ _ (fdL q) rfl rfl (Nat.le_of_ble_eq_true rfl) (by kernel_rfl)
instance wrFdL (p q:Fnd):WrAt (fdC p) 0 70 (.agg (fdL q).toArray) (fdC q):=wr_row _ _ _ _ (fdL q) rfl rfl (Nat.le_of_ble_eq_true rfl) (by kernel_rfl)
instance fdc69 (p:Fnd):CellAt (fdC p) 69 (.int .i64 p.at_):=⟨rfl⟩
instance fdpSl (p:Fnd):PartAt (fdC p) 0 69 (slL p.s):=part_mid [] (slL p.s) [.int .i64 p.at_] 0 69 rfl rfl
instance fdpAll (p:Fnd):PartAt (fdC p) 0 70 (fdL p):=⟨rfl,fun j v h=>by rw[Nat.zero_add];simpa[fdC] using h⟩
theorem run_bssl (s:Sl) (w:World):(Instr.buildSlice 82 1 #[(0,.agg (slL s).toArray)]).run Tryz.prog w=.ok (.slice (some ⟨w.heap.size,0,none⟩) 1 1) (w.alloc (.cells (slC s) 41)):=by kernel_rfl
theorem run_bsint (z:Int) (w:World):(Instr.buildSlice 48 1 #[(0,.int .i64 z)]).run Tryz.prog w=.ok (.slice (some ⟨w.heap.size,0,none⟩) 1 1) (w.alloc (.cells #[.int .i64 z] 3)):=by kernel_rfl
def chainNext (fl:List Fnd) (n:Int) (last:Option Sl):Option Fnd:=(fl.filter (fun f=>f.s.n=n)).find? (fun f=>slFol f.s last)
def chainGo (fl:List Fnd):Nat→Int→Option Sl→List Fnd
 |0,_,_=>[]
 |k+1,n,last=>match chainNext fl n last with
  |none=>[]
  |some f=>f::chainGo fl k (n+1) (some f.s)
def leftN (fl:List Fnd) (n:Int):Nat:=(fl.filter (fun f=>decide (n≤f.s.n))).length
def chainF (d:Dv):List Fnd:=chainGo (fnds d d.now.length) (leftN (fnds d d.now.length) 1+1) 1 none
theorem leftN_lt {fl:List Fnd} {n:Int} {f:Fnd} (hf:f∈fl) (hn:f.s.n=n):leftN fl (n+1)<leftN fl n:=by
 unfold leftN
 induction fl with
 |nil=>simp at hf
 |cons x fl ih=>
  rcases List.mem_cons.1 hf with rfl |hf
  ·rw[List.filter_cons_of_neg (by simp;omega),List.filter_cons_of_pos (by simp;omega),List.length_cons]
   refine Nat.lt_succ_of_le ?_;clear ih hf
   induction fl with
   |nil=>simp
   |cons y fl ih=>
    by_cases h1:n+1≤y.s.n
    ·rw[List.filter_cons_of_pos (by simpa using h1),List.filter_cons_of_pos (by simp;omega)]
     simpa using ih
    ·rw[List.filter_cons_of_neg (by simpa using h1)]
     by_cases h2:n≤y.s.n
     ·rw[List.filter_cons_of_pos (by simpa using h2),List.length_cons];omega
     ·rw[List.filter_cons_of_neg (by simpa using h2)];exact ih
  ·have:=ih hf
   by_cases h1:n+1≤x.s.n
   ·rw[List.filter_cons_of_pos (by simpa using h1),List.filter_cons_of_pos (by simp;omega)]
    simpa using this
   ·rw[List.filter_cons_of_neg (by simpa using h1)]
    by_cases h2:n≤x.s.n
    ·rw[List.filter_cons_of_pos (by simpa using h2),List.length_cons];omega
    ·rw[List.filter_cons_of_neg (by simpa using h2)];exact this
theorem slOf_ok {s:ByteArray} (h:(slOf s).2=0):slOk (slOf s).1=true:=by
 unfold slOf at h ⊢;split at h
 ·rename_i h1;exact absurd h h1
 ·rename_i h1
  rw[if_neg h1] at*;split at h
  ·cases h
  ·rename_i h2
   rw[if_neg h2];simp only
   have h3:(slDec (frDecF (ls s)).1.data).2=0:=by
    simp only[Bool.or_eq_true,decide_eq_true_eq,not_or] at h2;exact Decidable.not_not.1 h2.1
   unfold slDec at h3 ⊢;split at h3
   ·cases h3
   ·rename_i h4
    rw[if_neg h4];simp only[Bool.or_eq_true,not_or] at h4;simpa using h4.2.2
theorem fnds_ok {d:Dv} {k:Nat}:∀f∈fnds d k,slOk f.s=true:=fun f hf=>by
 obtain⟨i,_,hi⟩:=List.mem_flatMap.1 hf;unfold fndAt at hi;split at hi
 ·rename_i h
  obtain rfl:=List.mem_singleton.1 hi;exact slOf_ok h.2
 ·cases hi
section
variable {α:Type} {enc:α→List Value} {k':Nat} {T TS:TypeId} {ops:Array Oper} {F:Fx.Flow} {Qf:List Blk→Act→Prop} {l:List Nat} {k:Nat} {o:Oper} {L:List Blk} {a:Act} {r:List (Nat×Value)}
theorem Fx.mk1 (h0:Fx.nthO ops.toList k=some o) (hs:F.special k=true) {y:Operand} (ho:o.op=.buildSlice TS 1 #[(0,y)]) {u:Value} (hy:Fx.evO r a y=u) {C:Array Value} (hr:∀w,(Instr.buildSlice TS 1 #[(0,u)]).run Tryz.prog w=.ok (.slice (some ⟨w.heap.size,0,none⟩) 1 1) (w.alloc (.cells C T)))
  (hk:∀b,(F.late k=true∨∀w,Sx F.S F.w0 w ((b,C,T)::L) F.D F.O→F.B w)∧Fx.wpLX ops F Qf l ((b,C,T)::L) (Fx.mkO (Fx.nxt o.dst (.slice (some ⟨b,0,none⟩) 1 1) r) a)):Fx.wpLX ops F Qf (k::l) L (Fx.mkO r a):=by
 refine Fx.spec h0 hs (fun L' u=>∃b,L'=(b,C,T)::L∧u=.slice (some ⟨b,0,none⟩) 1 1) (fun w hw=>Or.inl ?_) ?_
 ·refine⟨_,_,(w.heap.size,C,T)::L,?_,⟨_,rfl,rfl⟩,hw.alloc C T⟩
  unfold execOp;simp only[ho,List.map_toArray,List.map_cons,List.map_nil,hy,Sem.run_bind,hr,Result.andThen_ok];rfl
 ·rintro L' u ⟨b,rfl,rfl⟩
  exact hk b
theorem Fx.apG (h0:Fx.nthO ops.toList k=some o) (hs:F.special k=true) {x y:Operand} (ho:o.op=.call {callee:=.builtin .append,args:=#[x,y],argTypes:=#[TS,TS]}) {Lo R:List Blk} (hp:L.Perm (Lo++R)) {v:Value} (hx:Fx.evO r a x=v) {b cc:Nat} (hy:Fx.evO r a y=.slice (some ⟨b,0,none⟩) 1 cc)
  {l0:List α} {el:α} [sl:SlT TS T] [e:Elt T k'] [en:Enc enc k'] (hv:OwnR T k' enc Lo v l0) {C:Array Value} {T':TypeId} (hb:(b,C,T')∈R) (hC:C=(enc el).toArray) (hl:l0.length≤1000000)
  (hk:∀p c Lo',OwnR T k' enc Lo' (.slice p (l0.length+1) c) (l0++[el])→(F.late k=true∨∀w,Sx F.S F.w0 w (Lo'++R) F.D F.O→F.B w)∧Fx.wpLX ops F Qf l (Lo'++R) (Fx.mkO (Fx.nxt o.dst (.slice p (l0.length+1) c) r) a)):Fx.wpLX ops F Qf (k::l) L (Fx.mkO r a):=by
 refine Fx.spec h0 hs (fun L' u=>∃p c Lo',L'=Lo'++R∧u=.slice p (l0.length+1) c∧OwnR T k' enc Lo' (.slice p (l0.length+1) c) (l0++[el])) (fun w hw=>Or.inl ?_) ?_
 ·have hw1:=hw.perm hp
  have hbb:=hw1.st.blk (b,C,T') (by simp[hb]);subst hC;have hsrc:Src w enc (.slice (some ⟨b,0,none⟩) [el].length cc) [el]:=src_block (T:=T') (by simpa using hbb);obtain⟨p',c',w',Lo',hr,h1,h2⟩:=append_row (TS:=TS) o.type hw1 hv hsrc (by simp;omega);rw[List.length_append] at hr h1;refine⟨_,w',Lo'++R,?_,⟨p',c',Lo',rfl,rfl,h1⟩,h2⟩;unfold execOp;have hr':(Builtin.append_ #[TS,TS] o.type #[v,.slice (some ⟨b,0,none⟩) 1 cc]).run Tryz.prog w=.ok (.slice p' (l0.length+1) c') w':=hr;simp only[ho,resolve,invoke,builtin,Sem.run_bind,Sem.run_pure,Result.andThen_ok,List.map_toArray,List.map_cons,List.map_nil,hx,hy,hr']
 ·rintro L' u ⟨p,c,Lo',rfl,rfl,h1⟩
  exact hk p c Lo' h1
theorem Fx.twoOf {F:Fx.Flow} {t:Fx.OT} (h:Fx.wpLX ops F (Fx.wpOT ops F Qf t) [k] L a):Fx.xstep ops F k (Fx.wpOT ops F Qf t) L a:=h
end
theorem Mx.obAt {S:List Nat} {w0 w1 w:World} {L1 L:List Blk} {D D':Dat} {F:List Nat} {m:Nat} {o:Obj} (h:Mx S w0 w1 L1 D m o) (hs:Sx (L1.map (·.1)) w1 w L D' F):w.heap[m]? =some o:=by
 have hm:=h.sx.flt m (by simp);refine(hs.st.kept m hm (fun hx=>?_)).trans h.ob;obtain⟨p,hp,e⟩:=List.mem_map.1 hx;exact h.sx.fL m (by simp) p hp e
theorem Mx.stEnd {w0 w1 w:World} {L1 L:List Blk} {D D':Dat} {F:List Nat} {m:Nat} {o:Obj} (h:Mx [] w0 w1 L1 D m o) (hs:Sx (L1.map (·.1)) w1 w L D' F):St [] w0 w L:=by
 refine⟨hs.st.os.trans h.sx.st.os,hs.st.tape.trans h.sx.st.tape,hs.st.output.trans h.sx.st.output,Nat.le_trans h.sx.st.size hs.st.size,fun j hj hjS=>?_,fun p hp=>?_,hs.st.nodup,hs.st.blk⟩
 ·refine(hs.st.kept j (Nat.lt_of_lt_of_le hj h.sx.st.size) (fun hx=>?_)).trans (h.sx.st.kept j hj hjS)
  obtain⟨p,hp,rfl⟩:=List.mem_map.1 hx;rcases h.sx.st.own p hp with h1 |h1
  ·omega
  ·exact hjS h1
 ·rcases hs.st.own p hp with h1 |h1
  ·exact Or.inl (Nat.le_trans h.sx.st.size h1)
  ·obtain⟨q,hq,e⟩:=List.mem_map.1 h1
   rw[←e];exact h.sx.st.own q hq
theorem Sx.thenMx {w0 w w':World} {L:List Blk} {D:Dat} {m:Nat} {o:Obj} (h:Sx [] w0 w [] D []) (hm:Mx [] w w' L D m o):Mx [] w0 w' L D m o:=by
 have hb:=h.end;refine⟨⟨⟨hm.sx.st.os.trans hb.os,hm.sx.st.tape.trans hb.tape,hm.sx.st.output.trans hb.output,Nat.le_trans hb.size hm.sx.st.size,fun j hj hjS=>?_,fun p hp=>?_,hm.sx.st.nodup,hm.sx.st.blk⟩,hm.sx.data,hm.sx.apart,hm.sx.flt,hm.sx.fL,hm.sx.fD,fun x hx=>?_⟩,hm.ob⟩
 ·exact(hm.sx.st.kept j (Nat.lt_of_lt_of_le hj hb.size) (by simp)).trans (h.st.kept j hj (by simp))
 ·rcases hm.sx.st.own p hp with h1 |h1
  ·exact Or.inl (Nat.le_trans hb.size h1)
  ·simp at h1
 ·rcases hm.sx.fS x hx with h1 |h1
  ·simp at h1
  ·exact Or.inr (Nat.le_trans hb.size h1)
theorem St.sub {S:List Nat} {w w':World} {L1 L2:List Blk} (h:St S w w' (L1++L2)):St S w w' L1:=
 ⟨h.os,h.tape,h.output,h.size,h.kept,fun p hp=>h.own p (by simp[hp]),(List.nodup_append.1 (by simpa using h.nodup)).1,fun p hp=>h.blk p (by simp[hp])⟩
theorem xlk2 {ops:Array Oper} {rest:List Oper} {op:Oper} {a:Act} {w:World} {Q:Exit→Act→World→Prop} {m:Nat} {gs:List Gr} {clock:Nat} {T E:TypeId} (hw:Region.wanted op (yielded ops a.tmps)=true) {x y:Operand} (ho:op.op=.lookup T x y false) [t:MapT T E] (hb:w.heap[m]? =some (mapO gs clock)) {n:Int} (hx:a.eval x=.map (some m)) (hy:a.eval y=.int .i64 n) {z u:Value} (hz:∀w,(zeroValue E).run Tryz.prog w=.ok z w) (hu:glook gs n z=u)
  (hk:wpList Tryz.prog ops Q rest (a.put op.dst u) w):wpList Tryz.prog ops Q (op::rest) a w:=
 BigFrame.wpList_want hw fun K hK=>by
  have hr:=run_glook (T:=T) (E:=E) (n:=n) (hz w) hb;unfold Oper.wp execOp;simp only[ho,hx,hy,Sem.run_bind,hr,Result.andThen_ok,hu];exact hK _ _ hk
theorem Sx.front {S:List Nat} {w0 w:World} {L:List Blk} {D:Dat} {F:List Nat} {x:Blk} (h:Sx S w0 w L D F) (hx:x∈L):∃L',Sx S w0 w (x::L') D F:=by
 obtain⟨s,t,rfl⟩:=List.append_of_mem hx;exact⟨s++t,h.perm List.perm_middle⟩
theorem perm_end (a b c d:Blk) (A B X:List Blk):(a::b::(A++(B++(c::d::X)))).Perm ((b::c::d::X)++(A++(B++[a]))):=perm_count fun x=>by
 simp only[List.count_append,List.count_cons,List.count_nil];omega
def ChainPost (w:World) (ch:List Fnd) (e:Ending) (w':World):Prop:=
 ∃v1 v2 Lo1 Lo2,e=.returned (.tuple #[v1,v2])∧OwnR 41 69 slL Lo1 v1 (ch.map (·.s))∧OwnR 3 1 inL Lo2 v2 (ch.map (·.at_))∧St [] w w' (Lo1++Lo2)
def lastB (b:Nat):Option Sl→List Blk
 |none=>[]
 |some t=>[(b,slC t,41)]
def lastV (b:Nat):Option Sl→Value
 |none=>.pointer none
 |some _=>.pointer (some ⟨b,0,none⟩)
set_option maxHeartbeats 8000000 in
theorem chain_calls {D:Dat} {F:List Nat} {w:World} {g:Nat} {d:Dv} (h:DevW D F w g d) (hU:GSums w) (hGB:GBegin w) (hGS:GSha w):Calls Tryz.prog 31 #[.pointer (some ⟨g,0,none⟩)] w (ChainPost w (chainF d)):=by
 have hst:=Sx.start0 w h.data;have hmin:=h.ok.min;have hmax:=h.ok.max;have HL:=Lib.hid (fun wx (hb:Below w.heap.size w wx)=>dlen_calls (h.below hb));have HA:=Lib.hid (fun wx (hb:Below w.heap.size w wx)=>all_scan (h.below hb) (hU.below hb));have HFo:=Lib.hid (fnds_ok (d:=d) (k:=d.now.length));have HC0:=Lib.hid (show chainF d=chainGo (fnds d d.now.length) (leftN (fnds d d.now.length) 1+1) 1 none from rfl);have hfl:=fnds_len d d.now.length;generalize chainF d=ch at*;generalize hN:d.now.length=N at*;obtain⟨fl,hfl2⟩:∃fl,fnds d N=fl:=⟨_,rfl⟩;rw[hfl2] at HFo HC0 hfl;have hne:((N:Int)==0)=false:=by simp;omega
 go_enter Tryz.func31,Tryz.ntmps31;go_wp2_with fail;go_step3;go_wp2_with (first|(with_reducible (refine callB (HL.out _ hst.end) hst ?_;clear hst;intro w' hst))|fail);refine(HA.out _ hst.end).mono ?_;rintro e w2 ⟨m,rs,clock,rfl,hrel0,hm0⟩;rw[hN,hfl2] at hrel0;have hm:=hst.thenMx hm0;have hst:=(show Sx _ _ _ (rs.flatMap (·.lo)++[]) D [] by simpa using hm.start).lay
 have HLk:Hid (∀n:Int,∃lg pv cv,lg=fl.filter (fun f=>f.s.n=n)∧glook (rs.map (·.g)) n (.slice none 0 0)=.slice pv lg.length cv∧RowAt (fun p=>D p∨p∈rs.flatMap (·.lo)) 153 70 fdL pv cv lg):=Lib.hid (fun n=>by
  obtain⟨Lo,rest,lg,hown,hlg,hperm,_⟩:=hrel0.look n 0;have hll:lg.length≤1000:=by rw[hlg];exact Nat.le_trans (List.length_filter_le ..) (by omega)
  obtain⟨pv,cv,hv,hrow⟩:=hown.row (by omega) (D:=fun p=>D p∨p∈rs.flatMap (·.lo)) (fun p hp=>Or.inr (hperm.symm.subset (by simp[hp])))
  exact⟨lg,pv,cv,hlg,hv,hrow⟩)
 have HBl:=Lib.hid (fun wx L (hs:Sx ((rs.flatMap (·.lo)).map (·.1)) w2 wx L (fun p=>D p∨p∈rs.flatMap (·.lo)) [])=>(show Below w.heap.size w wx from(hm.stEnd hs.clear).end));have HEnd:=Lib.hid (fun wx L (hs:Sx ((rs.flatMap (·.lo)).map (·.1)) w2 wx L (fun p=>D p∨p∈rs.flatMap (·.lo)) [])=>hm.stEnd hs);have HOb:=Lib.hid (fun wx L (hs:Sx ((rs.flatMap (·.lo)).map (·.1)) w2 wx L (fun p=>D p∨p∈rs.flatMap (·.lo)) [])=>hm.obAt hs);clear hm hm0 hrel0 HA HL h hN hfl2 hne;generalize (rs.flatMap (·.lo)).map (·.1)=S1 at*;generalize (fun p=>D p∨p∈rs.flatMap (·.lo))=D' at*;generalize rs.map (·.g)=gs at*;go_wp2_with fail;go_step3;go_wp2_with fail;go_loopg [2,3,5,6] (leftN fl 1) (fun gk lv av pv nv wr=>∃(n:Int) (last:Option Sl) (b fuel:Nat) (Lo1 Lo2:List Blk) (out:List Fnd),gk=leftN fl n∧nv=.int .i64 n∧pv=lastV b last∧Hid (1≤n∧n≤1073741825∧leftN fl n<fuel∧out.length+leftN fl n≤512)∧Hid (out++chainGo fl fuel n last=ch)∧Hid (∀t,last=some t→slOk t=true)∧Hid (OwnR 41 69 slL Lo1 lv (out.map (·.s)))∧Hid (OwnR 3 1 inL Lo2 av (out.map (·.at_)))∧Sx S1 w2 wr (Lo1++(Lo2++lastB b last)) D' [])
 case atStart=>
  exact⟨1,none,0,leftN fl 1+1,[],[],[],rfl,rfl,rfl,Lib.hid ⟨by decide,by decide,Nat.lt_succ_self _,by have:=List.length_filter_le (fun f:Fnd=>decide (1≤f.s.n)) fl;unfold leftN;simp only[List.length_nil];omega⟩,Lib.hid HC0.out.symm,Lib.hid (fun t h=>by cases h),Lib.hid (OwnR.none _),Lib.hid (OwnR.none _),hst⟩
 case round=>
  clear hst;obtain⟨n,last,b,fuel,Lo1,Lo2,out,hgk,rfl,rfl,HI,HC,HT,HO1,HO2,hst⟩:=hrel;obtain⟨G,rfl⟩:∃b,b=gk:=⟨_,rfl⟩;obtain⟨lg,pv,cv,hlg,hlv,hrow⟩:=HLk.out n;have hout:=HI.out.2.2.2;have hlgl:lg.length≤512:=by rw[hlg];exact Nat.le_trans (List.length_filter_le ..) (by omega)
  have hnr:1≤n∧n≤1073741825:=⟨HI.out.1,HI.out.2.1⟩;have HG:=Lib.hid (show ∀f∈lg,f∈fl∧f.s.n=n from fun f hf=>by rw[hlg] at hf;simpa using hf);have HNx:Hid (chainNext fl n last=lg.find? (fun f=>slFol f.s last)):=Lib.hid (by unfold chainNext;rw[hlg]);obtain⟨p1,c1,hv1⟩:=HO1.out.slice;obtain⟨p2,c2,hv2⟩:=HO2.out.slice;rw[List.length_map] at hv1 hv2;subst hv1 hv2;have HK:=Lib.hid hgk;have hol:out.length≤512:=by omega
  have HFw:=Lib.hid (fun(f:Fnd) (hf:f∈lg) wx L (hs:Sx S1 w2 wx L D' []) (hin:∀p∈lastB b last,p∈L)=>(show Calls Tryz.prog 61 #[.agg (slC f.s),lastV b last] wx (Ret (.bool (slFol f.s last)) wx) from by
   have hok:=(slOk_iff _).1 (HFo.out f (HG.out f hf).1);unfold SlOk at hok
   cases last with
   |none=>exact sfollows_nil f.s wx
   |some t=>
    have hokt:=(slOk_iff _).1 (HT.out t rfl);unfold SlOk at hokt;have hb:=hs.st.blk (b,slC t,41) (hin _ (by simp[lastB]))
    exact sfollows_calls f.s t wx (SealAt.of (C:=slC t) (Tb:=41) ⟨_,hb⟩ (fun j v hj=>by rw[Nat.zero_add];simpa using hj)) (by omega) (by omega) (hGB.below (HBl.out _ _ hs)) (hGS.below (HBl.out _ _ hs))))
  clear hgk hout hlg HLk;go_wp2_with (first|fail |(with_reducible refine xlk2 rfl rfl (HOb.out _ _ hst) rfl rfl zeroFds hlv ?_));go_loopg [2,3,5,21] lg.length (fun gk lv av pv jv wr=>∃(j:Nat),gk=lg.length-j∧j≤lg.length∧jv=.int .i64 j∧lv=.slice p1 out.length c1∧av=.slice p2 out.length c2∧pv=lastV b last∧Hid ((lg.drop j).find? (fun f=>slFol f.s last)=lg.find? (fun f=>slFol f.s last))∧Sx S1 w2 wr (Lo1++(Lo2++lastB b last)) D' [])
  case atStart=>exact⟨0,by simp,Nat.zero_le _,by go_num,rfl,rfl,rfl,Lib.hid rfl,hst⟩
  case round=>
   clear hst;obtain⟨j,hgj,hj,rfl,rfl,rfl,rfl,HD,hst⟩:=hrel
   by_cases hlt:j<lg.length
   ·obtain⟨g2,off,rfl⟩:=hrow.at_some hlt
    have hld:=hrow.lda hlt;have hmem:lg[j]∈lg:=List.getElem_mem hlt
    have HDr:(lg.drop j).find? (fun f=>slFol f.s last)=if slFol lg[j].s last then some lg[j] else(lg.drop (j+1)).find? (fun f=>slFol f.s last):=by
     rw[List.drop_eq_getElem_cons hlt,List.find?_cons]
     cases slFol lg[j].s last<;>rfl
    generalize lg[j]=f at*;have HF1:=Lib.hid (fun wx L hs hin=>HFw.out f hmem wx L hs hin);have hfn:=(HG.out f hmem);have HGj:=Lib.hid hgj
    by_cases hfol:slFol f.s last=true
    ·rw[hfol] at HF1
     have HX:Hid (chainNext fl n last=some f):=Lib.hid (by rw[HNx.out,←HD.out,HDr,if_pos hfol]);clear HDr HD hgj hfol HNx;have HFn:=Lib.hid hfn;clear hfn;go_wp2_with (first|(with_reducible first|refine xa rfl rfl rfl hst ?_|refine xd rfl rfl rfl hst ?_|(refine xsa rfl rfl rfl rfl hst ?_;clear hst;intro w' hst)|(refine xnw rfl rfl hst ?_;clear hst;intro bn w' hst))|(with_reducible (refine callB (HF1.out _ _ hst (fun p hp=>by simp[hp])) hst ?_;clear hst;intro w' hst)));have hfn:=HFn.out;have hokf:=(slOk_iff _).1 (HFo.out f hfn.1);unfold SlOk at hokf;have hfnn:=hfn.2;have HE0:leftN fl (n+1)<leftN fl n:=leftN_lt hfn.1 hfnn
     have HE1:1≤n+1∧n+1≤1073741825∧leftN fl (n+1)<fuel-1∧(out++[f]).length+leftN fl (n+1)≤512:=by
      have:=HI.out;rw[List.length_append,List.length_singleton];omega
     have HE2:(out++[f])++chainGo fl (fuel-1) (n+1) (some f.s)=ch:=by
      have h1:=HI.out;obtain⟨k,rfl⟩:∃k,fuel=k+1:=⟨fuel-1,by omega⟩;have:=HC.out;rw[chainGo,HX.out] at this;simpa using this
     have HE3:∀t,some f.s=some t→slOk t=true:=fun t h=>by injection h with h;rw[←h];exact HFo.out f hfn.1
     clear hokf hfnn;refine Fx.wp_region_OT ⟨S1,w2,D',[],fun w=>∃L',(bn,fdC f,153)∈L'∧Sx S1 w2 w L' D' [],fun i=>i==3||i==4||i==8||i==9,fun i=> !(i==2||i==7),fun _=>false⟩ (.two [0,1,2,5,6,7] 3 (.two [] 4 (.run [8,9,10,11]) 8 (.run [4,9,10,11])) 8 (.run [3,4,9,10,11])) rfl hst (by kernel_rfl) (by kernel_rfl) (by kernel_rfl) (by kernel_rfl) (by kernel_rfl) ?_;clear hst;show Fx.wpLX _ _ _ [0,1,2,5,6,7] _ (Fx.mkO [] _);refine Fx.val rfl rfl rfl rfl (v:=.slice p1 out.length c1) (Fx.e_mv rfl rfl) ?_;refine Fx.val rfl rfl rfl rfl (Fx.e_fa rfl rfl) ?_;refine Fx.rd rfl rfl rfl rfl (v:=.agg (slL f.s).toArray) (fun w h=>⟨_,by simp,h⟩) (fun w h=>by obtain⟨L',hm,hs⟩:=h;obtain⟨L2,hs⟩:=hs.front hm;exact Fx.r_a rfl rfl w hs) ?_;refine Fx.val rfl rfl rfl rfl (v:=.slice p2 out.length c2) (Fx.e_mv rfl rfl) ?_;refine Fx.val rfl rfl rfl rfl (Fx.e_fa rfl rfl) ?_;refine Fx.rd rfl rfl rfl rfl (v:=.int .i64 f.at_) (fun w h=>⟨_,by simp,h⟩) (fun w h=>by obtain⟨L',hm,hs⟩:=h;obtain⟨L2,hs⟩:=hs.front hm;exact Fx.r_1 rfl rfl w hs) ?_;refine And.intro (Fx.twoOf ?_) (Fx.runOf ?_)
     ·refine Fx.mk1 (TS:=82) rfl rfl rfl rfl (run_bssl f.s) ?_
      intro b3;refine⟨Or.inr (fun w h=>⟨_,by simp,h⟩),?_⟩;refine And.intro (Fx.runOf ?_) (Fx.runOf ?_)
      ·refine Fx.apG (TS:=82) (el:=f.s) (C:=slC f.s) (T':=41) (Lo:=Lo1) (R:=(b3,slC f.s,41)::(bn,fdC f,153)::(Lo2++lastB b last)) rfl rfl rfl (perm_count fun x=>by simp only[List.count_append,List.count_cons];omega) rfl rfl HO1.out (by simp) rfl (by rw[List.length_map];omega) ?_
       intro q1 d1 Lo1' hown1;refine⟨Or.inr (fun w h=>⟨_,by simp,h⟩),?_⟩;refine Fx.mk1 (TS:=48) rfl rfl rfl rfl (run_bsint f.at_) ?_;intro b8;refine⟨Or.inr (fun w h=>⟨_,by simp,h⟩),?_⟩;refine Fx.apG (TS:=48) (el:=f.at_) (C:=#[.int .i64 f.at_]) (T':=3) (Lo:=Lo2) (R:=(b8,#[.int .i64 f.at_],3)::(Lo1'++((b3,slC f.s,41)::(bn,fdC f,153)::lastB b last))) rfl rfl rfl (perm_count fun x=>by simp only[List.count_append,List.count_cons];omega) rfl rfl HO2.out (by simp) rfl (by rw[List.length_map];omega) ?_;intro q2 d2 Lo2' hown2;refine⟨Or.inr (fun w h=>⟨_,by simp,h⟩),?_⟩;refine Fx.val rfl rfl rfl rfl (v:=.slice q1 ((out.map (·.s)).length+1) d1) (Fx.e_as rfl rfl) ?_;refine Fx.val rfl rfl rfl rfl (v:=.slice q2 ((out.map (·.at_)).length+1) d2) (Fx.e_as rfl rfl) ?_;intro w' hst;have hst:Sx S1 w2 w' ((bn,fdC f,153)::(Lo1'++(Lo2'++((b3,slC f.s,41)::(b8,#[.int .i64 f.at_],3)::lastB b last)))) D' []:=hst.perm (perm_count fun x=>by simp only[List.count_append,List.count_cons];omega);generalize hact:Fx.mkO _ _=act;have hv0:act.tmps.getD 0 undef=.pointer (some ⟨g,0,none⟩):=by rw[←hact];kernel_rfl
       have hv1:act.tmps.getD 1 undef=undef:=by rw[←hact];kernel_rfl
       have hv2:act.tmps.getD 2 undef=.slice q1 ((out.map (·.s)).length+1) d1:=by rw[←hact];kernel_rfl
       have hv3:act.tmps.getD 3 undef=.slice q2 ((out.map (·.at_)).length+1) d2:=by rw[←hact];kernel_rfl
       have hv4:act.tmps.getD 4 undef=.map (some m):=by rw[←hact];kernel_rfl
       have hv5:act.tmps.getD 5 undef=lastV b last:=by rw[←hact];kernel_rfl
       have hv6:act.tmps.getD 6 undef=.int .i64 n:=by rw[←hact];kernel_rfl
       have hv7:act.tmps.getD 7 undef=undef:=by rw[←hact];kernel_rfl
       have hv8:act.tmps.getD 8 undef=.pointer (some ⟨bn,0,none⟩):=by rw[←hact];kernel_rfl
       have hv10:act.tmps.getD 10 undef=.pointer (some ⟨g,0,none⟩):=by rw[←hact];kernel_rfl
       have hv11:act.tmps.getD 11 undef=.int .i64 N:=by rw[←hact];kernel_rfl
       have hv12:act.tmps.getD 12 undef=.bool false:=by rw[←hact];kernel_rfl
       have hv13:act.tmps.getD 13 undef=.pointer (some ⟨g,0,none⟩):=by rw[←hact];kernel_rfl
       have hv14:act.tmps.getD 14 undef=.map (some m):=by rw[←hact];kernel_rfl
       obtain⟨fZ,hfZ,hact2⟩:=act_lit act 44 (by rw[←hact];kernel_rfl) (by rw[←hact];kernel_rfl);clear hact;have he0:fZ 0=.pointer (some ⟨g,0,none⟩):=(hfZ 0).symm.trans hv0;have he1:fZ 1=undef:=(hfZ 1).symm.trans hv1;have he2:fZ 2=.slice q1 ((out.map (·.s)).length+1) d1:=(hfZ 2).symm.trans hv2;have he3:fZ 3=.slice q2 ((out.map (·.at_)).length+1) d2:=(hfZ 3).symm.trans hv3;have he4:fZ 4=.map (some m):=(hfZ 4).symm.trans hv4;have he5:fZ 5=lastV b last:=(hfZ 5).symm.trans hv5;have he6:fZ 6=.int .i64 n:=(hfZ 6).symm.trans hv6;have he7:fZ 7=undef:=(hfZ 7).symm.trans hv7;have he8:fZ 8=.pointer (some ⟨bn,0,none⟩):=(hfZ 8).symm.trans hv8;have he10:fZ 10=.pointer (some ⟨g,0,none⟩):=(hfZ 10).symm.trans hv10;have he11:fZ 11=.int .i64 N:=(hfZ 11).symm.trans hv11;have he12:fZ 12=.bool false:=(hfZ 12).symm.trans hv12;have he13:fZ 13=.pointer (some ⟨g,0,none⟩):=(hfZ 13).symm.trans hv13;have he14:fZ 14=.map (some m):=(hfZ 14).symm.trans hv14;simp only[show List.range 44=[0,1,2,3,4,5,6,7,8,9,10,11,12,13,14,15,16,17,18,19,20,21,22,23,24,25,26,27,28,29,30,31,32,33,34,35,36,37,38,39,40,41,42,43] from rfl,List.map_cons,List.map_nil,he0,he1,he2,he3,he4,he5,he6,he7,he8,he10,he11,he12,he13,he14] at hact2;clear hfZ hv0 he0 hv1 he1 hv2 he2 hv3 he3 hv4 he4 hv5 he5 hv6 he6 hv7 he7 hv8 he8 hv10 he10 hv11 he11 hv12 he12 hv13 he13 hv14 he14;subst hact2;obtain⟨bf,rfl⟩:∃b,b=bn:=⟨_,rfl⟩;go_wp2_with (with_reducible first|refine xa rfl rfl rfl hst ?_|(refine xsa rfl rfl rfl rfl hst ?_;clear hst;intro w' hst)|(refine xnw rfl rfl hst ?_;clear hst;intro bn w' hst));go_roundg (leftN fl (n+1))
       case rel=>exact⟨n+1,some f.s,bn,fuel-1,Lo1',Lo2',out++[f],rfl,rfl,rfl,Lib.hid HE1,Lib.hid HE2,Lib.hid HE3,Lib.hid (by rw[List.length_map] at hown1;rw[List.map_append];exact hown1),Lib.hid (by rw[List.length_map] at hown2;rw[List.map_append];exact hown2),(hst.perm (perm_end ..)).dropL⟩
       case measure=>have:=HE0;rw[HK.out];exact this
      ·refine Fx.mk1 (TS:=48) rfl rfl rfl rfl (run_bsint f.at_) ?_
       intro b8;refine⟨Or.inr (fun w h=>⟨_,by simp,h⟩),?_⟩;refine Fx.apG (TS:=82) (el:=f.s) (C:=slC f.s) (T':=41) (Lo:=Lo1) (R:=(b8,#[.int .i64 f.at_],3)::(b3,slC f.s,41)::(bn,fdC f,153)::(Lo2++lastB b last)) rfl rfl rfl (perm_count fun x=>by simp only[List.count_append,List.count_cons];omega) rfl rfl HO1.out (by simp) rfl (by rw[List.length_map];omega) ?_;intro q1 d1 Lo1' hown1;refine⟨Or.inr (fun w h=>⟨_,by simp,h⟩),?_⟩;refine Fx.apG (TS:=48) (el:=f.at_) (C:=#[.int .i64 f.at_]) (T':=3) (Lo:=Lo2) (R:=(b8,#[.int .i64 f.at_],3)::(Lo1'++((b3,slC f.s,41)::(bn,fdC f,153)::lastB b last))) rfl rfl rfl (perm_count fun x=>by simp only[List.count_append,List.count_cons];omega) rfl rfl HO2.out (by simp) rfl (by rw[List.length_map];omega) ?_;intro q2 d2 Lo2' hown2;refine⟨Or.inr (fun w h=>⟨_,by simp,h⟩),?_⟩;refine Fx.val rfl rfl rfl rfl (v:=.slice q1 ((out.map (·.s)).length+1) d1) (Fx.e_as rfl rfl) ?_;refine Fx.val rfl rfl rfl rfl (v:=.slice q2 ((out.map (·.at_)).length+1) d2) (Fx.e_as rfl rfl) ?_;intro w' hst;have hst:Sx S1 w2 w' ((bn,fdC f,153)::(Lo1'++(Lo2'++((b3,slC f.s,41)::(b8,#[.int .i64 f.at_],3)::lastB b last)))) D' []:=hst.perm (perm_count fun x=>by simp only[List.count_append,List.count_cons];omega);generalize hact:Fx.mkO _ _=act;have hv0:act.tmps.getD 0 undef=.pointer (some ⟨g,0,none⟩):=by rw[←hact];kernel_rfl
       have hv1:act.tmps.getD 1 undef=undef:=by rw[←hact];kernel_rfl
       have hv2:act.tmps.getD 2 undef=.slice q1 ((out.map (·.s)).length+1) d1:=by rw[←hact];kernel_rfl
       have hv3:act.tmps.getD 3 undef=.slice q2 ((out.map (·.at_)).length+1) d2:=by rw[←hact];kernel_rfl
       have hv4:act.tmps.getD 4 undef=.map (some m):=by rw[←hact];kernel_rfl
       have hv5:act.tmps.getD 5 undef=lastV b last:=by rw[←hact];kernel_rfl
       have hv6:act.tmps.getD 6 undef=.int .i64 n:=by rw[←hact];kernel_rfl
       have hv7:act.tmps.getD 7 undef=undef:=by rw[←hact];kernel_rfl
       have hv8:act.tmps.getD 8 undef=.pointer (some ⟨bn,0,none⟩):=by rw[←hact];kernel_rfl
       have hv10:act.tmps.getD 10 undef=.pointer (some ⟨g,0,none⟩):=by rw[←hact];kernel_rfl
       have hv11:act.tmps.getD 11 undef=.int .i64 N:=by rw[←hact];kernel_rfl
       have hv12:act.tmps.getD 12 undef=.bool false:=by rw[←hact];kernel_rfl
       have hv13:act.tmps.getD 13 undef=.pointer (some ⟨g,0,none⟩):=by rw[←hact];kernel_rfl
       have hv14:act.tmps.getD 14 undef=.map (some m):=by rw[←hact];kernel_rfl
       obtain⟨fZ,hfZ,hact2⟩:=act_lit act 44 (by rw[←hact];kernel_rfl) (by rw[←hact];kernel_rfl);clear hact;have he0:fZ 0=.pointer (some ⟨g,0,none⟩):=(hfZ 0).symm.trans hv0;have he1:fZ 1=undef:=(hfZ 1).symm.trans hv1;have he2:fZ 2=.slice q1 ((out.map (·.s)).length+1) d1:=(hfZ 2).symm.trans hv2;have he3:fZ 3=.slice q2 ((out.map (·.at_)).length+1) d2:=(hfZ 3).symm.trans hv3;have he4:fZ 4=.map (some m):=(hfZ 4).symm.trans hv4;have he5:fZ 5=lastV b last:=(hfZ 5).symm.trans hv5;have he6:fZ 6=.int .i64 n:=(hfZ 6).symm.trans hv6;have he7:fZ 7=undef:=(hfZ 7).symm.trans hv7;have he8:fZ 8=.pointer (some ⟨bn,0,none⟩):=(hfZ 8).symm.trans hv8;have he10:fZ 10=.pointer (some ⟨g,0,none⟩):=(hfZ 10).symm.trans hv10;have he11:fZ 11=.int .i64 N:=(hfZ 11).symm.trans hv11;have he12:fZ 12=.bool false:=(hfZ 12).symm.trans hv12;have he13:fZ 13=.pointer (some ⟨g,0,none⟩):=(hfZ 13).symm.trans hv13;have he14:fZ 14=.map (some m):=(hfZ 14).symm.trans hv14;simp only[show List.range 44=[0,1,2,3,4,5,6,7,8,9,10,11,12,13,14,15,16,17,18,19,20,21,22,23,24,25,26,27,28,29,30,31,32,33,34,35,36,37,38,39,40,41,42,43] from rfl,List.map_cons,List.map_nil,he0,he1,he2,he3,he4,he5,he6,he7,he8,he10,he11,he12,he13,he14] at hact2;clear hfZ hv0 he0 hv1 he1 hv2 he2 hv3 he3 hv4 he4 hv5 he5 hv6 he6 hv7 he7 hv8 he8 hv10 he10 hv11 he11 hv12 he12 hv13 he13 hv14 he14;subst hact2;obtain⟨bf,rfl⟩:∃b,b=bn:=⟨_,rfl⟩;go_wp2_with (with_reducible first|refine xa rfl rfl rfl hst ?_|(refine xsa rfl rfl rfl rfl hst ?_;clear hst;intro w' hst)|(refine xnw rfl rfl hst ?_;clear hst;intro bn w' hst));go_roundg (leftN fl (n+1))
       case rel=>exact⟨n+1,some f.s,bn,fuel-1,Lo1',Lo2',out++[f],rfl,rfl,rfl,Lib.hid HE1,Lib.hid HE2,Lib.hid HE3,Lib.hid (by rw[List.length_map] at hown1;rw[List.map_append];exact hown1),Lib.hid (by rw[List.length_map] at hown2;rw[List.map_append];exact hown2),(hst.perm (perm_end ..)).dropL⟩
       case measure=>have:=HE0;rw[HK.out];exact this
     ·refine Fx.mk1 (TS:=48) rfl rfl rfl rfl (run_bsint f.at_) ?_
      intro b8;refine⟨Or.inr (fun w h=>⟨_,by simp,h⟩),?_⟩;refine Fx.mk1 (TS:=82) rfl rfl rfl rfl (run_bssl f.s) ?_;intro b3;refine⟨Or.inr (fun w h=>⟨_,by simp,h⟩),?_⟩;refine Fx.apG (TS:=82) (el:=f.s) (C:=slC f.s) (T':=41) (Lo:=Lo1) (R:=(b8,#[.int .i64 f.at_],3)::(b3,slC f.s,41)::(bn,fdC f,153)::(Lo2++lastB b last)) rfl rfl rfl (perm_count fun x=>by simp only[List.count_append,List.count_cons];omega) rfl rfl HO1.out (by simp) rfl (by rw[List.length_map];omega) ?_;intro q1 d1 Lo1' hown1;refine⟨Or.inr (fun w h=>⟨_,by simp,h⟩),?_⟩;refine Fx.apG (TS:=48) (el:=f.at_) (C:=#[.int .i64 f.at_]) (T':=3) (Lo:=Lo2) (R:=(b8,#[.int .i64 f.at_],3)::(Lo1'++((b3,slC f.s,41)::(bn,fdC f,153)::lastB b last))) rfl rfl rfl (perm_count fun x=>by simp only[List.count_append,List.count_cons];omega) rfl rfl HO2.out (by simp) rfl (by rw[List.length_map];omega) ?_;intro q2 d2 Lo2' hown2;refine⟨Or.inr (fun w h=>⟨_,by simp,h⟩),?_⟩;refine Fx.val rfl rfl rfl rfl (v:=.slice q1 ((out.map (·.s)).length+1) d1) (Fx.e_as rfl rfl) ?_;refine Fx.val rfl rfl rfl rfl (v:=.slice q2 ((out.map (·.at_)).length+1) d2) (Fx.e_as rfl rfl) ?_;intro w' hst;have hst:Sx S1 w2 w' ((bn,fdC f,153)::(Lo1'++(Lo2'++((b3,slC f.s,41)::(b8,#[.int .i64 f.at_],3)::lastB b last)))) D' []:=hst.perm (perm_count fun x=>by simp only[List.count_append,List.count_cons];omega);generalize hact:Fx.mkO _ _=act;have hv0:act.tmps.getD 0 undef=.pointer (some ⟨g,0,none⟩):=by rw[←hact];kernel_rfl
      have hv1:act.tmps.getD 1 undef=undef:=by rw[←hact];kernel_rfl
      have hv2:act.tmps.getD 2 undef=.slice q1 ((out.map (·.s)).length+1) d1:=by rw[←hact];kernel_rfl
      have hv3:act.tmps.getD 3 undef=.slice q2 ((out.map (·.at_)).length+1) d2:=by rw[←hact];kernel_rfl
      have hv4:act.tmps.getD 4 undef=.map (some m):=by rw[←hact];kernel_rfl
      have hv5:act.tmps.getD 5 undef=lastV b last:=by rw[←hact];kernel_rfl
      have hv6:act.tmps.getD 6 undef=.int .i64 n:=by rw[←hact];kernel_rfl
      have hv7:act.tmps.getD 7 undef=undef:=by rw[←hact];kernel_rfl
      have hv8:act.tmps.getD 8 undef=.pointer (some ⟨bn,0,none⟩):=by rw[←hact];kernel_rfl
      have hv10:act.tmps.getD 10 undef=.pointer (some ⟨g,0,none⟩):=by rw[←hact];kernel_rfl
      have hv11:act.tmps.getD 11 undef=.int .i64 N:=by rw[←hact];kernel_rfl
      have hv12:act.tmps.getD 12 undef=.bool false:=by rw[←hact];kernel_rfl
      have hv13:act.tmps.getD 13 undef=.pointer (some ⟨g,0,none⟩):=by rw[←hact];kernel_rfl
      have hv14:act.tmps.getD 14 undef=.map (some m):=by rw[←hact];kernel_rfl
      obtain⟨fZ,hfZ,hact2⟩:=act_lit act 44 (by rw[←hact];kernel_rfl) (by rw[←hact];kernel_rfl);clear hact;have he0:fZ 0=.pointer (some ⟨g,0,none⟩):=(hfZ 0).symm.trans hv0;have he1:fZ 1=undef:=(hfZ 1).symm.trans hv1;have he2:fZ 2=.slice q1 ((out.map (·.s)).length+1) d1:=(hfZ 2).symm.trans hv2;have he3:fZ 3=.slice q2 ((out.map (·.at_)).length+1) d2:=(hfZ 3).symm.trans hv3;have he4:fZ 4=.map (some m):=(hfZ 4).symm.trans hv4;have he5:fZ 5=lastV b last:=(hfZ 5).symm.trans hv5;have he6:fZ 6=.int .i64 n:=(hfZ 6).symm.trans hv6;have he7:fZ 7=undef:=(hfZ 7).symm.trans hv7;have he8:fZ 8=.pointer (some ⟨bn,0,none⟩):=(hfZ 8).symm.trans hv8;have he10:fZ 10=.pointer (some ⟨g,0,none⟩):=(hfZ 10).symm.trans hv10;have he11:fZ 11=.int .i64 N:=(hfZ 11).symm.trans hv11;have he12:fZ 12=.bool false:=(hfZ 12).symm.trans hv12;have he13:fZ 13=.pointer (some ⟨g,0,none⟩):=(hfZ 13).symm.trans hv13;have he14:fZ 14=.map (some m):=(hfZ 14).symm.trans hv14;simp only[show List.range 44=[0,1,2,3,4,5,6,7,8,9,10,11,12,13,14,15,16,17,18,19,20,21,22,23,24,25,26,27,28,29,30,31,32,33,34,35,36,37,38,39,40,41,42,43] from rfl,List.map_cons,List.map_nil,he0,he1,he2,he3,he4,he5,he6,he7,he8,he10,he11,he12,he13,he14] at hact2;clear hfZ hv0 he0 hv1 he1 hv2 he2 hv3 he3 hv4 he4 hv5 he5 hv6 he6 hv7 he7 hv8 he8 hv10 he10 hv11 he11 hv12 he12 hv13 he13 hv14 he14;subst hact2;obtain⟨bf,rfl⟩:∃b,b=bn:=⟨_,rfl⟩;go_wp2_with (with_reducible first|refine xa rfl rfl rfl hst ?_|(refine xsa rfl rfl rfl rfl hst ?_;clear hst;intro w' hst)|(refine xnw rfl rfl hst ?_;clear hst;intro bn w' hst));go_roundg (leftN fl (n+1))
      case rel=>exact⟨n+1,some f.s,bn,fuel-1,Lo1',Lo2',out++[f],rfl,rfl,rfl,Lib.hid HE1,Lib.hid HE2,Lib.hid HE3,Lib.hid (by rw[List.length_map] at hown1;rw[List.map_append];exact hown1),Lib.hid (by rw[List.length_map] at hown2;rw[List.map_append];exact hown2),(hst.perm (perm_end ..)).dropL⟩
      case measure=>have:=HE0;rw[HK.out];exact this
    ·clear hfn
     have hfol2:slFol f.s last=false:=by simpa using hfol
     rw[hfol2] at HF1;have HX:Hid ((lg.drop (j+1)).find? (fun f=>slFol f.s last)=lg.find? (fun f=>slFol f.s last)):=Lib.hid (by rw[←HD.out,HDr,if_neg hfol]);clear HDr HD hgj hfol hfol2 HNx;go_wp2_with (first|(with_reducible first|refine xa rfl rfl rfl hst ?_|refine xd rfl rfl rfl hst ?_|(refine xsa rfl rfl rfl rfl hst ?_;clear hst;intro w' hst)|(refine xnw rfl rfl hst ?_;clear hst;intro bn w' hst))|(with_reducible (refine callB (HF1.out _ _ hst (fun p hp=>by simp[hp])) hst ?_;clear hst;intro w' hst)));go_roundg (lg.length-(j+1))
     case rel=>exact⟨j+1,rfl,by omega,by go_num,rfl,rfl,rfl,HX,hst.drop⟩
     case measure=>have:=HGj.out;omega
   ·obtain rfl:j=lg.length:=by omega
    have hnone:chainNext fl n last=none:=by
     rw[HNx.out,←HD.out,List.drop_length];rfl
    have hch:out=ch:=by
     have:=HC.out;obtain⟨_,_,h3,_⟩:=HI.out
     cases fuel with
     |zero=>omega
     |succ k=>rw[chainGo,hnone] at this;simpa using this
    subst hch;go_wp2_with fail
    try rw[Exit.noGoto_ret]
    go_ret2;exact⟨_,_,Lo1,Lo2,rfl,by simpa using HO1.out,by simpa using HO2.out,(HEnd.out _ _ (show Sx S1 w2 _ ((Lo1++Lo2)++lastB b last) D' [] by rw[List.append_assoc];exact hst)).sub⟩
end Go.Proofs.YtdkeiefgkgpcbaaGreatDoor
