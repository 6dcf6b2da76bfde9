/- Steps of the proof: ScanAll. -/
import Derived.Test.YtdkeiefgkgpcbaaGreatDoorP20
set_option linter.unusedVariables false
set_option linter.unusedSimpArgs false
set_option maxRecDepth 100000
namespace Go.Proofs.YtdkeiefgkgpcbaaGreatDoor
open Go.RowKit
structure Fnd where
 s:Sl
 at_:Int
def fdL (f:Fnd):List Value:=slL f.s++[.int .i64 f.at_]
def fdC (f:Fnd):Array Value:=(fdL f).toArray
def fd0:Fnd:=⟨sl0,0⟩
theorem fdL_one (p:Fnd):(fdL p).all (·.oneCell')=true:=rfl
instance encFd:Enc fdL 70:=⟨fun _=>rfl,fun x v hv=>List.all_eq_true.1 (fdL_one x) v hv⟩
instance aggFd:AggT 153 70:=⟨fun w=>by kernel_rfl,by kernel_rfl⟩
instance eltFd:Elt 153 70:=⟨.agg (fdC fd0),112,by kernel_rfl,rfl,by decide,by decide⟩
instance sltFd:SlT 151 153:=⟨by kernel_rfl⟩
instance mapFd:MapT 149 151:=⟨3,by kernel_rfl,by kernel_rfl⟩
instance wrSl (p q:Sl):WrAt (slC p) 0 69 (.agg (slL q).toArray) (slC q):=wr_row _ _ _ _ (slL q) rfl rfl (Nat.le_of_ble_eq_true rfl) (by kernel_rfl)
theorem zeroFds (w:World):(zeroValue 151).run Tryz.prog w=.ok (.slice none 0 0) w:=by kernel_rfl
def fndAt (d:Dv) (k:Nat):List Fnd:=if(dRead d k).2=0∧(slOf (dRead d k).1).2=0 then[⟨(slOf (dRead d k).1).1,k⟩] else[]
def fnds (d:Dv) (k:Nat):List Fnd:=(List.range k).flatMap (fndAt d)
theorem fnds_succ (d:Dv) (k:Nat):fnds d (k+1)=fnds d k++fndAt d k:=by unfold fnds;rw[List.range_succ,List.flatMap_append];simp
structure Rc where
 g:Gr
 lo:List Blk
 l:List Fnd
structure MapRel (rs:List Rc) (fl:List Fnd):Prop where
 own:∀r∈rs,OwnR 153 70 fdL r.lo r.g.val r.l
 nd:(rs.map (·.g.key)).Nodup
 eq:∀r∈rs,r.l=fl.filter (fun f=>f.s.n=r.g.key)
 all:∀f∈fl,∃r∈rs,r.g.key=f.s.n
theorem rsplit (n:Int):∀rs:List Rc,(∀r∈rs,r.g.key≠n)∨∃a r b,rs=a++r::b∧r.g.key=n
 | []=>Or.inl (by simp)
 |r::rs=>by
  by_cases h:r.g.key=n
  ·exact Or.inr ⟨[],r,rs,rfl,h⟩
  ·rcases rsplit n rs with h1 |⟨a,x,b,rfl,hx⟩
   ·exact Or.inl (fun x hx=>by rcases List.mem_cons.1 hx with rfl |hx;exact h;exact h1 x hx)
   ·exact Or.inr ⟨r::a,x,b,rfl,hx⟩
theorem MapRel.look {rs:List Rc} {fl:List Fnd} (h:MapRel rs fl) (n:Int) (clock:Nat):∃(Lo rest:List Blk) (l:List Fnd),OwnR 153 70 fdL Lo (glook (rs.map (·.g)) n (.slice none 0 0)) l∧l=fl.filter (fun f=>f.s.n=n)∧(rs.flatMap (·.lo)).Perm (Lo++rest)∧
  ∀v' Lo' f,f.s.n=n→OwnR 153 70 fdL Lo' v' (l++[f])→∃rs':List Rc,(gput (rs.map (·.g)) clock n v').1=rs'.map (·.g)∧MapRel rs' (fl++[f])∧(rs'.flatMap (·.lo)).Perm (Lo'++rest):=by
 rcases rsplit n rs with hno |⟨a,r,b,rfl,hr⟩
 ·have hf:gfind n (rs.map (·.g)) 0=none:=gfind_none (fun g hg=>by obtain⟨r,hr,rfl⟩:=List.mem_map.1 hg;exact hno r hr)
  have hfl:fl.filter (fun f=>f.s.n=n)=[]:=by
   rw[List.filter_eq_nil_iff]
   intro f hf2
   obtain⟨r,hr,e⟩:=h.all f hf2
   simp only[decide_eq_true_eq]
   intro e2
   exact hno r hr (e.trans e2)
  refine⟨[],rs.flatMap (·.lo),[],?_,hfl.symm,by simp,fun v' Lo' f hfn ho=>?_⟩
  ·unfold glook;rw[hf];exact OwnR.none _
  ·refine⟨rs++[⟨⟨n,v',clock⟩,Lo',[f]⟩],?_,⟨fun r hr=>?_,?_,fun r hr=>?_,fun x hx=>?_⟩,?_⟩
   ·unfold gput;rw[hf];simp
   ·rcases List.mem_append.1 hr with hr |hr
    ·exact h.own r hr
    ·obtain rfl:=List.mem_singleton.1 hr;simpa using ho
   ·rw[List.map_append,List.nodup_append]
    exact⟨h.nd,by simp,fun x hx y hy e=>by
     obtain⟨r,hr,rfl⟩:=List.mem_map.1 hx
     simp at hy
     exact hno r hr (e.trans hy)⟩
   ·rcases List.mem_append.1 hr with hr |hr
    ·rw[List.filter_append,←h.eq r hr]
     have:¬n=r.g.key:=fun e=>hno r hr e.symm
     simp[hfn,this]
    ·obtain rfl:=List.mem_singleton.1 hr
     rw[List.filter_append]
     simp[hfl,hfn]
   ·rcases List.mem_append.1 hx with hx |hx
    ·obtain⟨r,hr,e⟩:=h.all x hx
     exact⟨r,by simp[hr],e⟩
    ·obtain rfl:=List.mem_singleton.1 hx
     exact⟨_,List.mem_append_right _ (List.mem_singleton.2 rfl),hfn.symm⟩
   ·rw[List.flatMap_append]
    simpa using List.perm_append_comm
 ·have hnd:=h.nd
  rw[List.map_append,List.map_cons,List.nodup_append,List.nodup_cons] at hnd
  have ha:∀x∈a.map (·.g),x.key≠n:=fun x hx e=>by
   obtain⟨q,hq,rfl⟩:=List.mem_map.1 hx
   exact hnd.2.2 _ (List.mem_map.2 ⟨q,hq,rfl⟩) _ (List.mem_cons_self ..) (e.trans hr.symm)
  have hb:∀q∈b,q.g.key≠n:=fun q hq e=>hnd.2.1.1 (List.mem_map.2 ⟨q,hq,e.trans hr.symm⟩)
  have hf:gfind n ((a++r::b).map (·.g)) 0=some (a.length,r.g.val):=by
   rw[List.map_append,List.map_cons,gfind_at hr ha,List.length_map,Nat.zero_add]
  refine⟨r.lo,a.flatMap (·.lo)++b.flatMap (·.lo),r.l,?_,?_,?_,fun v' Lo' f hfn ho=>?_⟩
  ·unfold glook;rw[hf];exact h.own r (by simp)
  ·rw[h.eq r (by simp),hr]
  ·rw[List.flatMap_append,List.flatMap_cons]
   exact perm_count fun x=>by simp only[List.count_append];omega
  ·refine⟨a++⟨{r.g with val:=v'},Lo',r.l++[f]⟩::b,?_,⟨fun q hq=>?_,?_,fun q hq=>?_,fun x hx=>?_⟩,?_⟩
   ·unfold gput;rw[hf]
    simp only[List.map_append,List.map_cons]
    rw[List.modify_eq_take_drop]<;>simp
   ·rcases List.mem_append.1 hq with hq |hq
    ·exact h.own q (by simp[hq])
    ·rcases List.mem_cons.1 hq with rfl |hq
     ·exact ho
     ·exact h.own q (by simp[hq])
   ·have:=h.nd
    simpa using this
   ·have hoth:∀q,q.g.key≠n→q∈a++r::b→q.l=(fl++[f]).filter (fun f=>f.s.n=q.g.key):=fun q hne hq=>by
     rw[List.filter_append,←h.eq q hq]
     have:¬n=q.g.key:=fun e=>hne e.symm
     simp[hfn,this]
    rcases List.mem_append.1 hq with hq |hq
    ·exact hoth q (ha _ (List.mem_map.2 ⟨q,hq,rfl⟩)) (by simp[hq])
    ·rcases List.mem_cons.1 hq with rfl |hq
     ·simp only
      rw[List.filter_append,←h.eq r (by simp)]
      simp[hfn,hr]
     ·exact hoth q (hb q hq) (by simp[hq])
   ·have hkey:∀k,(∃q∈a++r::b,q.g.key=k)→∃q∈a++(⟨{r.g with val:=v'},Lo',r.l++[f]⟩:Rc)::b,q.g.key=k:=by
     rintro k ⟨q,hq,e⟩
     rcases List.mem_append.1 hq with hq |hq
     ·exact⟨q,by simp[hq],e⟩
     ·rcases List.mem_cons.1 hq with rfl |hq
      ·exact⟨⟨{q.g with val:=v'},Lo',q.l++[f]⟩,by simp,e⟩
      ·exact⟨q,by simp[hq],e⟩
    rcases List.mem_append.1 hx with hx |hx
    ·exact hkey _ (h.all x hx)
    ·obtain rfl:=List.mem_singleton.1 hx
     exact hkey _ ⟨r,by simp,hr.trans hfn.symm⟩
   ·rw[List.flatMap_append,List.flatMap_cons]
    exact perm_count fun x=>by simp only[List.count_append];omega
theorem run_bsf (f:Fnd) (w:World):(Instr.buildSlice 151 1 #[(0,.agg (fdC f))]).run Tryz.prog w=.ok (.slice (some ⟨w.heap.size,0,none⟩) 1 1) (w.alloc (.cells (fdC f) 153)):=by kernel_rfl
def allFlow (w0:World) (D:Dat) (m b7:Nat) (s:Sl) (o:Obj):Fm.Flow where
 σ:=List Blk×Obj
 I p w:=Mx [] w0 w p.1 D m p.2
 below _ _ _ h hb:=h.below hb
 B w:=∃L',Sx [] w0 w ((b7,slC s,41)::L') D [m]∧w.heap[m]? =some o
 special i:=i==10||i==11||i==12
 pure i:= !(i==2||i==5||i==6||i==7)
 late i:=i==12
section
variable {w0:World} {D:Dat} {m b7:Nat} {s:Sl} {o0 oo:Obj} {ρ:Operand→Value} {op:Oper} {x y z:Operand}
theorem all_look {w:World} {T E:TypeId} {gs:List Gr} {clock:Nat} {n:Int} {u:Value} [t:MapT T E] (hz:∀w,(zeroValue E).run Tryz.prog w=.ok u w) (ho:op.op=.lookup T x y false) (hx:ρ x=.map (some m)) (hy:ρ y=.int .i64 n) (hb:w.heap[m]? =some (mapO gs clock)):(execOp ρ op).run Tryz.prog w=.ok (.value (glook gs n u)) w:=by
 have hr:=run_glook (T:=T) (E:=E) (n:=n) (hz w) hb
 unfold execOp
 simp only[ho,hx,hy,Sem.run_bind,hr,Result.andThen_ok]
 rfl
theorem all_mk {L0:List Blk} {f:Fnd} (ho:op.op=.buildSlice 151 1 #[(0,y)]) (hy:ρ y=.agg (fdC f)):Fm.SP (allFlow w0 D m b7 s o0) (L0,oo) (execOp ρ op) (fun p u=>∃b,p=((b,fdC f,153)::L0,oo)∧u=.slice (some ⟨b,0,none⟩) 1 1):=fun w hw=>by
 refine Or.inl ⟨.slice (some ⟨w.heap.size,0,none⟩) 1 1,w.alloc (.cells (fdC f) 153),((w.heap.size,fdC f,153)::L0,oo),?_,⟨_,rfl,rfl⟩,Mx.move hw ((Mx.start hw).alloc _ _)⟩
 unfold execOp
 simp only[ho,List.map_toArray,List.map_cons,List.map_nil,hy,Sem.run_bind,run_bsf,Result.andThen_ok]
 rfl
theorem all_ap {Lo rest:List Blk} {b:Nat} {f:Fnd} {v:Value} {l:List Fnd} {B:Blk} (ho:op.op=.call {callee:=.builtin .append,args:=#[x,y],argTypes:=#[151,151]}) (hx:ρ x=v) (hy:ρ y=.slice (some ⟨b,0,none⟩) 1 1) (hv:OwnR 153 70 fdL Lo v l) (hl:l.length≤1000):
  Fm.SP (allFlow w0 D m b7 s o0) ((b,fdC f,153)::B::(Lo++rest),oo) (execOp ρ op) (fun p u=>∃Lo' q c,p=(Lo'++((b,fdC f,153)::B::rest),oo)∧u=.slice q (l.length+1) c∧OwnR 153 70 fdL Lo' (.slice q (l.length+1) c) (l++[f])):=fun w hw=>by
 have hw1:Mx [] w0 w (Lo++((b,fdC f,153)::B::rest)) D m oo:=Mx.perm hw (perm_count fun x=>by simp only[List.count_append,List.count_cons];omega)
 have hs1:=hw1.start
 have hb:=hs1.st.blk (b,fdC f,153) (by simp)
 have hsrc:Src w fdL (.slice (some ⟨b,0,none⟩) [f].length 1) [f]:=src_block (T:=153) (by simpa[fdC] using hb)
 obtain⟨p',c',w',Lo',hr,h1,h2⟩:=append_row (TS:=151) op.type hs1 hv hsrc (by simp;omega)
 rw[List.length_append] at hr h1
 refine Or.inl ⟨_,w',(Lo'++((b,fdC f,153)::B::rest),oo),?_,⟨Lo',p',c',rfl,rfl,h1⟩,Mx.move hw1 h2⟩
 unfold execOp
 have hr':(Builtin.append_ #[151,151] op.type #[v,.slice (some ⟨b,0,none⟩) 1 1]).run Tryz.prog w=.ok (.slice p' (l.length+1) c') w':=hr
 simp only[ho,resolve,invoke,builtin,Sem.run_bind,Sem.run_pure,Result.andThen_ok,List.map_toArray,List.map_cons,List.map_nil,hx,hy,hr']
theorem all_up {L0:List Blk} {T E:TypeId} {gs:List Gr} {clock:Nat} {n:Int} {u:Value} [t:MapT T E] (ho:op.op=.mapUpdate T x y z) (hx:ρ x=.map (some m)) (hy:ρ y=.int .i64 n) (hv:ρ z=u):Fm.SP (allFlow w0 D m b7 s o0) (L0,mapO gs clock) (execOp ρ op) (fun p u'=>p=(L0,mapO (gput gs clock n u).1 (gput gs clock n u).2)∧u'=undef):=fun w hw=>by
 have hr:=run_gput (T:=T) (E:=E) (n:=n) (v:=u) (Mx.ob hw)
 refine Or.inr (Or.inl ⟨_,(L0,mapO (gput gs clock n u).1 (gput gs clock n u).2),?_,⟨rfl,rfl⟩,Mx.set hw⟩)
 unfold execOp
 simp only[ho,hx,hy,hv,Sem.run_bind,hr,Result.andThen_ok]
 rfl
end
def AllPost (w:World) (d:Dv) (D:Dat) (e:Ending) (w':World):Prop:=
 ∃(m:Nat) (rs:List Rc) (clock:Nat),e=.returned (.map (some m))∧MapRel rs (fnds d d.now.length)∧Mx [] w w' (rs.flatMap (·.lo)) D m (mapO (rs.map (·.g)) clock)
theorem dRead_size {d:Dv} (h:d.Ok) (i:Int):(dRead d i).1.size≤1000:=by
 unfold dRead
 split
 ·exact Nat.zero_le _
 ·split
  ·exact Nat.zero_le _
  ·split
   ·exact Nat.zero_le _
   ·simp only
    rw[List.getD_eq_getElem?_getD]
    cases hg:d.now[i.toNat]? with
    |none=>decide
    |some b=>exact(h.bnow b (List.mem_of_getElem? hg)).2
theorem fnds_len (d:Dv):∀k,(fnds d k).length≤k
 |0=>by simp[fnds]
 |k+1=>by
  have h1:=fnds_len d k
  have h2:(fndAt d k).length≤1:=by unfold fndAt;split<;>simp
  rw[fnds_succ,List.length_append]
  omega
set_option maxHeartbeats 4000000 in
theorem all_scan {D:Dat} {F:List Nat} {w:World} {g:Nat} {d:Dv} (h:DevW D F w g d) (hU:GSums w):Calls Tryz.prog 70 #[.pointer (some ⟨g,0,none⟩)] w (AllPost w d D):=by
 have hst:=Sx.start0 w h.data
 have hmax:=h.ok.max
 have HL:=Lib.hid (fun wx (hb:Below w.heap.size w wx)=>dlen_calls (h.below hb))
 have HD:=Lib.hid (fun wx (hb:Below w.heap.size w wx) (i:Int)=>dread_calls (h.below hb) i)
 have HZ:=Lib.hid (fun i=>dRead_size h.ok i)
 have HA:Hid (∀fl,fl=fnds d d.now.length→fl=fnds d d.now.length):=Lib.hid (fun _ h=>h)
 have HF0:=Lib.hid (show fnds d 0=[] from rfl)
 have HFS:=Lib.hid (fnds_succ d)
 have HFA:=Lib.hid (fun k=>(show fndAt d k=if(dRead d k).2=0∧(slOf (dRead d k).1).2=0 then[⟨(slOf (dRead d k).1).1,k⟩] else[] from rfl))
 have HFL:=Lib.hid (fnds_len d)
 clear h
 obtain⟨N,hN⟩:∃N,d.now.length=N:=⟨_,rfl⟩
 rw[hN] at HL HA hmax
 unfold AllPost
 rw[hN]
 clear hN
 go_enter Tryz.func70,Tryz.ntmps70
 go_wp2_with (first|((with_reducible refine xmm rfl rfl hst ?_);clear hst;intro m w' hm;have hst:=hm.start)|(with_reducible (refine callB (HL.out _ (hm.move hst).sx.end) hst ?_;clear hst;intro w' hst))|fail)
 go_loopw [12] (fun iv wr=>∃(k:Nat) (rs:List Rc) (clock:Nat),k≤N∧iv=.int .i64 k∧Hid (MapRel rs (fnds d k))∧Mx [] w wr (rs.flatMap (·.lo)) D m (mapO (rs.map (·.g)) clock)) (fun iv _=>N-(intOf iv).toNat)
 case atStart=>exact⟨0,[],0,Nat.zero_le _,by go_num,Lib.hid (by rw[HF0.out];exact⟨by simp,by simp,by simp,by simp⟩),hm.move hst⟩
 case round=>
  clear hst hm
  obtain⟨k,rs,clock,hk,rfl,HM,hm⟩:=hrel
  have hst:=hm.start
  by_cases hlt:k<N
  ·have hz:=HZ.out k
   have HR:=Lib.hid (fun wx (h:Below w.heap.size w wx)=>HD.out wx h k)
   have hfa:=HFA.out k
   generalize dRead d k=r at*
   obtain⟨da,er⟩:=r
   simp only at hz hfa HR
   have HO:=Lib.hid (fun wx (h:GSums wx)=>sof_calls da (by omega) wx h)
   generalize slOf da=q at*
   obtain⟨s,e2⟩:=q
   simp only at hfa HO
   have hfs:=HFS.out k
   rw[hfa] at hfs
   by_cases her:er=0
   ·by_cases he2:e2=0
    ·subst her he2
     rw[if_pos ⟨rfl,rfl⟩] at hfs
     obtain⟨Lo,rest,l,hown,hleq,hperm,hput⟩:=HM.out.look s.n clock
     have hll:l.length≤1000:=by
      have h1:=HFL.out k
      have h2:=List.length_filter_le (fun f:Fnd=>decide (f.s.n=s.n)) (fnds d k)
      rw[←hleq] at h2
      omega
     have HW:=Lib.hid hown
     have HP:=Lib.hid hput
     have HFs:=Lib.hid hfs
     have HPm:=Lib.hid hperm
     clear hown hput hfs hperm hleq hfa HM hz
     go_wp2_with (first|(with_reducible first|(refine xsa rfl rfl rfl rfl hst ?_;clear hst;intro w' hst)|(refine xnw rfl rfl hst ?_;clear hst;intro bn w' hst))|(with_reducible (refine callB (HR.out _ (hm.move hst).sx.end) hst ?_;clear hst;intro w' hst))|(with_reducible (refine callB (HO.out _ (hU.below (hm.move hst).sx.end)) hst ?_;clear hst;intro w' hst)))
     have hm2:=(hm.move hst).perm ((HPm.out).cons _)
     generalize rs.map (·.g)=gs at*
     refine Fm.wp_region_flow (allFlow w D m bn s (mapO gs clock)) (L:=(((bn,slC s,41)::(Lo++rest),mapO gs clock):List Blk×Obj)) (List.range 13) rfl hm2 (by kernel_rfl) (by kernel_rfl) (by kernel_rfl) (by kernel_rfl) (by kernel_rfl) ?_
     show Fm.wpLX _ (allFlow w D m bn s (mapO gs clock)) _ [0,1,2,3,4,5,6,7,8,9,10,11,12] _ (Fx.mkO [] _)
     have hB:∀L',∀wx,(allFlow w D m bn s (mapO gs clock)).I ((bn,slC s,41)::L',mapO gs clock) wx→(allFlow w D m bn s (mapO gs clock)).B wx:=fun L' wx h=>⟨L',Mx.sx h,Mx.ob h⟩
     refine Fm.val rfl rfl rfl rfl (v:=.map (some m)) (Fx.e_mv rfl rfl) ?_
     refine Fm.val rfl rfl rfl rfl (Fx.e_fa rfl rfl) ?_
     refine Fm.rd rfl rfl rfl rfl (v:=.int .i64 s.n) (hB _) (fun w h=>by obtain⟨L',hs,ho⟩:=h;exact Fx.r_1 rfl rfl w hs) ?_
     refine Fm.val rfl rfl rfl rfl (v:=.map (some m)) (Fx.e_mv rfl rfl) ?_
     refine Fm.val rfl rfl rfl rfl (Fx.e_fa rfl rfl) ?_
     refine Fm.rd rfl rfl rfl rfl (v:=.int .i64 s.n) (hB _) (fun w h=>by obtain⟨L',hs,ho⟩:=h;exact Fx.r_1 rfl rfl w hs) ?_
     refine Fm.rd rfl rfl rfl rfl (v:=glook gs s.n (.slice none 0 0)) (hB _) (fun w h=>by obtain⟨L',hs,ho⟩:=h;exact all_look zeroFds rfl rfl rfl ho) ?_
     refine Fm.rd rfl rfl rfl rfl (v:=.agg (slC s)) (hB _) (fun w h=>by obtain⟨L',hs,ho⟩:=h;exact Fx.r_a rfl rfl w hs) ?_
     refine Fm.val rfl rfl rfl rfl (v:=.int .i64 k) (Fx.e_mv rfl rfl) ?_
     refine Fm.val rfl rfl rfl rfl (v:=.agg (fdC ⟨s,k⟩)) (fun w=>by kernel_rfl) ?_
     refine Fm.spec rfl rfl _ (all_mk (f:=⟨s,k⟩) rfl rfl) ?_
     rintro L5 u5 ⟨b5,rfl,rfl⟩
     refine⟨Or.inr (fun wx h=>hB _ wx (Mx.perm h (List.Perm.swap ..))),?_⟩
     refine Fm.spec rfl rfl _ (all_ap rfl rfl rfl HW.out hll) ?_
     rintro L6 u6 ⟨Lo6,q6,c6,rfl,rfl,hown6⟩
     refine⟨Or.inr (fun wx h=>hB _ wx (Mx.perm h (show(Lo6++((b5,fdC ⟨s,k⟩,153)::(bn,slC s,41)::rest)).Perm ((bn,slC s,41)::(Lo6++((b5,fdC ⟨s,k⟩,153)::rest))) from perm_count fun x=>by simp only[List.count_append,List.count_cons];omega))),?_⟩
     refine Fm.spec rfl rfl _ (all_up rfl rfl rfl rfl) ?_
     rintro L7 u7 ⟨rfl,rfl⟩
     refine⟨Or.inl rfl,?_⟩
     intro w7 hm7
     obtain⟨rs',e1,e2,e3⟩:=HP.out _ _ ⟨s,k⟩ rfl hown6
     have hm8:Mx [] w w7 (rs'.flatMap (·.lo)) D m (mapO (rs'.map (·.g)) (gput gs clock s.n (.slice q6 (l.length+1) c6)).2):=by
      rw[←e1]
      have h9:=Mx.perm hm7 (show(Lo6++((b5,fdC ⟨s,k⟩,153)::(bn,slC s,41)::rest)).Perm ((b5,fdC ⟨s,k⟩,153)::(bn,slC s,41)::(Lo6++rest)) from perm_count fun x=>by simp only[List.count_append,List.count_cons];omega)
      exact h9.drop.drop.perm e3.symm
     clear hB HP HPm HW hm hm2 hm7 hst
     generalize hact:Fx.mkO _ _=act
     have hv0:act.tmps.getD 0 undef=.pointer (some ⟨g,0,none⟩):=by rw[←hact];kernel_rfl
     have hv1:act.tmps.getD 1 undef=undef:=by rw[←hact];kernel_rfl
     have hv2:act.tmps.getD 2 undef=.map none:=by rw[←hact];kernel_rfl
     have hv3:act.tmps.getD 3 undef=.map (some m):=by rw[←hact];kernel_rfl
     have hv9:act.tmps.getD 9 undef=.map (some m):=by rw[←hact];kernel_rfl
     have hv10:act.tmps.getD 10 undef=.pointer (some ⟨g,0,none⟩):=by rw[←hact];kernel_rfl
     have hv11:act.tmps.getD 11 undef=.int .i64 N:=by rw[←hact];kernel_rfl
     have hv12:act.tmps.getD 12 undef=.int .i64 k:=by rw[←hact];kernel_rfl
     have hv43:act.tmps.getD 43 undef=undef:=by rw[←hact];kernel_rfl
     obtain⟨fZ,hfZ,hact2⟩:=act_lit act 44 (by rw[←hact];kernel_rfl) (by rw[←hact];kernel_rfl)
     clear hact
     have he0:fZ 0=.pointer (some ⟨g,0,none⟩):=(hfZ 0).symm.trans hv0
     have he1:fZ 1=undef:=(hfZ 1).symm.trans hv1
     have he2:fZ 2=.map none:=(hfZ 2).symm.trans hv2
     have he3:fZ 3=.map (some m):=(hfZ 3).symm.trans hv3
     have he9:fZ 9=.map (some m):=(hfZ 9).symm.trans hv9
     have he10:fZ 10=.pointer (some ⟨g,0,none⟩):=(hfZ 10).symm.trans hv10
     have he11:fZ 11=.int .i64 N:=(hfZ 11).symm.trans hv11
     have he12:fZ 12=.int .i64 k:=(hfZ 12).symm.trans hv12
     have he43:fZ 43=undef:=(hfZ 43).symm.trans hv43
     have hlit:(List.range 44).map fZ=(.pointer (some ⟨g,0,none⟩)::undef::.map none::.map (some m)::fZ 4::fZ 5::fZ 6::fZ 7::fZ 8::.map (some m)::.pointer (some ⟨g,0,none⟩)::.int .i64 N::.int .i64 k::fZ 13::fZ 14::fZ 15::fZ 16::fZ 17::fZ 18::fZ 19::fZ 20::fZ 21::fZ 22::fZ 23::fZ 24::fZ 25::fZ 26::fZ 27::fZ 28::fZ 29::fZ 30::fZ 31::fZ 32::fZ 33::fZ 34::fZ 35::fZ 36::fZ 37::fZ 38::fZ 39::fZ 40::fZ 41::fZ 42::undef::[]):=by simp only[show List.range 44=[0,1,2,3,4,5,6,7,8,9,10,11,12,13,14,15,16,17,18,19,20,21,22,23,24,25,26,27,28,29,30,31,32,33,34,35,36,37,38,39,40,41,42,43] from rfl,List.map_cons,List.map_nil,he0,he1,he2,he3,he9,he10,he11,he12,he43]
     rw[hlit] at hact2
     clear hfZ hlit hv0 he0 hv1 he1 hv2 he2 hv3 he3 hv9 he9 hv10 he10 hv11 he11 hv12 he12 hv43 he43
     subst hact2
     go_wp2_with fail
     go_roundw
     case rel=>exact⟨k+1,rs',_,by omega,by go_num,Lib.hid (by rw[HFs.out];exact e2),hm8⟩
     case measure=>simp[intOf];omega
    ·have HFs:Hid (fnds d (k+1)=fnds d k):=Lib.hid (by rw[hfs,if_neg (by simp[he2]),List.append_nil])
     clear hfs hfa hz
     go_wp2_with (first|(with_reducible first|(refine xsa rfl rfl rfl rfl hst ?_;clear hst;intro w' hst)|(refine xnw rfl rfl hst ?_;clear hst;intro bn w' hst))|(with_reducible (refine callB (HR.out _ (hm.move hst).sx.end) hst ?_;clear hst;intro w' hst))|(with_reducible (refine callB (HO.out _ (hU.below (hm.move hst).sx.end)) hst ?_;clear hst;intro w' hst)))
     go_roundw
     case rel=>exact⟨k+1,rs,clock,by omega,by go_num,Lib.hid (by rw[HFs.out];exact HM.out),(hm.move hst).drop⟩
     case measure=>simp[intOf];omega
   ·have HFs:Hid (fnds d (k+1)=fnds d k):=Lib.hid (by rw[hfs,if_neg (by simp[her]),List.append_nil])
    clear hfs hfa hz
    go_wp2_with (first|fail |(with_reducible (refine callB (HR.out _ (hm.move hst).sx.end) hst ?_;clear hst;intro w' hst)))
    go_roundw
    case rel=>exact⟨k+1,rs,clock,by omega,by go_num,Lib.hid (by rw[HFs.out];exact HM.out),hm.move hst⟩
    case measure=>simp[intOf];omega
  ·obtain rfl:k=N:=by omega
   go_wp2_with fail
   go_ret
   exact⟨m,rs,clock,rfl,HM.out,hm.move hst⟩
end Go.Proofs.YtdkeiefgkgpcbaaGreatDoor
