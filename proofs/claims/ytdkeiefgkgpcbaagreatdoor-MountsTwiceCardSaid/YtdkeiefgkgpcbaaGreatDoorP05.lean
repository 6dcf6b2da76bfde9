/- Steps of the proof: ReadAll, Decode, DecodeWalk, Range, Sectors, Repeat. -/
import Derived.OwnWalk
import Derived.RangeFuncNested
import Derived.RangeFuncBound
import Derived.RangeFuncCalls
import Derived.RangeFuncLeaves
import Derived.Shelf.Abstract
import Derived.Shelf.RegionOpen
import Derived.WalkKit
import Derived.OwnWalkIn
import Derived.TacticsInMore
import Derived.LoopNIn
import Derived.LoopIn
import Derived.Shelf.Bits.Mul64
import Derived.Shelf.Strings.BuilderF
import Derived.Shelf.Strings.Builder2
import Derived.Lib.RepeatB
import Derived.Deep.LoopGhost
import Derived.Test.YtdkeiefgkgpcbaaGreatDoorP04
set_option linter.unusedVariables false
set_option linter.unusedSimpArgs false
set_option maxRecDepth 100000
namespace Go.Proofs.YtdkeiefgkgpcbaaGreatDoor
open Go.RowKit
structure Rd where
 a:Int
 bad:Bool
 e:Ent
def fieldR (s:ByteArray) (x:Rd) (f:Int):Rd:=
 if f=0 then⟨numA s x.a 1,x.bad|| !numOk s x.a 1,{x.e with stream:=numN s x.a 1}⟩
 else if f=1 then⟨numA s x.a 4,x.bad|| !numOk s x.a 4,{x.e with n:=numN s x.a 4}⟩
 else if f=2 then⟨textA s x.a,x.bad|| !textOk s x.a,{x.e with name:=textN s x.a}⟩
 else⟨numA s (numA s (hashA s (numA s x.a 2)) 2) 2,(((x.bad|| !numOk s x.a 2)|| !thereB s (numA s x.a 2) 32)|| !numOk s (hashA s (numA s x.a 2)) 2)|| !numOk s (numA s (hashA s (numA s x.a 2)) 2) 2,
  {x.e with len:=numN s x.a 2,hash:=hashN s (numA s x.a 2),start:=numN s (hashA s (numA s x.a 2)) 2,count:=numN s (numA s (hashA s (numA s x.a 2)) 2) 2}⟩
theorem readfield_calls (g q:Nat) (s:ByteArray) (x:Rd) (f:Int) (hf:f=0∨f=1∨f=2∨f=3) (hs:s.size≤maxLen) (w:World) (hg:w.heap[g]? =some (.cells (readC s x.a x.bad) 219 (0,0))) (hq:w.heap[q]? =some (.cells (entC x.e) 66 (0,0))):
  Calls Tryz.prog 122 #[.pointer (some ⟨g,0,none⟩),.int .i64 f,.pointer (some ⟨q,0,none⟩)] w fun r w'=>r=.returned (.tuple #[])∧
   St [g,q] w w' [(g,readC s (fieldR s x f).a (fieldR s x f).bad,219),(q,entC (fieldR s x f).e,66)]:=by
 rcases hf with rfl |rfl |rfl |rfl
 ·exact readfield_stream g q s x.a x.bad x.e hs w hg hq
 ·exact readfield_number g q s x.a x.bad x.e hs w hg hq
 ·exact readfield_name g q s x.a x.bad x.e hs w hg hq
 ·exact readfield_record g q s x.a x.bad x.e hs w hg hq
theorem St.upd2 {S:List Nat} {w0 w w':World} {g q:Nat} {C C' D D':Array Value} {T U:TypeId} {L:List Blk} (h:St S w0 w ((g,C,T)::(q,D,U)::L)) (k:St [g,q] w w' [(g,C',T),(q,D',U)]):St S w0 w' ((g,C',T)::(q,D',U)::L) where
 os:=k.os.trans h.os
 tape:=k.tape.trans h.tape
 output:=k.output.trans h.output
 size:=Nat.le_trans h.size k.size
 kept j hj hs:=by
  refine(k.kept j (Nat.lt_of_lt_of_le hj h.size) ?_).trans (h.kept j hj hs);intro hm;have hm':j=g∨j=q:=by simpa using hm
  rcases hm' with rfl |rfl
  ·rcases h.own (j,C,T) (by simp) with h1 |h1
   ·simp at h1;omega
   ·exact hs h1
  ·rcases h.own (j,D,U) (by simp) with h1 |h1
   ·simp at h1;omega
   ·exact hs h1
 own p hp:=by
  have hp':p=(g,C',T)∨p=(q,D',U)∨p∈L:=by simpa using hp
  rcases hp' with rfl |rfl |h1
  ·exact h.own (g,C,T) (by simp)
  ·exact h.own (q,D,U) (by simp)
  ·exact h.own p (by simp[h1])
 nodup:=by simpa using h.nodup
 blk p hp:=by
  have hp':p=(g,C',T)∨p=(q,D',U)∨p∈L:=by simpa using hp
  rcases hp' with rfl |rfl |h1
  ·exact k.blk _ (by simp)
  ·exact k.blk _ (by simp)
  ·have hn:=h.nodup
   simp only[List.map_cons,List.nodup_cons,List.mem_cons,not_or] at hn;have hg:p.1≠g:=fun e=>hn.1.2 (List.mem_map.2 ⟨p,h1,e⟩)
   have hq:p.1≠q:=fun e=>hn.2.1 (List.mem_map.2 ⟨p,h1,e⟩)
   rw[k.kept _ (h.lt p (by simp[h1])) (by simp[hg,hq])];exact h.blk p (by simp[h1])
end Go.Proofs.YtdkeiefgkgpcbaaGreatDoor
namespace Go.Proofs.YtdkeiefgkgpcbaaGreatDoor
open Go.RowKit
def entK (k:Int):Ent:={ent0 with kind:=k,hash:=zeros 32}
instance (e:Ent) (k:Int):WrAt (entC e) 0 39 (.agg #[.int .i64 k,.int .i64 0,.int .i64 0,.int .i64 0,.string {data:=#[]},.int .u8 0,.int .u8 0,.int .u8 0,.int .u8 0,.int .u8 0,.int .u8 0,.int .u8 0,.int .u8 0,.int .u8 0,.int .u8 0,.int .u8 0,.int .u8 0,.int .u8 0,.int .u8 0,.int .u8 0,.int .u8 0,.int .u8 0,.int .u8 0,.int .u8 0,.int .u8 0,.int .u8 0,.int .u8 0,.int .u8 0,.int .u8 0,.int .u8 0,.int .u8 0,.int .u8 0,.int .u8 0,.int .u8 0,.int .u8 0,.int .u8 0,.int .u8 0,.int .i64 0,.int .i64 0]) (entC (entK k)):=wr_row _ _ _ _ (entL (entK k)) rfl rfl (Nat.le_of_ble_eq_true rfl) (by kernel_rfl)
def entR (s:ByteArray) (a:Int) (bad:Bool):Rd:=(fieldsL (numN s a 1)).foldl (fieldR s) ⟨numA s a 1,bad|| !numOk s a 1,entK (numN s a 1)⟩
def decL (s:ByteArray):Nat→Int→Bool→Option (List Ent×Int×Bool)
 |0,a,bad=>some ([],a,bad)
 |n+1,a,bad=>if(entR s a bad).bad|| !checkB (entR s a bad).e then none else(decL s n (entR s a bad).a (entR s a bad).bad).map fun r=>((entR s a bad).e::r.1,r.2)
def decN (s:ByteArray):Nat:=(min (numN s 0 2) 201).toNat
def decF (s:ByteArray):Option (List Ent):=
 match decL s (decN s) (numA s 0 2) (!numOk s 0 2) with
 |none=>none
 |some (l,a,bad)=>if bad||(decide (200<numN s 0 2)||decide (a<(s.size:Int))) then none else some l
theorem numN_range (s:ByteArray) (a b:Int):0≤numN s a b∧numN s a b≤9223372036854775807:=by
 unfold numN
 cases h:getF s a b with
 |none=>simp
 |some x=>
  obtain⟨n,y⟩:=x;have:=getF_le h;simp only;omega
theorem numN_i64 (s:ByteArray) (a b:Int):I64 (numN s a b):=by have:=numN_range s a b;unfold I64;omega
theorem textN_size (s:ByteArray) (a:Int):(textN s a).size≤s.size:=by
 unfold textN
 cases h:getTextF s a with
 |none=>simp[size_mkS]
 |some x=>
  obtain⟨l,y⟩:=x;show(mkS l).size≤_;rw[size_mkS];unfold getTextF at h;split at h
  ·split at h
   ·injection h with h
    injection h with h1 h2
    rw[←h1];unfold sub;rw[List.length_take,List.length_drop,ls_length];omega
   ·cases h
  ·cases h
theorem entK_wf (s:ByteArray) (a b:Int):(entK (numN s a b)).Wf:=
 have h0:I64 0:=by unfold I64;decide
 ⟨numN_i64 s a b,h0,h0,h0,Nat.zero_le _,rfl,h0,h0⟩
theorem fieldR_wf (s:ByteArray) (hs:s.size≤140737488351232) (x:Rd) (f:Int) (h:x.e.Wf):(fieldR s x f).e.Wf:=by
 unfold fieldR;split
 ·exact {h with stream:=numN_i64 _ _ _}
 ·split
  ·exact {h with n:=numN_i64 _ _ _}
  ·split
   ·exact {h with name:=Nat.le_trans (textN_size _ _) (by omega)}
   ·exact {h with len:=numN_i64 _ _ _,hash:=hashN_length _ _,start:=numN_i64 _ _ _,count:=numN_i64 _ _ _}
theorem foldR_wf (s:ByteArray) (hs:s.size≤140737488351232):∀(l:List Int) (x:Rd),x.e.Wf→(l.foldl (fieldR s) x).e.Wf
 | [],x,h=>h
 |f::l,x,h=>foldR_wf s hs l _ (fieldR_wf s hs x f h)
theorem entR_wf (s:ByteArray) (hs:s.size≤140737488351232) (a:Int) (bad:Bool):(entR s a bad).e.Wf:=foldR_wf s hs _ _ (entK_wf s a 1)
theorem ownsRow_St {w w':World} {S:List Nat} {L:List Blk} {base size n:Nat} {e:TypeId} {v:Value} {xs:List Value} (h:w.ownsRow base e size v n xs) (k:St S w w' L) (hS:∀x∈S,x<base):w'.ownsRow base e size v n xs:=by
 obtain⟨h1,h2⟩:=h;refine⟨h1,?_⟩;rcases h2 with h2 |⟨g,cap,cur,hv,hg,hh,r⟩
 ·exact Or.inl h2
 ·exact Or.inr ⟨g,cap,cur,hv,hg,by rw[k.kept g (lt_of_heap' hh) (fun hm=>by have:=hS g hm;omega)];exact hh,r⟩
theorem ownsRow_below {w w':World} {base size n:Nat} {e:TypeId} {v:Value} {xs:List Value} (h:w.ownsRow base e size v n xs) (k:Below w.heap.size w w'):w'.ownsRow base e size v n xs:=by
 obtain⟨h1,h2⟩:=h;refine⟨h1,?_⟩;rcases h2 with h2 |⟨g,cap,cur,hv,hg,hh,r⟩
 ·exact Or.inl h2
 ·exact Or.inr ⟨g,cap,cur,hv,hg,by rw[k.block g (lt_of_heap' hh)];exact hh,r⟩
theorem run_bs1 (e:Ent) (w:World):(Instr.buildSlice 38 1 #[(0,.agg (entL e).toArray)]).run Tryz.prog w=.ok (.slice (some ⟨w.heap.size,0,none⟩) 1 1) (w.alloc (.cells (entC e) 66)):=by kernel_rfl
theorem infoEnt:(Tryz.prog.info? 66).map (fun i=>(i.zero,i.size,i.bytes))=some (some (.agg (entC ent0)),39,96):=by kernel_rfl
theorem entL_one (e:Ent):∀u∈entL e,u.oneCell'=true:=List.all_eq_true.1 (show(entL e).all (·.oneCell')=true from rfl)
section
variable {ops:Array Oper} {rest:List Oper} {o:Oper} {a:Act} {w:World} {Q:Exit→Act→World→Prop} {S:List Nat} {w0:World} {L:List Blk}
theorem wpList_bs1 (hw:Region.wanted o (yielded ops a.tmps)=true) (x:Operand) (ho:o.op=.buildSlice 38 1 #[(0,x)]) (h:St S w0 w L) (e:Ent) (hx:a.eval x=.agg (entL e).toArray)
  (hk:∀(b:Nat) (w':World),Below w.heap.size w w'→St S w0 w' ((b,entC e,66)::L)→wpList Tryz.prog ops Q rest (a.put o.dst (.slice (some ⟨b,0,none⟩) 1 1)) w'):wpList Tryz.prog ops Q (o::rest) a w:=
 BigFrame.wpList_want hw fun K hK=>by
  have hm:(#[(0,x)].map fun p=>(p.1,a.eval p.2))=#[(0,.agg (entL e).toArray)]:=by simp[hx]
  unfold Oper.wp execOp;simp only[ho];rw[show((#[(0,x)]:Array (Nat×Operand)).map fun(i,x)=>(i,a.eval x))=#[(0,.agg (entL e).toArray)] from hm];simp only[Sem.run_bind,run_bs1,Result.andThen_ok];exact hK _ _ (hk _ _ ((Below.refl _ _).alloc (Nat.le_refl _) _) (h.alloc (entC e) _))
end
theorem decL_step (s:ByteArray) (n:Nat) (a:Int) (bad:Bool) (h:((entR s a bad).bad|| !checkB (entR s a bad).e)=false):decL s (n+1) a bad=(decL s n (entR s a bad).a (entR s a bad).bad).map fun r=>((entR s a bad).e::r.1,r.2):=by
 rw[decL,h];rfl
theorem decL_stop (s:ByteArray) (n:Nat) (a:Int) (bad:Bool) (h:((entR s a bad).bad|| !checkB (entR s a bad).e)=true):decL s (n+1) a bad=none:=by
 rw[decL,h];rfl
end Go.Proofs.YtdkeiefgkgpcbaaGreatDoor
namespace Go.Proofs.YtdkeiefgkgpcbaaGreatDoor
open Go.RowKit
theorem ownsRow_mono {w:World} {base base' size n:Nat} {e:TypeId} {v:Value} {xs:List Value} (h:w.ownsRow base e size v n xs) (hb:base'≤base):w.ownsRow base' e size v n xs:=by
 obtain⟨h1,h2⟩:=h;refine⟨h1,?_⟩;rcases h2 with h2 |⟨g,cap,cur,hv,hg,r⟩
 ·exact Or.inl h2
 ·exact Or.inr ⟨g,cap,cur,hv,by omega,r⟩
theorem St.perm {S:List Nat} {w0 w:World} {L L':List Blk} (h:St S w0 w L) (hp:L.Perm L'):St S w0 w L':=
 ⟨h.os,h.tape,h.output,h.size,h.kept,fun p hm=>h.own p (hp.mem_iff.2 hm),(hp.map _).nodup_iff.1 h.nodup,fun p hm=>h.blk p (hp.mem_iff.2 hm)⟩
theorem St.under {S:List Nat} {w w1 w2:World} {L:List Blk} (h:Below w.heap.size w w1) (k:St S w1 w2 L) (hS:∀x∈S,w.heap.size≤x):Below w.heap.size w w2:=
 ⟨k.os.trans h.os,k.tape.trans h.tape,k.output.trans h.output,Nat.le_trans h.size k.size,fun i hi=>(k.kept i (Nat.lt_of_lt_of_le hi h.size) (fun hm=>by have:=hS i hm;omega)).trans (h.block i hi)⟩
theorem St.one {w:World} {g:Nat} {C:Array Value} {T:TypeId} (h:w.heap[g]? =some (.cells C T (0,0))):St [g] w w [(g,C,T)]:=
 ⟨rfl,rfl,rfl,Nat.le_refl _,fun _ _ _=>rfl,fun p hp=>by simp at hp;subst hp;exact Or.inr (by simp),by simp,fun p hp=>by simp at hp;subst hp;exact h⟩
theorem own_ge {w:World} {base size n:Nat} {e:TypeId} {v:Value} {xs:List Value} (h:w.ownsRow base e size v n xs):∀g,v.ownBlock=some g→base≤g:=by
 intro g hg;rcases h.2 with⟨rfl,_⟩ |⟨g',cap,cur,rfl,hb,_⟩
 ·simp[Value.ownBlock] at hg
 ·simp[Value.ownBlock] at hg;omega
theorem perm3 {α:Type} (a b c:α):[a,b,c].Perm [c,b,a]:=(List.reverse_perm [a,b,c]).symm
theorem foldR_succ {s:ByteArray} {l:List Int} {x:Rd} {k:Nat} (h:k<l.length):(l.take (k+1)).foldl (fieldR s) x=fieldR s ((l.take k).foldl (fieldR s) x) l[k]:=by
 rw[List.take_succ_eq_append_getElem h,List.foldl_append];rfl
theorem dec_none {s:ByteArray} {M n:Nat} {a:Int} {bad:Bool} {l:List Ent} (hM:decN s=M) (h:decL s M (numA s 0 2) (!numOk s 0 2)=(decL s (n+1) a bad).map fun r=>(l++r.1,r.2)) (hs:((entR s a bad).bad|| !checkB (entR s a bad).e)=true):decF s=none:=by
 unfold decF;rw[hM,h,decL_stop s n a bad hs];rfl
theorem ownsRow_none (w:World) (base:Nat) (e:TypeId) (size:Nat):w.ownsRow base e size (.slice none 0 0) 0 []:=⟨by simp,Or.inl ⟨rfl,rfl⟩⟩
def DecPost (s:ByteArray) (w:World) (r:Ending) (w':World):Prop:=
 match decF s with
 |none=>r=.returned (.tuple #[.slice none 0 0,.int .i64 10])
 |some l=>∃v,r=.returned (.tuple #[v,.int .i64 0])∧w'.ownsRow w.heap.size 66 39 v l.length (l.flatMap entL)∧(∀e∈l,e.Wf)
set_option maxHeartbeats 4000000 in
set_option maxRecDepth 100000 in
theorem decode_calls (s:ByteArray) (hs:s.size≤140737488351232) (w:World):
  Calls Tryz.prog 72 #[.string s] w fun r w'=>DecPost s w r w'∧Below w.heap.size w w':=by
 have hs':s.size≤maxLen:=by unfold maxLen;omega
 have hst:=St.start w;have hN:=numN_range s 0 2;go_enter Tryz.func72,Tryz.ntmps72;go_wp2_with (with_reducible refine wpList_box rfl _ _ rfl (by assumption) _ rfl ?_;intro bb w' hst);have hst0:St [] w w' [(bb,readC s 0 false,219)]:=hst;clear hst;refine(number_calls bb s 0 2 false hs' _ hst0.has).mono ?_;rintro r w1 ⟨rfl,k1⟩;have h1:=hst0.upd k1;clear k1 hst0;rw[Bool.false_or] at h1;go_wp2_with fail;obtain⟨M,hM⟩:∃M:Nat,min (numN s 0 2) 201=(M:Int):=⟨(min (numN s 0 2) 201).toNat,by omega⟩;have hM2:M≤201:=by omega
 have HD:Hid (decN s=M):=Lib.hid (by unfold decN;rw[hM];rfl);rw[hM];have HM:=Lib.hid hM;clear hM;have hbb:bb<w1.heap.size:=h1.lt _ (List.mem_cons_self);have hw1:=h1.end.size
 have hbw:w.heap.size≤bb:=by
  rcases h1.own _ (List.mem_cons_self) with h |h
  ·exact h
  ·simp at h
 go_loopw [6,17] (fun ov iv wr=>∃(k:Nat) (l:List Ent) (a:Int) (bad:Bool),k≤M∧iv=.int .i64 k∧l.length=k∧wr.ownsRow w1.heap.size 66 39 ov k (l.flatMap entL)∧Below w.heap.size w wr∧w1.heap.size≤wr.heap.size∧St [bb] wr wr [(bb,readC s a bad,219)]∧(∀e∈l,e.Wf)∧
  Hid (decL s M (numA s 0 2) (!numOk s 0 2)=(decL s (M-k) a bad).map fun r=>(l++r.1,r.2))) (fun _ i _=>M-(intOf i).toNat)
 case atStart=>exact⟨0,[],numA s 0 2, !numOk s 0 2,by omega,rfl,rfl,ownsRow_none _ _ _ _,h1.end,Nat.le_refl _,h1.rebase,by simp,by show _=_;simp⟩
 case round=>
  obtain⟨k,l,a,bad,hk,rfl,hlen,hown,hbel,hsz,hsr,hwf,hdec⟩:=hrel;have HWF:=Lib.hid hwf;have HLEN:=Lib.hid hlen;clear h1 hwf hlen
  by_cases hlt:k<M
  ·go_wp2_with fail
   refine(number_calls bb s a 1 bad hs' _ hsr.has).mono ?_;rintro r w2 ⟨rfl,k2⟩;have h2:=hsr.upd k2;clear k2;go_wp2_with (first|(with_reducible refine wpList_ld rfl _ _ rfl _ _ rfl (by assumption) ?_)|(with_reducible refine wpList_stA rfl _ _ _ rfl _ _ rfl _ rfl (by assumption) ?_;intro w' hst)|(with_reducible refine wpList_new rfl _ rfl (by assumption) _ zero_ent ?_;intro bn w' hst));refine(fields_calls (numN s a 1) _).mono ?_;rintro r w7 ⟨⟨v,rfl,hf⟩,hb⟩;have HER:Hid (entR s a bad=(fieldsL (numN s a 1)).foldl (fieldR s) ⟨numA s a 1,bad|| !numOk s a 1,entK (numN s a 1)⟩):=Lib.hid rfl;have HW:=Lib.hid (entR_wf s hs a bad)
   have HKD:Hid (fieldsL (numN s a 1)=[]→checkB (entR s a bad).e=false):=Lib.hid (fun h=>by
    have:(entR s a bad).e=entK (numN s a 1):=by unfold entR;rw[h];rfl
    rw[this];unfold checkB;rw[show(entK (numN s a 1)).kind=numN s a 1 from rfl,h]
    rfl)
   have HFR:=Lib.hid (fieldsL_range (numN s a 1));have hl3:=fieldsL_len (numN s a 1);obtain⟨n,hn⟩:∃n,M-k=n+1:=⟨M-k-1,by omega⟩;rw[hn] at hdec;have HNO:Hid (((entR s a bad).bad|| !checkB (entR s a bad).e)=true→decF s=none):=Lib.hid (fun h=>dec_none HD.out hdec.out h)
   have HYES:Hid (((entR s a bad).bad|| !checkB (entR s a bad).e)=false→decL s M (numA s 0 2) (!numOk s 0 2)=(decL s n (entR s a bad).a (entR s a bad).bad).map fun r=>((l++[(entR s a bad).e])++r.1,r.2)):=Lib.hid (fun h=>by
    rw[hdec.out,decL_step s n a bad h]
    cases decL s n (entR s a bad).a (entR s a bad).bad<;>simp)
   have HN:Hid (M-(k+1)=n):=Lib.hid (by omega);clear hdec hn;generalize entR s a bad=X at*;generalize fieldsL (numN s a 1)=fl at*;rcases hf with⟨hl0,rfl⟩ |⟨hl0,bF,rfl,hszF,hblk⟩
   ·have hX:X=⟨numA s a 1,bad|| !numOk s a 1,entK (numN s a 1)⟩:=by rw[HER.out,hl0];rfl
    have hck:checkB X.e=false:=HKD.out hl0;have h7:St [bb] wr w7 [(bn,entC X.e,66),(bb,readC s X.a X.bad,219)]:=by rw[hX];exact hst.below hb
    have HNO':Hid (decF s=none):=Lib.hid (HNO.out (by rw[hck];simp));have hbel7:=St.under hbel h7 (by intro x hx;simp at hx;omega);have HCK:=Lib.hid hck;clear hck hX HNO HYES HKD HER hl0 hst h2 hsr hb hown hbel;go_wp2_with fail;go_loopw [26] (fun jv wq=>jv=.int .i64 0∧wq=w7) (fun _ _=>0)
    case atStart=>exact⟨rfl,rfl⟩
    case round=>
     obtain⟨rfl,rfl⟩:=hrel
     cases hbad:X.bad
     ·go_wp2_with (first|(with_reducible refine wpList_ld rfl _ _ rfl _ _ rfl (by assumption) ?_)|(with_reducible refine wpList_lda rfl _ _ rfl _ _ rfl (by assumption) ?_))
      refine(check_calls X.e HW.out _).mono ?_;rintro r w9 ⟨rfl,hb9⟩;have hbel9:=belw hbel7 hb9;rw[HCK.out];clear hbad;unfold errOf;go_wp2_with fail;go_ret2;exact⟨by unfold DecPost;rw[HNO'.out];rfl,hbel9⟩
     ·go_wp2_with (with_reducible refine wpList_ld rfl _ _ rfl _ _ rfl (by assumption) ?_)
      go_ret2;exact⟨by unfold DecPost;rw[HNO'.out];rfl,hbel7⟩
   ·have h7:=(hst.belowNew hb hszF hblk).perm (perm3 _ _ _)
    clear hblk hb hszF hst h2 hsr HKD;obtain⟨x0,hx0⟩:∃x0:Rd,x0=⟨numA s a 1,bad|| !numOk s a 1,entK (numN s a 1)⟩:=⟨_,rfl⟩;rw[←hx0] at HER;have h7:St [bb] wr w7 [(bb,readC s x0.a x0.bad,219),(bn,entC x0.e,66),(bF,(fl.map (Value.int .i64)).toArray,195)]:=by rw[hx0];exact h7
    clear hx0;go_wp2_with fail;go_loopw [26] (fun jv wq=>∃j:Nat,j≤fl.length∧jv=.int .i64 j∧St [bb] wr wq [(bb,readC s ((fl.take j).foldl (fieldR s) x0).a ((fl.take j).foldl (fieldR s) x0).bad,219),(bn,entC ((fl.take j).foldl (fieldR s) x0).e,66),(bF,(fl.map (Value.int .i64)).toArray,195)]) (fun i _=>fl.length-(intOf i).toNat)
    case atStart=>exact⟨0,by omega,rfl,h7⟩
    case round=>
     obtain⟨j,hj,rfl,hsq⟩:=hrel;clear h7
     by_cases hjl:j<fl.length
     ·have hcell:=cell_field fl j hjl
      have hf4:=HFR.out fl[j] (List.getElem_mem hjl);have HTJ:=Lib.hid (foldR_succ (s:=s) (x:=x0) hjl);generalize (fl.take j).foldl (fieldR s) x0=x at*;generalize fl[j]=f at*;go_wp2_with (with_reducible refine wpList_ld rfl _ _ rfl _ _ rfl (by assumption) ?_);refine(readfield_calls bb bn s x f hf4 hs' _ hsq.has hsq.has).mono ?_;rintro r w8 ⟨rfl,k8⟩;have h8:=hsq.upd2 k8;clear k8 hsq;go_wp2_with fail;go_roundw
      case rel=>exact⟨j+1,by omega,by go_num,by rw[HTJ.out];exact h8⟩
      case measure=>simp[intOf];omega
     ·obtain rfl:j=fl.length:=by omega
      rw[List.take_length,←HER.out] at hsq;have hown2:=ownsRow_St hown hsq (by intro x hx;simp at hx;omega);have hbel2:=St.under hbel hsq (by intro x hx;simp at hx;omega);have hsz2:w1.heap.size≤wr.heap.size:=Nat.le_trans hsz hsq.size;have hsr:=hsq.rebase;clear hown hbel hsz hsq
      cases hbad:X.bad
      ·go_wp2_with (first|(with_reducible refine wpList_ld rfl _ _ rfl _ _ rfl (by assumption) ?_)|(with_reducible refine wpList_lda rfl _ _ rfl _ _ rfl (by assumption) ?_))
       refine(check_calls X.e HW.out _).mono ?_;rintro r w9 ⟨rfl,hb9⟩;have hown9:=ownsRow_below hown2 hb9;have hbel9:=belw hbel2 hb9;have hs9:=hsr.below hb9;have hsz9:w1.heap.size≤w9.heap.size:=Nat.le_trans hsz2 hb9.size;clear hown2 hbel2 hsr hb9 hsz2
       cases hc:checkB X.e
       ·have HNO':Hid (decF s=none):=Lib.hid (HNO.out (by rw[hbad,hc];rfl))
        clear HNO HYES hbad hc;unfold errOf;go_wp2_with fail;go_ret2;exact⟨by unfold DecPost;rw[HNO'.out];rfl,hbel9⟩
       ·have HYES':=Lib.hid (HYES.out (by rw[hbad,hc];rfl))
        clear HNO HYES hbad hc;unfold errOf;go_wp2_with (first|(with_reducible refine wpList_lda rfl _ _ rfl _ _ rfl (by assumption) ?_)|(refine wpList_bs1 rfl _ rfl (by assumption) X.e rfl ?_));intro bS w10 hb10 hs10;have hown10:=ownsRow_below hown9 hb10;clear hown9;obtain⟨i0,hi0,hz0,hz1,hz2⟩:=info_parts infoEnt;refine wpList_append_own _ rfl _ _ 38 rfl w1.heap.size 66 i0 (.agg (entC ent0)) 39 96 Tryz.underlying38 hi0 hz0 hz1 hz2 rfl (by omega) _ _ _ rfl hown10 ⟨bS,0,none⟩ 1 1 (entL X.e) rfl rfl ?c2 (entL_one _) ?c3 ?c4 ?c5 ?_
        case c2=>
         intro j u hj;rw[addr_add,Nat.zero_add,cell_of_row _ _ _ _ _ _ (hs10.has (g:=bS))];simpa[entC] using hj
        case c3=>unfold maxLen;omega
        case c4=>omega
        case c5=>have:=hb10.size;omega
        clear hi0 hz0 hz1 hz2;intro v' w11 hown11 hg11 hnil11;clear hnil11;have hrd11:w11.heap[bb]? =some (.cells (readC s X.a X.bad) 219 (0,0)):=(hg11.block bb (by have:=hb10.size;omega) (fun e=>by have:=own_ge hown10 bb e.symm;omega)).trans (hs10.has (g:=bb));have hb11:Below w.heap.size w w11:=(belw hbel9 hb10).grown hg11 (by have:=hb10.size;omega) (fun g hg=>by have:=own_ge hown10 g hg;omega);have hz11:w1.heap.size≤w11.heap.size:=by have:=hg11.size;have:=hb10.size;omega
        clear hg11 hown10 hs10 hb10 hbel9 hs9;go_wp2_with fail;go_roundw
        case rel=>exact⟨k+1,l++[X.e],X.a,X.bad,by omega,by go_num,by simp[HLEN.out],by simpa[List.flatMap_append] using hown11,hb11,hz11,St.one hrd11,fun e he=>by
         rcases List.mem_append.1 he with h |h
         ·exact HWF.out e h
         ·rw[List.mem_singleton.1 h];exact HW.out,by rw[HN.out];exact HYES'⟩
        case measure=>simp[intOf];omega
      ·have HNO':Hid (decF s=none):=Lib.hid (HNO.out (by rw[hbad];rfl))
       clear HNO HYES;go_wp2_with (with_reducible refine wpList_ld rfl _ _ rfl _ _ rfl (by assumption) ?_);go_ret2;exact⟨by unfold DecPost;rw[HNO'.out];rfl,hbel2⟩
  ·obtain rfl:k=M:=by omega
   rw[Nat.sub_self] at hdec
   have HF:Hid (decF s=if bad||(decide (200<numN s 0 2)||decide (a<(s.size:Int))) then none else some l):=Lib.hid (by
    unfold decF;rw[HD.out,hdec.out]
    simp[decL])
   have hownF:=ownsRow_mono hown hw1;clear hdec hown
   cases bad
   ·cases h200:decide (200<numN s 0 2)
    ·cases hat:decide (a<(s.size:Int))
     ·have HF':Hid (decF s=some l):=Lib.hid (by rw[HF.out,h200,hat];rfl)
      clear HF;go_wp2_with (with_reducible refine wpList_ld rfl _ _ rfl _ _ rfl (by assumption) ?_);go_ret2;exact⟨by unfold DecPost;rw[HF'.out];exact⟨_,rfl,by rw[HLEN.out];exact hownF,HWF.out⟩,hbel⟩
     ·have HF':Hid (decF s=none):=Lib.hid (by rw[HF.out,h200,hat];rfl)
      clear HF;go_wp2_with (with_reducible refine wpList_ld rfl _ _ rfl _ _ rfl (by assumption) ?_);go_ret2;exact⟨by unfold DecPost;rw[HF'.out];rfl,hbel⟩
    ·have HF':Hid (decF s=none):=Lib.hid (by rw[HF.out,h200];rfl)
     clear HF;go_wp2_with (with_reducible refine wpList_ld rfl _ _ rfl _ _ rfl (by assumption) ?_);go_ret2;exact⟨by unfold DecPost;rw[HF'.out];rfl,hbel⟩
   ·have HF':Hid (decF s=none):=Lib.hid (by rw[HF.out];rfl)
    clear HF;go_wp2_with (with_reducible refine wpList_ld rfl _ _ rfl _ _ rfl (by assumption) ?_);go_ret2;exact⟨by unfold DecPost;rw[HF'.out];rfl,hbel⟩
end Go.Proofs.YtdkeiefgkgpcbaaGreatDoor
namespace Go.Proofs.YtdkeiefgkgpcbaaGreatDoor
open Go.RowKit Go.Shelf
structure Aside (base:Nat) (w w':World):Prop where
 below:Below base w w'
 cells:∀(k:Nat) (c:Array Value) (t:TypeId) (z:Nat×Nat),w.heap[k]? =some (Obj.cells c t z)→w'.heap[k]? =some (Obj.cells c t z)
theorem Aside.trans {n:Nat} {a b c:World} (h:Aside n a b) (k:Aside n b c):Aside n a c:=⟨h.below.trans k.below,fun i x t z hi=>k.cells i x t z (h.cells i x t z hi)⟩
theorem Aside.alloc {n:Nat} (w:World) (hn:n≤w.heap.size) (o:Obj):Aside n w (w.alloc o):=
 ⟨(Below.refl n w).alloc hn o,fun k c t z h=>(Below.heap_alloc _ _ _ (lt_of_heap' h)).trans h⟩
theorem Aside.putObj {n:Nat} (w:World) (r:Nat) (o o':Obj) (hr:n≤r) (h:w.heap[r]? =some o) (hc:o.isCells=false):Aside n w (w.putObj r o'):=
 ⟨(Below.refl n w).grown (grownBy_putObj' w r o') (by have:=lt_of_heap' h;omega) (fun k e=>by cases e;exact hr),fun k c t z hk=>by
  rw[World.putObj_heap_other]
  ·exact hk
  ·rintro rfl
   rw[h] at hk
   cases hk
   simp[Obj.isCells] at hc⟩
theorem St.aside {S:List Nat} {w0 w w':World} {L:List Blk} {n:Nat} (h:St S w0 w L) (ha:Aside n w w') (hn:w0.heap.size≤n):St S w0 w' L:=
 ⟨ha.below.os.trans h.os,ha.below.tape.trans h.tape,ha.below.output.trans h.output,Nat.le_trans h.size (by
  have:=ha.below.size
  exact this),fun k hk hs=>(ha.below.block k (by omega)).trans (h.kept k hk hs),h.own,h.nodup,fun p hp=>ha.cells _ _ _ _ (h.blk p hp)⟩
def SeqC (n:Nat) (gf:Nat) (lb:Array Value) (encs:Nat→Array Value) (N sb:Nat) (cell:Nat→Array Value) (T:TypeId) (gb:Nat) (c2:Array Value) (T2:TypeId):Prop:=
 ∀(l:Nat) (J Jx:Nat→World→Prop) (W:World),
  (∀k W,J k W→W.heap[sb]? =some (.cells (cell k) T (0,0))∧W.heap[gb]? =some (.cells c2 T2 (0,0)))→
  (∀k W,k<N→J k W→YieldAt Fence.wide (n-1) Tryz.prog l (encs k) W fun e W'=>
   (e=.returned (.bool true)∧(W'.heap[sb]? =some (.cells (cell k) T (0,0))∧W'.heap[gb]? =some (.cells c2 T2 (0,0)))∧J (k+1) (W'.setRow sb (cell (k+1))))∨
   (e=.returned (.bool false)∧Jx (k+1) W'))→
  J 0 W→CallsIn Fence.wide n Tryz.prog gf (#[.func (.yield l) #[] #[]]++lb) W fun e W'=>(∃v,e=.returned v)∧(J N W'∨∃k,k≤N∧Jx k W')
def postC (I Ix:Nat→World→Prop) (k:Nat) (W:World):Exit→Act→World→Prop
 | .normal,_,W'=>KeepsOthers W W'∧I k W'
 | .ret,_,W'=>KeepsOthers W W'∧Ix k W'
 | .exit _,_,_=>False
 | .goto _,_,_=>False
 | .panic _,_,_=>False
 | .outgrown,_,_=>False
theorem wp_range {n:Nat} {g:Operand} {ps:Array Tmp} {assign body:Code} {Q:Exit→Act→World→Prop} {a:Act} {w:World}
  (h1:1≤n) {gf:Nat} {lb:Array Value} (hg:a.eval g=.func (.func gf) #[] lb) (eg:∀args w,(callFunc gf args).run Tryz.prog w=.ok (.enter gf args) w)
  {encs:Nat→Array Value} {N sb:Nat} {cell:Nat→Array Value} {T:TypeId} {gb:Nat} {c2:Array Value} {T2:TypeId} (hseq:SeqC (n-1) gf lb encs N sb cell T gb c2 T2) (hps:∀k,(encs k).size=ps.size)
  (I I' Ix:Nat→World→Prop) (hI:∀k W W',I k W→Aside w.heap.size W W'→I k W') (hIx:∀k W W',Ix k W→Aside w.heap.size W W'→Ix k W') (hI':∀k W W',I' k W→Aside w.heap.size W W'→I' k W')
  (hc:∀k W,I k W→W.heap[sb]? =some (.cells (cell k) T (0,0))∧W.heap[gb]? =some (.cells c2 T2 (0,0)))
  (hc':∀k W,k<N→I' (k+1) W→(W.heap[sb]? =some (.cells (cell k) T (0,0))∧W.heap[gb]? =some (.cells c2 T2 (0,0)))∧I (k+1) (W.setRow sb (cell (k+1))))
  (h0:I 0 w) (a₁:Nat→Act)
  (hassign:∀(l:Nat) (k:Nat) (W:World) (K:Act→World→Prop),K (a₁ k) W→
   assign.wpIn (Fence.wide.inRound l) (n-1-1) Tryz.prog (Exit.then K (fun _ _ _=>False)) {tmps:=(ps.zip (encs k)).foldl (fun t (p,v)=>t.setIfInBounds p v) a.tmps,defers:=[]} W)
  (hbody:∀(l:Nat) (k:Nat) (W:World),k<N→I k W→body.wpIn (Fence.wide.inRound l) (n-1-1) Tryz.prog (postC I' Ix (k+1) W) (a₁ k) W)
  (hdone:∀(D:Nat) (W:World),I N W→W.heap[D]? =some (.deferred (some []))→w.heap.size≤D→Q .normal {a with defers:={target:=.collected D,args:=#[]}::a.defers} W)
  (hstop:∀(D:Nat) (k:Nat) (W:World),k≤N→Ix k W→W.heap[D]? =some (.deferred (some []))→w.heap.size≤D→Code.ret.wpIn Fence.wide n Tryz.prog Q {a with defers:={target:=.collected D,args:=#[]}::a.defers} W):
  (Code.rangeFunc g ps assign body).wpIn Fence.wide n Tryz.prog Q a w:=by
 refine wpIn_rangeFunc ?_;intro fn hfn;rw[Fence.wide_round];obtain⟨rec,hrec⟩:∃rec:LoopState→Option Code→Loop,rec=fun st pe=>{state:=st,pending:=pe,fn,tmps:=a.tmps,params:=ps,assign,body,defers:=w.heap.size}:=⟨_,rfl⟩
 obtain⟨W1,hW1⟩:∃W1,(w.alloc (.deferred (some []))).alloc (.loop (rec .ready none))=W1:=⟨_,rfl⟩
 have hL1:W1.heap[w.heap.size+1]? =some (.loop (rec .ready none)):=by
  rw[←hW1];have:=World.alloc_heap_new (w.alloc (.deferred (some []))) (.loop (rec .ready none))
  rwa [World.size_alloc] at this
 have hD1:W1.heap[w.heap.size]? =some (.deferred (some [])):=by
  rw[←hW1];exact(Below.heap_alloc _ _ _ (by simp)).trans (World.alloc_heap_new w _)
 have hI1:I 0 W1:=by
  rw[←hW1];exact hI _ _ _ h0 ((Aside.alloc w (Nat.le_refl _) _).trans (Aside.alloc _ (by simp) _))
 have noc:∀(W:World) (k:Nat) (c:Array Value) (t:TypeId),W.heap[k]? =some (.cells c t (0,0))→∀(r:Nat) (o:Obj),W.heap[r]? =some o→o.isCells=false→r≠k:=by
  rintro W k c t hk r o hr ho rfl;rw[hr] at hk
  cases hk
  simp[Obj.isCells] at ho
 refine⟨w.heap.size+1,[{target:=.collected w.heap.size,args:=#[]}],W1,{target:=.fn (.func gf) lb,args:=#[.func (.yield (w.heap.size+1)) #[] #[]]},W1,gf,
  #[.func (.yield (w.heap.size+1)) #[] #[]]++lb,W1,?_,?_,?_,?_,fun _=>h1,?_⟩
 ·rw[←hW1,hrec];exact run_enterLoop_outer _ _ _ _ _
 ·simp only[resolve,hg]
  simp[go_sem]
 ·intro f' hf';trivial
 ·simp[invoke,go_sem,eg]
 ·refine(hseq (w.heap.size+1)
   (fun k W=>I k W∧W.heap[w.heap.size+1]? =some (.loop (rec .ready none))∧W.heap[w.heap.size]? =some (.deferred (some [])))
   (fun k W=>Ix k W∧W.heap[w.heap.size+1]? =some (.loop (rec .done (some .ret)))∧W.heap[w.heap.size]? =some (.deferred (some [])))
   W1 (fun k W h=>hc k W h.1) ?_ ⟨hI1,hL1,hD1⟩).mono ?_
  ·rintro k W hlt ⟨hi,hl,hk⟩
   have hlw:w.heap.size+1<W.heap.size:=lt_of_heap' hl;have hy:=run_yield (P:=Tryz.prog) (args:=encs k) hl (by rw[hrec];exact hps k);rw[hrec] at hy;refine⟨fn,_,assign,body,hy,roundIn_of_wpIn hfn (hassign _ k W _ ⟨_,run_beginRound hl (by rw[hrec]),?_⟩)⟩;have hl2:(W.putObj (w.heap.size+1) (.loop {rec .ready none with state:=.busy})).heap[w.heap.size+1]? =some (.loop {rec .ready none with state:=.busy}):=World.putObj_heap_same hlw;have hk2:(W.putObj (w.heap.size+1) (.loop {rec .ready none with state:=.busy})).heap[w.heap.size]? =some (.deferred (some [])):=(World.putObj_heap_other (by omega)).trans hk;refine wpIn_mono (hbody _ k _ hlt (hI _ _ _ hi (Aside.putObj W _ _ _ (by omega) hl rfl))) ?_;have fin:∀(jump:Option Code) (W3:World),KeepsOthers (W.putObj (w.heap.size+1) (.loop {rec .ready none with state:=.busy})) W3→
     (Instr.endRound (w.heap.size+1) jump).run Tryz.prog W3=.ok (.bool jump.isNone) (W3.putObj (w.heap.size+1) (.loop (rec (if jump.isNone then .ready else .done) jump)))∧
     Aside w.heap.size W3 (W3.putObj (w.heap.size+1) (.loop (rec (if jump.isNone then .ready else .done) jump)))∧
     (W3.putObj (w.heap.size+1) (.loop (rec (if jump.isNone then .ready else .done) jump))).heap[w.heap.size+1]? =some (.loop (rec (if jump.isNone then .ready else .done) jump))∧
     (W3.putObj (w.heap.size+1) (.loop (rec (if jump.isNone then .ready else .done) jump))).heap[w.heap.size]? =some (.deferred (some [])):=fun jump W3 hk3=>by
    have hl3:=hk3.same _ _ hl2 rfl;have:=run_endRound (P:=Tryz.prog) jump hl3;rw[hrec] at this ⊢;exact⟨this,Aside.putObj W3 _ _ _ (by omega) hl3 rfl,World.putObj_heap_same (lt_of_heap' hl3),(World.putObj_heap_other (by omega)).trans (hk3.same _ _ hk2 rfl)⟩
   rintro e a3 W3 hp
   cases e with
   |normal=>
    obtain⟨hk3,hi3⟩:=hp;obtain⟨hr,ha,hl4,hk4⟩:=fin none W3 hk3;obtain⟨hcc,hii⟩:=hc' k _ hlt (hI' _ _ _ hi3 ha);refine⟨_,_,hr,.inl ⟨rfl,hcc,hii,?_,?_⟩⟩
    ·rw[heap_setRow_other _ _ _ _ (noc _ _ _ _ hcc.1 _ _ hl4 rfl)];exact hl4
    ·rw[heap_setRow_other _ _ _ _ (noc _ _ _ _ hcc.1 _ _ hk4 rfl)];exact hk4
   |ret=>
    obtain⟨hk3,hi3⟩:=hp;obtain⟨hr,ha,hl4,hk4⟩:=fin (some .ret) W3 hk3;exact⟨_,_,hr,.inr ⟨rfl,hIx _ _ _ hi3 ha,hl4,hk4⟩⟩
   |exit id=>exact hp.elim
   |goto t=>exact hp.elim
   |panic ch=>exact hp.elim
   |outgrown=>exact hp.elim
  ·rintro e W2 ⟨⟨v,rfl⟩,(⟨hi,hl,hk⟩ |⟨k,hkN,hi,hl,hk⟩)⟩
   ·have:=run_endLoop (P:=Tryz.prog) hl (by rw[hrec];simp)
    rw[hrec] at this;exact⟨none,_,this,hdone _ _ (hI _ _ _ hi (Aside.putObj _ _ _ _ (by omega) hl rfl)) ((World.putObj_heap_other (by omega)).trans hk) (Nat.le_refl _)⟩
   ·have:=run_endLoop (P:=Tryz.prog) hl (by rw[hrec];simp)
    rw[hrec] at this;exact⟨some .ret,_,this,hstop _ k _ hkN (hIx _ _ _ hi (Aside.putObj _ _ _ _ (by omega) hl rfl)) ((World.putObj_heap_other (by omega)).trans hk) (Nat.le_refl _)⟩
end Go.Proofs.YtdkeiefgkgpcbaaGreatDoor
namespace Go.Proofs.YtdkeiefgkgpcbaaGreatDoor
open Go.RowKit Go.Shelf
attribute [local go_sem] Oper.semAt_some
def restS (s:ByteArray) (long:Nat):Nat→ByteArray
 |0=>s
 |k+1=>(restS s long k).extract long (restS s long k).size
theorem restS_size (s:ByteArray) (long:Nat):∀k,(restS s long k).size=s.size-k*long
 |0=>by simp[restS]
 |k+1=>by
  have:=restS_size s long k;simp only[restS,ByteArray.size_extract,this,Nat.min_self];rw[Nat.sub_sub,Nat.add_mul,Nat.one_mul]
set_option maxHeartbeats 4000000 in
theorem sectors1_in (n:Nat) (hn:1≤n) (s:ByteArray) (long:Nat) (hl:0<long) (hs:s.size≤1000000) (hl2:long≤1000000) (sb gb:Nat):
  SeqC n 123 #[.pointer (some ⟨sb,0,none⟩),.pointer (some ⟨gb,0,none⟩)] (fun k=>#[.int .i64 k,.string ((restS s long k).extract 0 long)]) (s.size / long)
   sb (fun k=>#[.string (restS s long k)]) 9 gb #[.int .i64 long] 3:=by
 intro l J Jx W hJ hY h0;refine callsIn_of_wp Tryz.func123 rfl trivial ?_ rfl;simp only[Tryz.ntmps123,List.size_toArray,List.length_cons,List.length_nil,Nat.reduceAdd,Nat.reduceSub,Array.replicate_succ,Array.replicate_zero,List.push_toArray,List.append_toArray,List.nil_append,List.cons_append]
 gi_wp2
 gi_loopw [4] (fun i wr=>∃k:Nat,k≤s.size / long∧i=.int .i64 k∧J k wr) (fun i _=>s.size / long-(intOf i).toNat)
 case atStart=>exact⟨0,Nat.zero_le _,rfl,h0⟩
 case round=>
  obtain⟨k,hk,rfl,hJs⟩:=hrel;obtain⟨hcs,hcg⟩:=hJ k wr hJs;have c1:wr.cell? ⟨sb,0,none⟩=some (.string (restS s long k)):=by rw[cell_of_row wr sb 0 _ _ _ hcs];rfl
  have c2:wr.cell? ⟨gb,0,none⟩=some (.int .i64 long):=by rw[cell_of_row wr gb 0 _ _ _ hcg];rfl
  have hsz:=restS_size s long k;have hk2:k≤1000000:=Nat.le_trans hk (Nat.le_trans (Nat.div_le_self _ _) hs)
  by_cases hlt:k<s.size / long
  ·have hmul:(k+1)*long≤s.size:=(Nat.le_div_iff_mul_le hl).1 hlt
   have hle:long≤(restS s long k).size:=by rw[hsz,Nat.add_mul] at*;omega
   have hle':(restS s long k).size≤1000000:=by omega
   obtain⟨fn,tmps,assign,body,hy,hR⟩:=hY k wr hlt hJs;clear hmul hsz hJs hcs hcg h0
   gi_wp2
   refine hR.mono ?_;rintro e W3 (⟨rfl,⟨hc3,hg3⟩,hJ3⟩ |⟨rfl,hJx3⟩)
   ·have d1:W3.cell? ⟨sb,0,none⟩=some (.string (restS s long k)):=by rw[cell_of_row W3 sb 0 _ _ _ hc3];rfl
    have d2:W3.cell? ⟨gb,0,none⟩=some (.int .i64 long):=by rw[cell_of_row W3 gb 0 _ _ _ hg3];rfl
    have f1:W3.frozen? ⟨sb,0,none⟩=false:=by simp[World.frozen?,hc3]
    have HJ:Hid (J (k+1) (W3.setCell ⟨sb,0,none⟩ (.string ((restS s long k).extract long (restS s long k).size)))):=Lib.hid (by
     rw[setCell_eq_setRow W3 sb 0 _ _ (0,0) _ hc3]
     exact hJ3)
    clear hJ3 hc3 hg3 hy hY hJ c1 c2
    gi_wp2
    go_roundw
    case rel=>exact⟨k+1,by omega,(by first|rfl |simp),HJ.out⟩
    case measure=>simp[intOf];omega
   ·gi_wp2
    go_end0;exact⟨⟨_,rfl⟩,.inr ⟨k+1,by omega,hJx3⟩⟩
  ·have hN:k=s.size / long:=by omega
   have hlt2:(restS s long k).size<long:=by
    rw[hsz,hN];have h1:=Nat.div_add_mod' s.size long;have h2:=Nat.mod_lt s.size hl;omega
   rw[hN] at hJs;have HJ:=Lib.hid hJs;clear hlt hsz hcs hcg h0 hN hJs hJ hY hs hl
   gi_wp2
   refine⟨fun _ h=>(by cases h),?_⟩
   gi_wp2
   go_end0;exact⟨⟨_,rfl⟩,.inl HJ.out⟩
set_option maxHeartbeats 4000000 in
theorem sectors_calls (s:ByteArray) (long:Int) (w:World):
  Calls Tryz.prog 74 #[.string s,.int .i64 long] w fun e w'=>∃sb gb,e=.returned (.func (.func 123) #[] #[.pointer (some ⟨sb,0,none⟩),.pointer (some ⟨gb,0,none⟩)])∧
   St [] w w' [(gb,#[.int .i64 long],3),(sb,#[.string s],9)]:=by
 have hst:=St.start w;go_enter Tryz.func74,Tryz.ntmps74;go_wp2_with fail;go_ret;refine⟨_,_,rfl,?_⟩;have h1:=(hst.alloc #[.string s] 9).alloc #[.int .i64 long] 3;simpa using h1
end Go.Proofs.YtdkeiefgkgpcbaaGreatDoor
set_option maxRecDepth 1000000
namespace Go.Proofs.YtdkeiefgkgpcbaaGreatDoor
open Go.RowKit Go.Shelf Go.Lib
def libRen:Go.Shelf.Ren:=⟨fun |241=>182 |277=>193 |212=>154 |263=>179 |264=>180 |170=>157 |n=>n,fun |0=>0 |3=>3 |4=>4 |5=>5 |9=>9 |37=>47 |46=>230 |51=>223 |53=>274 |70=>157 |72=>159 |127=>226 |146=>288 |148=>290 |n=>n,fun |n=>n⟩
theorem growLays:Go.Proofs.Lays.n241 Tryz.prog libRen:={
 mixed:=by kernel_rfl
 f241:=Tryz.func182.trans (congrArg some (by kernel_rfl))
 f277:=Tryz.func193.trans (congrArg some (by kernel_rfl))
 t0:=Tryz.underlying0
 a0:=Tryz.isAgg0
 z0:=Tryz.sizeOf0
 v0:=Tryz.zeroValue0
 t3:=Tryz.underlying3
 a3:=Tryz.isAgg3
 z3:=Tryz.sizeOf3
 v3:=Tryz.zeroValue3
 t37:=Tryz.underlying47
 a37:=Tryz.isAgg47
 z37:=Tryz.sizeOf47
 v37:=Tryz.zeroValue47
 t70:=Tryz.underlying157
 a70:=Tryz.isAgg157
 z70:=Tryz.sizeOf157
 v70:=Tryz.zeroValue157
 t72:=Tryz.underlying159
 a72:=Tryz.isAgg159
 z72:=Tryz.sizeOf159
 v72:=Tryz.zeroValue159}
theorem mulLays:Go.Proofs.Lays.n212 Tryz.prog libRen:={
 mixed:=by kernel_rfl
 f212:=Tryz.func154.trans (congrArg some (by kernel_rfl))
 f263:=Tryz.func179.trans (congrArg some (by kernel_rfl))
 f264:=Tryz.func180.trans (congrArg some (by kernel_rfl))
 t46:=Tryz.underlying230
 a46:=Tryz.isAgg230
 z46:=Tryz.sizeOf230
 v46:=Tryz.zeroValue230
 t51:=Tryz.underlying223
 a51:=Tryz.isAgg223
 z51:=Tryz.sizeOf223
 v51:=Tryz.zeroValue223
 t53:=Tryz.underlying274
 a53:=Tryz.isAgg274
 z53:=Tryz.sizeOf274
 v53:=Tryz.zeroValue274
 t146:=Tryz.underlying288
 a146:=Tryz.isAgg288
 z146:=Tryz.sizeOf288
 v146:=Tryz.zeroValue288
 t148:=Tryz.underlying290
 a148:=Tryz.isAgg290
 z148:=Tryz.sizeOf290
 v148:=Tryz.zeroValue290}
theorem lenLays:Go.Proofs.Lays.n170 Tryz.prog libRen:={
 mixed:=by kernel_rfl
 f170:=Tryz.func157.trans (congrArg some (by kernel_rfl))
 t0:=Tryz.underlying0
 a0:=Tryz.isAgg0
 z0:=Tryz.sizeOf0
 v0:=Tryz.zeroValue0
 t3:=Tryz.underlying3
 a3:=Tryz.isAgg3
 z3:=Tryz.sizeOf3
 v3:=Tryz.zeroValue3
 t37:=Tryz.underlying47
 a37:=Tryz.isAgg47
 z37:=Tryz.sizeOf47
 v37:=Tryz.zeroValue47
 t70:=Tryz.underlying157
 a70:=Tryz.isAgg157
 z70:=Tryz.sizeOf157
 v70:=Tryz.zeroValue157
 t72:=Tryz.underlying159
 a72:=Tryz.isAgg159
 z72:=Tryz.sizeOf159
 v72:=Tryz.zeroValue159}
theorem libExtra:Builder.Extra Tryz.prog libRen:={
 sizeBuilder:=by kernel_rfl
 liesBuilder:=by kernel_rfl
 t5:=Tryz.underlying5
 a5:=Tryz.isAgg5
 z5:=Tryz.sizeOf5
 v5:=Tryz.zeroValue5
 infoByte:=by kernel_rfl
 cellsByte:=by kernel_rfl
 sizeByte:=by kernel_rfl
 neB5:=by decide}
theorem mul_calls (x y:Nat) (hx:x<18446744073709551616) (hy:y<18446744073709551616) (w:World):
  Calls Tryz.prog 154 #[.int .u64 x,.int .u64 y] w fun e w'=>e=.returned (.tuple #[.int .u64 ((x*y / 18446744073709551616:Nat):Int),.int .u64 ((x*y%18446744073709551616:Nat):Int)])∧w'=w:=Any.bits_Mul mulLays x y hx hy w
theorem len_calls (B b:Nat) (bs:List Value) (w:World) (h:IsB B b bs w):
  Calls Tryz.prog 157 #[.pointer (some ⟨b,0,none⟩)] w fun e w'=>e=.returned (.int .i64 bs.length)∧w'=w:=Any.Builder_Len_f lenLays B b bs w h
theorem grow_calls (B b n:Nat) (w:World) (hB:B≤b) (hbk:w.heap[b]? =some (.cells #[.pointer (some ⟨b,0,none⟩),.slice none 0 0] 159 (0,0))) (hBw:B≤w.heap.size) (hn:n≤281474976710656):
  Calls Tryz.prog 182 #[.pointer (some ⟨b,0,none⟩),.int .i64 n] w fun e w'=>e=.returned (.tuple #[])∧(Lib.BuilderAt 159 5 B b (.pointer (some ⟨b,0,none⟩)) [] w'∧Below B w w'):=Any.Builder_grow_fresh growLays libExtra B b n w hB hbk hBw hn
set_option maxHeartbeats 2000000 in
theorem grow_new (B b n:Nat) (w:World) (hB:B≤b) (hbk:w.heap[b]? =some (.cells #[.pointer none,.slice none 0 0] 159 (0,0))) (hBw:B≤w.heap.size) (hn:n≤1000000):
  Calls Tryz.prog 156 #[.pointer (some ⟨b,0,none⟩),.int .i64 n] w fun e w'=>e=.returned (.tuple #[])∧(Lib.BuilderAt 159 5 B b (.pointer (some ⟨b,0,none⟩)) [] w'∧Below B w w'):=by
 have hbk1:(w.setCell ⟨b,0,none⟩ (.pointer (some ⟨b,0,none⟩))).heap[b]? =some (.cells #[.pointer (some ⟨b,0,none⟩),.slice none 0 0] 159 (0,0)):=by
  simp[World.setCell,Array.getElem?_modify,hbk]
 have c1:(w.setCell ⟨b,0,none⟩ (.pointer (some ⟨b,0,none⟩))).cell? ⟨b,1,none⟩=some (.slice none 0 0):=by rw[Lib.cell_of_heap hbk1];rfl
 have hb1:Below B w (w.setCell ⟨b,0,none⟩ (.pointer (some ⟨b,0,none⟩))):=(Below.refl B w).setCell (p:=⟨b,0,none⟩) hB _;have mixed:Tryz.prog.follows .mixedOrders=true:=by kernel_rfl
 go_enter Tryz.func156,Tryz.ntmps156;have hU:Lib.BuilderAt 159 5 B b (.pointer (some ⟨b,0,none⟩)) [] (w.setCell ⟨b,0,none⟩ (.pointer (some ⟨b,0,none⟩))):=⟨hB,.slice none 0 0,hbk1,World.ownsRow_nil _ _ _ _,by simp[Value.ownBlock]⟩;have c1':(w.setCell ⟨b,0,none⟩ (.pointer (some ⟨b,0,none⟩))).drew.cell? ⟨b,1,none⟩=some (.slice none 0 0):=c1;go_wp2_with (refine(copyCheck_fresh b w (by rw[Lib.cell_of_heap hbk];rfl) (by simp[World.shape?,hbk]) (Lib.frozen_of_heap hbk 0)).mono ?_;rintro e w' ⟨rfl,rfl⟩);go_region_o
 all_goals go_wp2_with (refine(grow_calls B b n (w.setCell ⟨b,0,none⟩ (.pointer (some ⟨b,0,none⟩))).drew hB hbk1 (by simpa[World.setCell,World.drew,-World.drew_eq] using hBw) (by omega)).mono ?_;rintro e w' ⟨rfl,h1,h2⟩)
 all_goals first
  |(go_end0;exact⟨rfl,h1,hb1.drew.trans h2⟩)
  |(go_end0;exact⟨rfl,hU.drew,hb1.drew⟩)
theorem min3_run (ts:Array TypeId) (t:TypeId) (x y z:Int) (W:World):
  (Builtin.min_ ts t #[.int .i64 x,.int .i64 y,.int .i64 z]).run Tryz.prog W=.ok (.int .i64 (if z<(if y<x then y else x) then z else(if y<x then y else x))) W:=by
 simp[Builtin.min_,Builtin.min2]
theorem mkS_replicate_size (q:Nat):(mkS (List.replicate q 0)).size=q:=by simp[size_mkS]
theorem mkS_replicate_extract (q:Nat):∀k,k≤q→(mkS (List.replicate q 0)).extract 0 k=mkS (List.replicate k 0):=fun k hk=>by
 have:=text_extract (mkS (List.replicate q 0)) 0 k;rw[Nat.zero_add] at this;rw[this];congr 1;simp[sub,ls_mkS,Nat.min_eq_left hk]
set_option maxHeartbeats 4000000 in
theorem repeat_main (c:Nat) (h2:2≤c) (hc:c≤124) (w:World):
  Calls Tryz.prog 125 #[.string ⟨#[0]⟩,.int .i64 c] w fun e w'=>e=.returned (.string (mkS (List.replicate c 0)))∧Below w.heap.size w w':=by
 have hMul:=mul_calls 1 c (by omega) (by omega) w;rw[Nat.one_mul,Nat.div_eq_of_lt (by omega),Nat.mod_eq_of_lt (by omega)] at hMul;go_enter Tryz.func125,Tryz.ntmps125;have b0:Below w.heap.size w (w.alloc (.cells #[.pointer none,.slice none 0 0] 159)):=(Below.refl _ w).alloc (Nat.le_refl _) _;have cG:=grow_new w.heap.size w.heap.size c (w.alloc (.cells #[.pointer none,.slice none 0 0] 159)) (Nat.le_refl _) (heap_alloc_new w _) b0.size (by omega)
 go_wp2_with (first
  |(refine hMul.mono ?_;rintro e w' ⟨rfl,hw⟩;rw[hw];clear hw)
  |(refine cG.mono ?_;rintro e W1 ⟨rfl,h1,b1⟩))
 clear cG hMul;have cW:=write_calls w.heap.size w.heap.size [] ⟨#[0]⟩ W1 (Lib.IsBuilderF.of (Or.inr h1)) (by decide) (Nat.le_trans b0.size b1.size);go_wp2_with (refine cW.mono ?_;rintro e W2 ⟨rfl,h2',hk2⟩);clear cW h1;have b02:Below w.heap.size w W2:=b0.trans (b1.trans hk2.1);clear hk2 b0 b1;go_loopg [] (c-1) (fun g wx=>∃q:Nat,1≤q∧q+g=c∧IsB w.heap.size w.heap.size (Lib.byteCells (List.replicate q 0)) wx∧Below w.heap.size w wx)
 case atStart=>exact⟨1,Nat.le_refl _,by omega,h2',b02⟩
 case round=>
  obtain⟨q,hq1,hqg,hB,hbx⟩:=hrel;have hlq:(Lib.byteCells (List.replicate q (0:UInt8))).length=q:=by rw[Lib.byteCells_length,List.length_replicate]
  have cLen:=len_calls w.heap.size w.heap.size _ wr hB;rw[hlq] at cLen;have cStr:=builder_string_calls w.heap.size w.heap.size (List.replicate q 0) wr hB hbx.size;have HS:=Lib.hid (mkS_replicate_size q);have HX:=Lib.hid (mkS_replicate_extract q);generalize hS:mkS (List.replicate q 0)=S at*
  cases gk with
  |zero=>
   obtain rfl:q=c:=by omega
   have hQn:¬((q:Int)<(q:Int)):=by omega
   go_wp2_with (first
    |(refine cLen.mono ?_;rintro e w' ⟨rfl,hw⟩;rw[hw];clear hw)
    |(refine cStr.mono ?_;rintro e W3 ⟨rfl,h3,b3⟩))
   go_ret;exact⟨by rw[hS];rfl,hbx.trans b3.1⟩
  |succ g=>
   have hqc:q<c:=by omega
   obtain⟨k,hk1,hkq,hkc,hmin⟩:∃k:Nat,1≤k∧k≤q∧q+k≤c∧(if(c:Int)<(if(q:Int)<(c:Int)-(q:Int) then(q:Int) else(c:Int)-(q:Int)) then(c:Int) else(if(q:Int)<(c:Int)-(q:Int) then(q:Int) else(c:Int)-(q:Int)))=(k:Int):=by
    by_cases h:(q:Int)<(c:Int)-(q:Int)
    ·exact⟨q,hq1,Nat.le_refl _,by omega,by rw[if_pos h,if_neg (by omega)]⟩
    ·exact⟨c-q,by omega,by omega,by omega,by rw[if_neg h,if_neg (by omega)];omega⟩
   have hmin3:∀(ts:Array TypeId) (t:TypeId) (W:World),(Builtin.min_ ts t #[.int .i64 ((c:Int)-(q:Int)),.int .i64 (q:Int),.int .i64 (c:Int)]).run Tryz.prog W=.ok (.int .i64 (k:Int)) W:=fun ts t W=>by
    rw[min3_run,hmin]
   clear hmin;have hQn:(q:Int)<(c:Int):=by omega
   have hS2:S.size=q:=HS.out
   go_wp2_with (first
    |(refine cLen.mono ?_;rintro e w' ⟨rfl,hw⟩;rw[hw];clear hw)
    |(refine cStr.mono ?_;rintro e W3 ⟨rfl,h3,b3⟩))
   have hex:S.extract 0 k=mkS (List.replicate k 0):=HX.out k hkq;have cWr:=write_calls w.heap.size w.heap.size _ (S.extract 0 k) W3 h3 (by rw[hex,List.length_replicate,mkS_replicate_size];omega) (Nat.le_trans hbx.size b3.1.size);have hadd:List.replicate q (0:UInt8)++ls (S.extract 0 k)=List.replicate (q+k) 0:=by rw[hex,ls_mkS,List.replicate_append_replicate]
   rw[hadd] at cWr;have hk3:k≤S.size:=by omega
   clear hex hadd hS2 hS;go_wp2_with (refine cWr.mono ?_;rintro e W4 ⟨rfl,h4,b4⟩);go_roundg (c-(q+k))
   case measure=>omega
   case rel=>exact⟨q+k,by omega,by omega,h4,hbx.trans (b3.1.trans b4.1)⟩
theorem repeat_calls (c:Nat) (hc:c≤124) (w:World):
  Calls Tryz.prog 125 #[.string ⟨#[0]⟩,.int .i64 c] w fun e w'=>e=.returned (.string (mkS (List.replicate c 0)))∧Below w.heap.size w w':=by
 rcases(by omega:c=0∨c=1∨2≤c) with rfl |rfl |h
 ·go_enter Tryz.func125,Tryz.ntmps125
  go_wp2_with fail;go_ret;exact⟨rfl,Below.refl _ _⟩
 ·go_enter Tryz.func125,Tryz.ntmps125
  go_wp2_with fail;go_ret;exact⟨rfl,Below.refl _ _⟩
 ·exact repeat_main c h hc w
end Go.Proofs.YtdkeiefgkgpcbaaGreatDoor
