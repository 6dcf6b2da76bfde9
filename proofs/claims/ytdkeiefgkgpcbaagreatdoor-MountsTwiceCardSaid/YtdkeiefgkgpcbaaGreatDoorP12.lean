/- Steps of the proof: Slices, Take, Free, Dev. -/
import Derived.Test.YtdkeiefgkgpcbaaGreatDoorP11
set_option linter.unusedVariables false
set_option linter.unusedSimpArgs false
set_option maxRecDepth 100000
namespace Go.Proofs.YtdkeiefgkgpcbaaGreatDoor
open Go.RowKit
theorem RowAt.nil_of {α:Type} {enc:α→List Value} {k:Nat} {D:Dat} {T:TypeId} {p:Option Addr} {c:Nat} {l:List α} (h:RowAt D T k enc p c l) (hp:p=none):l=[]:=by
 cases l with
 |nil=>rfl
 |cons x l=>
  obtain⟨g,off,e⟩:=h.at_some (i:=0) (by simp);rw[hp] at e
  cases e
theorem Sx.takeL {S:List Nat} {w0 w:World} {L1 L2:List Blk} {D:Dat} {F:List Nat} (h:Sx S w0 w (L1++L2) D F):Sx S w0 w L1 D F:=
 h.sub (fun p hp=>by simp[hp]) (by have:=h.st.nodup;rw[List.map_append] at this;exact(List.nodup_append.1 this).1)
def idxF {α:Type} (P:α→Bool) (l:List α):Int:=match l.findIdx? P with
 |some i=>i
 |none=> -1
theorem idxF_at {α:Type} {P:α→Bool} {l:List α} {k:Nat} (hk:k<l.length) (h:∀i (h2:i<k),P l[i]=false) (hp:P l[k]=true):idxF P l=k:=by
 have:l.findIdx? P=some k:=List.findIdx?_eq_some_iff_getElem.2 ⟨hk,hp,fun j hj=>by simpa using h j hj⟩;unfold idxF;rw[this]
theorem idxF_none {α:Type} {P:α→Bool} {l:List α} (h:∀i (h:i<l.length),P l[i]=false):idxF P l= -1:=by
 have:l.findIdx? P=none:=List.findIdx?_eq_none_iff.2 (fun x hx=>by
  obtain⟨i,hi,rfl⟩:=List.mem_iff_getElem.1 hx
  exact h i hi)
 unfold idxF;rw[this]
section
variable {ops:Array Oper} {rest:List Oper} {o:Oper} {a:Act} {w:World} {Q:Exit→Act→World→Prop} {S:List Nat} {w0:World} {L:List Blk} {D:Dat} {F:List Nat}
theorem xcf (hw:Region.wanted o (yielded ops a.tmps)=true) {x y:Operand} {ty:Array TypeId} (ho:o.op=.call {callee:=.value x,args:=#[y],argTypes:=ty}) {f:FuncId} {cap:Array Value} (hx:a.eval x=.func (.func f) #[] cap) {u:Value} (hy:a.eval y=u) (hen:∀args w,(callFunc f args).run Tryz.prog w=.ok (.enter f args) w)
  {v:Value} (hc:Calls Tryz.prog f (#[u]++cap) w (Ret v w)) (h:Sx S w0 w L D F) (hk:∀w',Sx S w0 w' L D F→wpList Tryz.prog ops Q rest (a.put o.dst v) w'):wpList Tryz.prog ops Q (o::rest) a w:=
 BigFrame.wpList_want hw fun K hK=>by
  unfold Oper.wp execOp;simp only[ho,resolve,hx,hy,Deferred.ofValue,Sem.run_bind,Sem.run_pure,Result.andThen_ok,List.map_toArray,List.map_cons,List.map_nil,invoke];have:(#[]:Array Value)++#[u]=#[u]:=rfl;simp only[this,hen];exact hc.mono fun e w' ⟨he,hb⟩=>by subst he;exact hK _ _ (hk w' (h.below hb))
theorem xcfA (hw:Region.wanted o (yielded ops a.tmps)=true) {x y:Operand} {ty:Array TypeId} (ho:o.op=.call {callee:=.value x,args:=#[y],argTypes:=ty}) {f:FuncId} {cap:Array Value} (hx:a.eval x=.func (.func f) #[] cap) {C:Array Value} (hy:a.eval y=.agg C) (hen:∀args w,(callFunc f args).run Tryz.prog w=.ok (.enter f args) w)
  {v:Value} (hc:Calls Tryz.prog f (#[.agg C]++cap) w (Ret v w)) (h:Sx S w0 w L D F) (hk:∀w',Sx S w0 w' L D F→wpList Tryz.prog ops Q rest (a.put o.dst v) w'):wpList Tryz.prog ops Q (o::rest) a w:=xcf hw ho hx hy hen hc h hk
end
theorem cloneRun_calls {D:Dat} {p:Option Addr} {c:Nat} {l:List Rn} (h:RowAt D 36 2 rnL p c l) (w:World) (hD:Holds D w):Calls Tryz.prog 85 #[.slice p l.length c] w fun e w'=>∃v Lo,e=.returned v∧OwnR 36 2 rnL Lo v l∧St [] w w' Lo:=by
 have hbig:=h.big
 cases p with
 |none=>
  obtain rfl:l=[]:=h.nil_of rfl;go_enter Tryz.func85,Tryz.ntmps85;go_wp2_with (refine xval rfl 4 rfl (.bool true) (fun w=>by kernel_rfl) ?_);go_ret;exact⟨_,[],rfl,OwnR.none _,(Sx.startN w).st⟩
 |some ad=>
  have hst:=Sx.start0 w hD;have hsrc:∀w',Holds D w'→Src w' rnL (.slice (some ad) l.length c) l:=fun w' hw=>RowD.src ⟨_,_,rfl,h⟩ hw (by decide)
  go_enter Tryz.func85,Tryz.ntmps85;go_wp2_with (first|(with_reducible refine xval rfl 4 rfl (.bool false) (fun w=>by kernel_rfl) ?_)|(with_reducible refine xmk rfl 5 rfl hst #[] 36 (fun b=>.slice (some ⟨b,0,none⟩) 0 0) (fun w=>by kernel_rfl) ?_;clear hst;intro b w' hst)|(with_reducible refine xap0 (T:=36) (TS:=98) rfl rfl rfl hst (hsrc _ hst.data) rfl hbig ?_;clear hst;intro p2 c2 w2 Lo hown hst));go_ret;exact⟨_,Lo,rfl,hown,hst.takeL.st⟩
set_option maxHeartbeats 1000000 in
theorem indexRun_calls {D:Dat} {p:Option Addr} {c:Nat} {l:List Rn} (h:RowAt D 36 2 rnL p c l) (w:World) (hD:Holds D w) (f:FuncId) (cap:Array Value) (P:Rn→Bool) (hen:∀args w,(callFunc f args).run Tryz.prog w=.ok (.enter f args) w)
  (hP:∀i (hi:i<l.length) w',Below w.heap.size w w'→Calls Tryz.prog f (#[.agg (rnL l[i]).toArray]++cap) w' (Ret (.bool (P l[i])) w')):Calls Tryz.prog 129 #[.slice p l.length c,.func (.func f) #[] cap] w (Ret (.int .i64 (idxF P l)) w):=by
 have hst:=Sx.start0 w hD;have hbig:=h.big;have HP:=Lib.hid hP;clear hP;go_enter Tryz.func129,Tryz.ntmps129;go_wp2_with fail;go_loopw [8] (fun iv wr=>∃k:Nat,k≤l.length∧iv=.int .i64 k∧Sx [] w wr [] D []∧Hid (∀i (h:i<l.length),i<k→P l[i]=false)) (fun iv _=>l.length-(intOf iv).toNat)
 case atStart=>exact⟨0,by omega,rfl,hst,Lib.hid (fun i h h2=>by omega)⟩
 case round=>
  obtain⟨k,hk,rfl,hst,HF⟩:=hrel
  by_cases hlt:k<l.length
  ·obtain⟨g,off,rfl⟩:=h.at_some hlt
   have hld:=h.lda hlt;have HC:=Lib.hid (HP.out k hlt wr hst.end);have HT:Hid (P l[k]=true→idxF P l=k):=Lib.hid (fun h1=>idxF_at hlt (fun i h2=>HF.out i (by omega) h2) h1)
   have HN:Hid (P l[k]=false→∀i (h:i<l.length),i<k+1→P l[i]=false):=Lib.hid (fun h1 i h2 h3=>by
    by_cases h4:i=k
    ·subst h4;exact h1
    ·exact HF.out i h2 (by omega))
   generalize P l[k]=b at*;generalize l[k]=r at*;go_wp2_with (first|(with_reducible refine xd rfl rfl rfl hst ?_)|(refine xcfA rfl rfl rfl rfl hen HC.out hst ?_;clear hst;intro w' hst))
   ·have h1:=HT.out (by assumption)
    go_ret;exact⟨by rw[h1];rfl,hst.end⟩
   ·have h1:=HN.out (by assumption)
    go_roundw
    case rel=>exact⟨k+1,by omega,by go_num,hst,Lib.hid h1⟩
    case measure=>simp[intOf];omega
  ·obtain rfl:k=l.length:=by omega
   have h1:=idxF_none (fun i h=>HF.out i h h);go_wp2_with fail;go_ret;exact⟨by rw[h1];rfl,hst.end⟩
end Go.Proofs.YtdkeiefgkgpcbaaGreatDoor
namespace Go.Proofs.YtdkeiefgkgpcbaaGreatDoor
open Go.RowKit
instance fldRun0:Fx.FldT 36 0 0:=⟨fun ad w=>by kernel_rfl⟩
instance fldRun1:Fx.FldT 36 1 1:=⟨fun ad w=>by kernel_rfl⟩
theorem OwnR.cells {k:Nat} {α:Type} {enc:α→List Value} {C:Array Value} {l:List α} [e:Enc enc k] (ht:C.toList.take (l.length*k)=l.flatMap enc) {i:Nat} (hi:i<l.length) {j:Nat} (hj:j<k):C[i*k+j]? =(enc l[i])[j]? :=by
 have h1:=rows_at (enc:=enc) l i hi j hj
 have h2:i*k+j<l.length*k:=by
  have:(i+1)*k≤l.length*k:=Nat.mul_le_mul_right k hi;rw[Nat.add_mul] at this;omega
 rw[←h1,←ht,List.getElem?_take,if_pos h2,Array.getElem?_toList]
theorem first_calls {D:Dat} {p:Option Addr} {c:Nat} {l:List Rn} (h:RowAt D 36 2 rnL p c l) (w:World) (hD:Holds D w) (f:FuncId) (cap:Array Value) (P:Rn→Bool) (hen:∀args w,(callFunc f args).run Tryz.prog w=.ok (.enter f args) w)
  (hP:∀i (hi:i<l.length) w',Below w.heap.size w w'→Calls Tryz.prog f (#[.agg (rnL l[i]).toArray]++cap) w' (Ret (.bool (P l[i])) w')):Calls Tryz.prog 83 #[.slice p l.length c,.func (.func f) #[] cap] w (Ret (.int .i64 (l.findIdx P:Nat)) w):=by
 have hst:=Sx.start0 w hD;have HI:=Lib.hid (indexRun_calls h w hD f cap P hen hP)
 have HF:Hid (idxF P l=if l.findIdx P<l.length then((l.findIdx P:Nat):Int) else -1):=Lib.hid (by
  unfold idxF
  cases hf:l.findIdx? P with
  |none=>
   have:=List.findIdx?_eq_none_iff_findIdx_eq.1 hf;rw[if_neg (by omega)]
  |some i=>
   obtain⟨h1,h2⟩:=List.findIdx?_eq_some_iff_findIdx_eq.1 hf;rw[if_pos (by omega)];simp only
   omega)
 have hle:l.findIdx P≤l.length:=List.findIdx_le_length;generalize idxF P l=z at*;generalize l.findIdx P=q at*;clear hP
 by_cases hq:q<l.length
 ·have hz:z=q:=by rw[HF.out,if_pos hq]
  subst hz;clear HF;go_enter Tryz.func83,Tryz.ntmps83;go_wp2_with (with_reducible (refine callB HI.out hst ?_;clear hst;intro w' hst));go_ret;exact⟨rfl,hst.end⟩
 ·have hz:z= -1:=by rw[HF.out,if_neg hq]
  obtain rfl:q=l.length:=by omega
  subst hz;clear HF;go_enter Tryz.func83,Tryz.ntmps83;go_wp2_with (with_reducible (refine callB HI.out hst ?_;clear hst;intro w' hst));go_ret;exact⟨rfl,hst.end⟩
def One (b:Nat) (C:Array Value) (T:TypeId):Dat:=fun p=>p=(b,C,T)
theorem One.holds {b:Nat} {C:Array Value} {T:TypeId} {w:World} {z:Nat×Nat} (h:w.heap[b]? =some (.cells C T z)):Holds (One b C T) w:=fun p hp=>by cases hp;exact⟨z,h⟩
instance oneLd {b:Nat} {v:Value} {T U:TypeId} [t:OneT U]:LdD (One b #[v] T) U ⟨b,0,none⟩ v:=LdD.one (D:=One b #[v] T) rfl rfl
theorem take1_calls (r:Rn) (n:Int) (b:Nat) (w:World) (hb:w.heap[b]? =some (.cells #[.int .i64 n] 3 (0,0))):Calls Tryz.prog 84 #[.agg #[.int .i64 r.s,.int .i64 r.c],.pointer (some ⟨b,0,none⟩)] w (Ret (.bool (decide (n≤r.c))) w):=by
 have hst:=Sx.start0 w (One.holds hb);go_enter Tryz.func84,Tryz.ntmps84;go_wp2_with (with_reducible first|refine x1 rfl rfl rfl hst ?_|refine xd rfl rfl rfl hst ?_|(refine xba rfl rfl hst rfl ?_;clear hst;intro bb w' hst));go_ret;exact⟨rfl,hst.end⟩
theorem append_over {w:World} {α:Type} {enc:α→List Value} {k:Nat} {T TS:TypeId} (ty:TypeId) {g n c:Nat} {C:Array Value} {u:Value} {m:List α} (hg:w.heap[g]? =some (.cells C T (0,0))) (hC:C.size=c*k) [sl:SlT TS T] [e:Elt T k] [en:Enc enc k] (hs:Src w enc u m) (hroom:n+m.length≤c):
  ∃C',(Builtin.append_ #[TS,TS] ty #[.slice (some ⟨g,0,none⟩) n c,u]).run Tryz.prog w=.ok (.slice (some ⟨g,0,none⟩) (n+m.length) c) (w.setRow g C')∧C'.size=C.size∧C'.toList.take (n*k)=C.toList.take (n*k)∧(C'.toList.drop (n*k)).take (m.length*k)=m.flatMap enc:=by
 obtain⟨i,z,hi,hz,hsz,hby,hzs,hk⟩:=elt_info T k;obtain⟨pa,cu,rfl,hc⟩:=hs
 by_cases hm:m=[]
 ·subst hm
  refine⟨C,?_,rfl,rfl,by simp⟩;rw[setRow_self w g C T hg];simpa using run_append_zero (k:=k) ty (some ⟨g,0,none⟩) pa n c cu (by simpa using hroom) w
 obtain⟨ad,rfl,hcells⟩:=hc hm;have hlm:(m.flatMap enc).length=m.length*i.size:=by rw[rows_length (k:=k),hsz]
 have hle:n*k+m.length*k≤c*k:=by rw[←Nat.add_mul];exact Nat.mul_le_mul_right _ hroom
 have hr:=run_append_room (P:=Tryz.prog) w TS ty T i sl.under hi g n c C hg ad m.length cu (m.flatMap enc) hlm hcells (rows_one (k:=k) m) hroom (by rw[hlm,hsz];omega);refine⟨_,hr,?_,?_,?_⟩
 ·simp only[List.size_toArray,List.length_append,List.length_take,List.length_drop,Array.length_toList,hsz,hlm]
  omega
 ·rw[hsz]
  simp only[List.append_assoc];rw[List.take_left' (by simp;omega)]
 ·rw[hsz]
  simp only[List.append_assoc];rw[List.drop_left' (by simp;omega),List.take_left' (by rw[hlm,hsz])]
section
variable {ρ:Operand→Value} {o:Oper} {x y z:Operand} {v:Value} {TS T:TypeId} {k:Nat}
theorem e_slH (ho:o.op=.slice TS x none (some y) none) {p:Option Addr} {n c:Nat} (hx:ρ x=.slice p n c) {kk:IntKind} {j:Nat} (hy:ρ y=.int kk (j:Int)) [sl:SlT TS T] [e:Elt T k] (hj:j≤c) (w:World):(execOp ρ o).run Tryz.prog w=.ok (.value (.slice p j c)) w:=by
 obtain⟨i,z,hi,hz,hs,hb,hzs,hk⟩:=elt_info T k;unfold execOp;rw[ho];have h1:(0:Int)≤(j:Int)∧(j:Int)≤(c:Int):=by omega
 simp[hx,hy,Instr.sliceAt,Instr.slice,Instr.sliceBounds,Instr.sliceBound,asIntOf,run_underlying sl.under,h1,hj,sizeOf,typeInfo,hi,hs]
 cases p<;>simp[Addr.add]
theorem e_slL (ho:o.op=.slice TS x (some y) none none) {p:Option Addr} {n c:Nat} (hx:ρ x=.slice p n c) {kk:IntKind} {j:Nat} (hy:ρ y=.int kk (j:Int)) [sl:SlT TS T] [e:Elt T k] (hj:j≤n) (w:World):(execOp ρ o).run Tryz.prog w=.ok (.value (.slice (if c=j then p else p.map (·.add (j*k))) (n-j) (c-j))) w:=by
 obtain⟨i,z,hi,hz,hs,hb,hzs,hk⟩:=elt_info T k;unfold execOp;rw[ho];have h1:(0:Int)≤(j:Int)∧(j:Int)≤(n:Int):=by omega
 simp[hx,hy,Instr.sliceAt,Instr.slice,Instr.sliceBounds,Instr.sliceBound,asIntOf,run_underlying sl.under,h1,hj,sizeOf,typeInfo,hi,hs]
end
theorem Fx.apo {α:Type} {enc:α→List Value} {k':Nat} {T TS:TypeId} {ops:Array Oper} {F:Fx.Flow} {Qf:List Blk→Act→Prop} {l:List Nat} {k:Nat} {o:Oper} {L:List Blk} {a:Act} {r:List (Nat×Value)} (h0:Fx.nthO ops.toList k=some o) (hs:F.special k=true) {x y:Operand} (ho:o.op=.call {callee:=.builtin .append,args:=#[x,y],argTypes:=#[TS,TS]})
  {g n c:Nat} {C:Array Value} {u:Value} (m:List α) (hx:Fx.evO r a x=.slice (some ⟨g,0,none⟩) n c) (hy:Fx.evO r a y=u) (hC:C.size=c*k') [sl:SlT TS T] [e:Elt T k'] [en:Enc enc k'] (hsrc:∀w:World,w.heap[g]? =some (.cells C T (0,0))→Src w enc u m) (hroom:n+m.length≤c) (hl:F.late k=true)
  (hk:∀C',C'.size=C.size→C'.toList.take (n*k')=C.toList.take (n*k')→(C'.toList.drop (n*k')).take (m.length*k')=m.flatMap enc→Fx.wpLX ops F Qf l ((g,C',T)::L) (Fx.mkO (Fx.nxt o.dst (.slice (some ⟨g,0,none⟩) (n+m.length) c) r) a)):Fx.wpLX ops F Qf (k::l) ((g,C,T)::L) (Fx.mkO r a):=by
 refine Fx.spec h0 hs (fun L' u=>∃C',L'=(g,C',T)::L∧u=.slice (some ⟨g,0,none⟩) (n+m.length) c∧C'.size=C.size∧C'.toList.take (n*k')=C.toList.take (n*k')∧(C'.toList.drop (n*k')).take (m.length*k')=m.flatMap enc) (fun w hw=>Or.inl ?_) ?_
 ·have hg:=hw.st.blk (g,C,T) (by simp)
  obtain⟨C',hr,h1,h2,h3⟩:=append_over (TS:=TS) o.type hg hC (hsrc w hg) hroom;refine⟨_,_,(g,C',T)::L,?_,⟨C',rfl,rfl,h1,h2,h3⟩,hw.upd (u:=Upd.head) (St.write1 hg)⟩;unfold execOp;simp only[ho,resolve,invoke,builtin,Sem.run_bind,Sem.run_pure,Result.andThen_ok,List.map_toArray,List.map_cons,List.map_nil,hx,hy,hr]
 ·rintro L' u ⟨C',rfl,rfl,h1,h2,h3⟩
  exact⟨Or.inl hl,hk C' h1 h2 h3⟩
section
variable {ops:Array Oper} {rest:List Oper} {o:Oper} {a:Act} {w:World} {Q:Exit→Act→World→Prop} {S:List Nat} {w0:World} {L:List Blk} {D:Dat} {F:List Nat}
theorem xclr (hw:Region.wanted o (yielded ops a.tmps)=true) {x:Operand} {T TS:TypeId} (ho:o.op=.call {callee:=.builtin .clear,args:=#[x],argTypes:=#[TS]}) {g off n c:Nat} {C:Array Value} (hx:a.eval x=.slice (some ⟨g,off,none⟩) n c) (h:Sx S w0 w ((g,C,T)::L) D F) [sl:SlT TS T] {i:TypeInfo} {z:Value} (hi:Tryz.prog.info? T=some i) (hz:i.zero=some z) (h1:∀v∈(Builtin.zeroCells z.cells n).toList,v.oneCell'=true) (hfit:off+(Builtin.zeroCells z.cells n).size≤C.size)
  (hk:∀C' w',C'.size=C.size→Sx S w0 w' ((g,C',T)::L) D F→wpList Tryz.prog ops Q rest (a.put o.dst (.tuple #[])) w'):wpList Tryz.prog ops Q (o::rest) a w:=
 BigFrame.wpList_want hw fun K hK=>by
  have hg:=h.st.blk (g,C,T) (by simp);have hst:=run_storeCells_at g off T (Builtin.zeroCells z.cells n).toList 0 C w hg (by simpa using hfit) h1;rw[Nat.add_zero] at hst
  by_cases hn:n=0
  ·subst hn
   unfold Oper.wp execOp;simp[ho,resolve,invoke,builtin,hx,Builtin.clear_,run_underlying sl.under];exact hK _ _ (hk C w rfl h)
  ·have hr:(Builtin.clear_ #[TS] o.type #[.slice (some ⟨g,off,none⟩) n c]).run Tryz.prog w=.ok (.tuple #[]) (w.setRow g (wr C off (Builtin.zeroCells z.cells n).toList)):=by
    cases n with
    |zero=>exact absurd rfl hn
    |succ n=>simp[Builtin.clear_,run_underlying sl.under,zeroValue,typeInfo,hi,hz,hst]
   unfold Oper.wp execOp;simp only[ho,resolve,invoke,builtin,Sem.run_bind,Sem.run_pure,Result.andThen_ok,List.map_toArray,List.map_cons,List.map_nil,hx,hr];exact hK _ _ (hk _ _ (wr_size _ _ _) (h.upd (L':=(g,_,T)::L) (u:=Upd.head) (St.write1 hg)))
end
theorem src_part {w:World} {α:Type} {enc:α→List Value} {k:Nat} {T:TypeId} {g n c j:Nat} {C:Array Value} {l:List α} [e:Enc enc k] (hg:w.heap[g]? =some (.cells C T (0,0))) (hn:n=l.length) (ht:C.toList.take (l.length*k)=l.flatMap enc) (hc:n≤c):
  Src w enc (.slice (if c=j then some ⟨g,0,none⟩ else(some (⟨g,0,none⟩:Addr)).map (·.add (j*k))) (n-j) (c-j)) (l.drop j):=by
 refine⟨_,_,by rw[List.length_drop,hn],fun hne=>?_⟩
 have hj:j<l.length:=by
  rcases Nat.lt_or_ge j l.length with h |h
  ·exact h
  ·exact absurd (List.drop_eq_nil_of_le h) hne
 rw[if_neg (by omega)];refine⟨_,rfl,fun q v hq=>?_⟩;show w.cell? (((⟨g,0,none⟩:Addr).add (j*k)).add q)=_;rw[addr_add,addr_add,cell_of_row w g _ _ _ _ hg,Nat.zero_add,←Array.getElem?_toList];have h1:l.flatMap enc=(l.take j).flatMap enc++(l.drop j).flatMap enc:=by rw[←List.flatMap_append,List.take_append_drop]
 have h2:((l.take j).flatMap enc).length=j*k:=by rw[rows_length (k:=k),List.length_take];congr 1;omega
 have hql:=(List.getElem?_eq_some_iff.1 hq).1;have h3:(l.flatMap enc)[j*k+q]? =some v:=by rw[h1,List.getElem?_append_right (by omega),h2,show j*k+q-j*k=q by omega];exact hq
 rw[←ht,List.getElem?_take] at h3;split at h3
 ·exact h3
 ·cases h3
set_option maxHeartbeats 1000000 in
theorem delete_calls {g c i:Nat} {C:Array Value} {l:List Rn} (w:World) (hg:w.heap[g]? =some (.cells C 36 (0,0))) (hi:i<l.length) (hc:l.length≤c) (hb:l.length≤1000000000) (hC:C.size=c*2) (ht:C.toList.take (l.length*2)=l.flatMap rnL):
  Calls Tryz.prog 87 #[.slice (some ⟨g,0,none⟩) l.length c,.int .i64 (i:Int),.int .i64 ((i:Int)+1)] w fun e w'=>(∃p m c',e=.returned (.slice p m c'))∧St [g] w w' []:=by
 have hst:Sx [g] w w [(g,C,36)] NoD []:=⟨St.at1 hg,Holds.none w,fun _ h=>h.elim,fun _ h=>by simp at h,fun _ h=>by simp at h,fun _ h=>by simp at h,fun _ h=>by simp at h⟩;have hne:((i:Int)==(i:Int)+1)=false:=by simp;omega
 obtain⟨j,hj⟩:∃j:Nat,(i:Int)+1=(j:Int):=⟨i+1,by omega⟩;have HJ:Hid (j=i+1):=Lib.hid (by omega);have h1:(i:Int)≤(j:Int):=by omega
 have h2:j≤l.length:=by omega
 have h3:i≤j:=by omega
 rw[hj] at hne ⊢;clear hj;go_enter Tryz.func87,Tryz.ntmps87;go_wp2_with fail;have hcn:¬c=i+(l.length-j):=by have:=HJ.out;omega
 have hl1:i+(l.length-j)≤l.length:=by omega
 obtain⟨i0,z0,hi0,hz0⟩:∃i0 z0,Tryz.prog.info? 36=some i0∧i0.zero=some z0∧z0.cells=#[.int .i64 0,.int .i64 0]:=by
  obtain⟨i0,h1,h2,_⟩:=info_parts (P:=Tryz.prog) (e:=36) (z:=.agg #[.int .i64 0,.int .i64 0]) (size:=2) (bytes:=16) (by kernel_rfl);exact⟨i0,_,h1,h2,rfl⟩
 refine Fx.go (fun i=>i==6) (fun _=>true) (fun i=>i==6) (List.range 8) rfl hst (by kernel_rfl) (by kernel_rfl) (by kernel_rfl) (by kernel_rfl) (by kernel_rfl) ?_;refine Fx.val rfl rfl rfl rfl (Fx.e_mv rfl rfl) ?_;refine Fx.val rfl rfl rfl rfl (Fx.e_mv rfl rfl) ?_;refine Fx.val rfl rfl rfl rfl (e_slH rfl rfl rfl (by omega)) ?_;refine Fx.val rfl rfl rfl rfl (Fx.e_mv rfl rfl) ?_;refine Fx.val rfl rfl rfl rfl (Fx.e_mv rfl rfl) ?_;refine Fx.val rfl rfl rfl rfl (e_slL rfl rfl rfl (by omega)) ?_;refine Fx.apo rfl rfl rfl (l.drop j) rfl rfl hC (fun w hw=>src_part hw rfl ht hc) (by rw[List.length_drop];omega) rfl ?_;intro C' h4 _ _;refine Fx.val rfl rfl rfl rfl (Fx.e_as rfl rfl) ?_;clear hst;intro w' hst;simp only[Fx.nxt_some,Fx.nxt_none,Fx.mkO_cons,Fx.mkO_nil,Fx.evO_eq,List.length_drop];generalize hn1:i+(l.length-j)=n1 at*
 have HZ:Hid (∀v∈(Builtin.zeroCells z0.cells (l.length-n1)).toList,v.oneCell'=true):=Lib.hid (by
  rw[hz0.2];intro v hv;simp only[Builtin.zeroCells,Array.toList_map,List.mem_map] at hv;obtain⟨q,_,rfl⟩:=hv;have:q%2=0∨q%2=1:=by omega
  show(#[Value.int .i64 0,.int .i64 0][q%2]!).oneCell'=true
  rcases this with e |e<;>rw[e]<;>rfl)
 have hnc:n1≤c:=by omega
 have HS:Hid (n1*2+(Builtin.zeroCells z0.cells (l.length-n1)).size≤C'.size):=Lib.hid (by rw[size_zeroCells,hz0.2,h4,hC];show n1*2+(l.length-n1)*2≤c*2;omega);have HZ0:=Lib.hid hz0;have HI0:=Lib.hid hi0;clear hz0 hi0 h4 hC ht hne;go_wp2_with (with_reducible refine xclr (T:=36) (TS:=98) (g:=g) (off:=n1*2) (n:=l.length-n1) rfl rfl rfl hst HI0.out HZ0.out.1 HZ.out HS.out ?_;clear hst;intro C2 w2 h5 hst)
 all_goals
  go_ret;exact⟨⟨_,_,_,rfl⟩,hst.endF⟩
def rTake (l:List Rn) (n:Int):Rn×Bool:=
 if n<1∨rCheck l=false then(⟨0,0⟩,false) else
 match l.findIdx? fun r=>decide (n≤r.c) with
 |none=>(⟨0,0⟩,false)
 |some i=>(⟨(l.getD i ⟨0,0⟩).s,n⟩,true)
theorem rTake_bad {l:List Rn} {n:Int} (h:n<1∨rCheck l=false):rTake l n=(⟨0,0⟩,false):=if_pos h
theorem rTake_none {l:List Rn} {n:Int} (h:l.findIdx (fun r=>decide (n≤r.c))=l.length):rTake l n=(⟨0,0⟩,false):=by
 unfold rTake;split
 ·rfl
 ·rw[List.findIdx?_eq_none_iff_findIdx_eq.2 h]
theorem rTake_at {l:List Rn} {n:Int} {i:Nat} (h1:¬n<1) (h2:rCheck l=true) (hi:i<l.length) (h:l.findIdx (fun r=>decide (n≤r.c))=i):rTake l n=(⟨l[i].s,n⟩,true):=by
 unfold rTake;rw[if_neg (by simp[h1,h2]),List.findIdx?_eq_some_iff_findIdx_eq.2 ⟨hi,h⟩];simp[hi]
theorem hen65 (args:Array Value) (w:World):(callFunc 84 args).run Tryz.prog w=.ok (.enter 84 args) w:=by kernel_rfl
def TakePost (res:Rn×Bool) (w:World) (e:Ending) (w':World):Prop:=∃v,e=.returned (.tuple #[.agg #[.int .i64 res.1.s,.int .i64 res.1.c],v,.bool res.2])∧Below w.heap.size w w'
theorem Sx.callee {S:List Nat} {w0 w w':World} {g:Nat} {C:Array Value} {T:TypeId} {L:List Blk} {D:Dat} {F:List Nat} (h:Sx S w0 w ((g,C,T)::L) D F) (k:St [g] w w' []):Sx S w0 w' L D F where
 st:=by
  refine⟨k.os.trans h.st.os,k.tape.trans h.st.tape,k.output.trans h.st.output,Nat.le_trans h.st.size k.size,fun j hj hs=>?_,fun p hp=>h.st.own p (by simp[hp]),(List.nodup_cons.1 h.st.nodup).2,fun p hp=>?_⟩
  ·refine(k.kept j (Nat.lt_of_lt_of_le hj h.st.size) (fun hm=>?_)).trans (h.st.kept j hj hs)
   obtain rfl:j=g:=by simpa using hm
   rcases h.st.own (j,C,T) (by simp) with h1 |h1
   ·simp at h1;omega
   ·exact hs h1
  ·refine(k.kept p.1 (h.st.lt p (by simp[hp])) (fun hm=>?_)).trans (h.st.blk p (by simp[hp]))
   have e:p.1=g:=by simpa using hm
   exact(List.nodup_cons.1 h.st.nodup).1 (List.mem_map.2 ⟨p,hp,e⟩)
 data p hp:=by
  obtain⟨z,hz⟩:=h.data p hp;exact⟨z,(k.kept p.1 (lt_of_heap' hz) (fun hm=>h.apart p hp (g,C,T) (by simp) (by simpa using hm))).trans hz⟩
 apart p hp q hq:=h.apart p hp q (by simp[hq])
 flt x hx:=Nat.lt_of_lt_of_le (h.flt x hx) k.size
 fL x hx q hq:=h.fL x hx q (by simp[hq])
 fD:=h.fD
 fS:=h.fS
set_option maxHeartbeats 1000000 in
theorem rtake_calls {D:Dat} {p:Option Addr} {c:Nat} {l:List Rn} (h:RowAt D 36 2 rnL p c l) (n:Int) (hn:I64 n) (hwf:∀r∈l,r.Wf) (w:World) (hD:Holds D w):
  Calls Tryz.prog 39 #[.slice p l.length c,.int .i64 n] w (TakePost (rTake l n) w):=by
 have hst:=Sx.start0 w hD;have HC:=Lib.hid (rcheck_calls h);have HB:=Lib.hid (fun h=>rTake_bad (l:=l) (n:=n) h);have HN:=Lib.hid (rTake_none (l:=l) (n:=n));have HA:Hid (∀(i:Nat) (_:¬n<1) (_:rCheck l=true) (hi:i<l.length) (_:l.findIdx (fun r=>decide (n≤r.c))=i),rTake l n=(⟨l[i].s,n⟩,true)):=Lib.hid (fun i h1 h2 hi h=>rTake_at h1 h2 hi h);have HW:=Lib.hid hwf;clear hwf;generalize rTake l n=res at*;go_enter Tryz.func39,Tryz.ntmps39;go_wp2_with (first|(with_reducible first|refine x1 rfl rfl rfl hst ?_|refine xa rfl rfl rfl hst ?_|(refine xsa rfl rfl rfl rfl hst ?_;clear hst;intro w' hst)|(refine xbi rfl rfl hst rfl ?_;clear hst;intro bb w' hst)|(refine xnw rfl rfl hst ?_;clear hst;intro bn w' hst))|(with_reducible (refine callB (HC.out _ hst.data) hst ?_;clear hst;intro w' hst)))
 ·obtain rfl:=HB.out (by simp_all)
  refine bodyPost_ret (results3 rfl (res_agg rfl hst.st.has) res_tmp res_tmp) rfl ⟨_,rfl,hst.end⟩
 rotate_left
 ·obtain rfl:=HB.out (by simp_all)
  refine bodyPost_ret (results3 rfl (res_agg rfl hst.st.has) res_tmp res_tmp) rfl ⟨_,rfl,hst.end⟩
 ·have hok:1≤n∧rCheck l=true:=by simp_all
  obtain⟨hok1,hok2⟩:=hok;have hbb:=hst.st.has (g:=bb);have HI:=Lib.hid (first_calls h w' hst.data 84 #[.pointer (some ⟨bb,0,none⟩)] (fun r=>decide (n≤r.c)) hen65 (fun i hi w2 hb=>take1_calls l[i] n bb w2 ((hb.block bb (lt_of_heap' hbb)).trans hbb)));have hle:l.findIdx (fun r=>decide (n≤r.c))≤l.length:=List.findIdx_le_length;generalize hq:l.findIdx (fun r=>decide (n≤r.c))=q at*;have HQ:=Lib.hid hq;clear hq
  by_cases hql:q=l.length
  ·subst hql
   obtain rfl:=HN.out rfl;go_wp2_with (first|(with_reducible first|refine xa rfl rfl rfl hst ?_|(refine xsa rfl rfl rfl rfl hst ?_;clear hst;intro w' hst))|(with_reducible (refine callB HI.out hst ?_;clear hst;intro w' hst)));refine bodyPost_ret (results3 rfl (res_agg rfl hst.st.has) res_tmp res_tmp) rfl ⟨_,rfl,hst.end⟩
  ·have hlt:q<l.length:=by omega
   obtain rfl:=HA.out q (by omega) hok2 hlt rfl;have hne:((q:Int)==(l.length:Int))=false:=by simp;omega
   obtain⟨g,off,rfl⟩:=h.at_some hlt;go_wp2_with (first|fail |(with_reducible (refine callB HI.out hst ?_;clear hst;intro w' hst)));have e0:LdD D 3 ⟨g,off+q*2,none⟩ (.int .i64 l[q].s):=h.ldf hlt 0 rfl rfl;have e1:LdD D 3 ⟨g,off+q*2+1,none⟩ (.int .i64 l[q].c):=h.ldf hlt 1 rfl rfl;refine Fx.go (fun i=>i==7) (fun i=> !(i==4||i==5)) (fun i=>i==7) (List.range 8) rfl hst (by kernel_rfl) (by kernel_rfl) (by kernel_rfl) (by kernel_rfl) (by kernel_rfl) ?_
   repeat(first|refine Fx.val rfl rfl rfl rfl (Fx.e_mv rfl rfl) ?_|refine Fx.fa rfl rfl rfl rfl rfl rfl ?_|refine Fx.l1 rfl rfl rfl rfl rfl rfl ?_|refine Fx.lD rfl rfl rfl rfl rfl rfl ?_|refine Fx.ix rfl rfl rfl rfl rfl rfl rfl (by omega) ?_)
   refine Fx.val rfl rfl rfl rfl (v:=.agg #[.int .i64 l[q].s,.int .i64 n]) (fun w=>by kernel_rfl) ?_
   repeat(refine Fx.stA rfl rfl rfl rfl rfl (Or.inl rfl) ?_)
   clear hst;intro w' hst;simp only[Fx.nxt_some,Fx.nxt_none,Fx.mkO_cons,Fx.mkO_nil,Fx.evO_eq];go_wp2_with fail;refine(cloneRun_calls h _ hst.data).mono ?_;rintro e w2 ⟨v,Lo,rfl,hown,hsL⟩;have hs2:=hst.take hsL;rcases hown with⟨_,_,h0⟩ |⟨g2,c2,C2,rfl,rfl,hc1,hc2,hc3,hc4⟩
   ·rw[h0] at hlt;simp at hlt
   clear hst hsL;have hst:Sx [] w w2 ((g2,C2,36)::(bn,#[.int .i64 l[q].s,.int .i64 n],36)::(bb,#[.int .i64 n],3)::[]) D []:=hs2;clear hs2
   have hqc:n≤l[q].c:=by
    have:=List.findIdx_getElem (xs:=l) (p:=fun r=>decide (n≤r.c)) (w:=by rw[HQ.out];exact hlt);simp only[HQ.out] at this;simpa using this
   have hqw:=(HW.out l[q] (List.getElem_mem hlt)).2;unfold I64 at hqw;have HS:=Lib.hid (own_set (enc:=rnL) (by decide) hc4 hlt ⟨rEnd ⟨l[q].s,n⟩,l[q].c-n⟩);have HG:=Lib.hid (fun j=>wr_get (rnL ⟨rEnd ⟨l[q].s,n⟩,l[q].c-n⟩) C2 (q*2) j (by simp;omega));have hW:WrAt C2 (q*2) 2 (.agg #[.int .i64 (rEnd ⟨l[q].s,n⟩),.int .i64 (l[q].c-n)]) (wr C2 (q*2) (rnL ⟨rEnd ⟨l[q].s,n⟩,l[q].c-n⟩)):=wrRow _ _ _ _ rfl (encRn.one ⟨rEnd ⟨l[q].s,n⟩,l[q].c-n⟩) (by omega);generalize hC3:wr C2 (q*2) (rnL ⟨rEnd ⟨l[q].s,n⟩,l[q].c-n⟩)=C3 at*;have hc11:CellAt C3 (q*2+1) (.int .i64 (l[q].c-n)):=⟨by rw[HG.out,if_pos ⟨by omega,by show q*2+1<q*2+2;omega⟩,show q*2+1-q*2=1 by omega];rfl⟩;have HS3:Hid (C3.size=C2.size):=Lib.hid (by rw[←hC3,wr_size]);clear hC3;go_wp2_with fail;refine Fx.go (fun i=>i==13) (fun i=> !(i==2||i==8||i==9)) (fun i=>i==13) (List.range 14) rfl hst (by kernel_rfl) (by kernel_rfl) (by kernel_rfl) (by kernel_rfl) (by kernel_rfl) ?_
   repeat(first|refine Fx.val rfl rfl rfl rfl (Fx.e_mv rfl rfl) ?_|refine Fx.lA rfl rfl rfl rfl rfl rfl ?_)
   refine Fx.call rfl rfl (end_calls ⟨l[q].s,n⟩) rfl rfl (fun w=>by kernel_rfl) ?_
   repeat(first|refine Fx.val rfl rfl rfl rfl (Fx.e_mv rfl rfl) ?_|refine Fx.fa rfl rfl rfl rfl rfl rfl ?_|refine Fx.l1 rfl rfl rfl rfl rfl rfl ?_|refine Fx.lD rfl rfl rfl rfl rfl rfl ?_|refine Fx.ix rfl rfl rfl rfl rfl rfl rfl (by omega) ?_|refine Fx.val rfl rfl rfl rfl (Fx.e_sub rfl rfl rfl (by omega)) ?_)
   refine Fx.val rfl rfl rfl rfl (v:=.agg #[.int .i64 (rEnd ⟨l[q].s,n⟩),.int .i64 (l[q].c-n)]) (fun w=>by kernel_rfl) ?_
   repeat(first|refine Fx.ix rfl rfl rfl rfl rfl rfl rfl (by omega) ?_|refine Fx.stA rfl rfl rfl rfl rfl (Or.inl rfl) ?_)
   clear hst;intro w' hst;simp only[Fx.nxt_some,Fx.nxt_none,Fx.mkO_cons,Fx.mkO_nil,Fx.evO_eq];go_wp2_with (with_reducible first|refine x1 rfl rfl rfl hst ?_|refine xa rfl rfl rfl hst ?_|(refine xsa rfl rfl rfl rfl hst ?_;clear hst;intro w' hst))
   ·have hw1:wrap64 ((q:Int)+1)=(q:Int)+1:=by have:=h.big;unfold wrap64;omega
    rw[hw1];have hst2:=hst.st.has (g:=g2);have HD:=delete_calls (l:=l.set q ⟨rEnd ⟨l[q].s,n⟩,l[q].c-n⟩) w' hst2 (by simpa using hlt) (by simpa using hc1) (by simpa using h.big) (by rw[HS3.out];exact hc3) (by rw[List.length_set];exact HS.out);rw[List.length_set] at HD;refine HD.mono ?_;rintro e w5 ⟨⟨p5,m5,c5,rfl⟩,hs5⟩;have hst:=hst.callee hs5;go_wp2_with (with_reducible first|refine xa rfl rfl rfl hst ?_|(refine xsa rfl rfl rfl rfl hst ?_;clear hst;intro w' hst));refine bodyPost_ret (results3 rfl (res_agg rfl hst.st.has) res_tmp res_tmp) rfl ⟨_,rfl,hst.end⟩
   ·refine bodyPost_ret (results3 rfl (res_agg rfl hst.st.has) res_tmp res_tmp) rfl ⟨_,rfl,hst.end⟩
end Go.Proofs.YtdkeiefgkgpcbaaGreatDoor
namespace Go.Proofs.YtdkeiefgkgpcbaaGreatDoor
open Go.RowKit
def OwnRet (T:TypeId) (k:Nat) {α:Type} (enc:α→List Value) (l:List α) (w:World) (e:Ending) (w':World):Prop:=∃v Lo,e=.returned v∧OwnR T k enc Lo v l∧St [] w w' Lo
abbrev inL (x:Int):List Value:=[.int .i64 x]
instance encInt:Enc inL 1:=⟨fun _=>rfl,fun x v hv=>by simp at hv;subst hv;rfl⟩
instance eltInt:Elt 3 1:=⟨.int .i64 0,8,by kernel_rfl,rfl,by decide,by decide⟩
instance sltInt:SlT 48 3:=⟨Tryz.underlying48⟩
section
variable {w:World} {S:List Nat} {w0:World} {L:List Blk} {D:Dat} {F:List Nat} {α:Type} {enc:α→List Value} {k:Nat} {T TS:TypeId}
theorem append_full (ty:TypeId) {p:Option Addr} {u:Value} {l m:List α} (h:Sx S w0 w L D F) (hr:RowAt D T k enc p l.length l) [sl:SlT TS T] [e:Elt T k] [en:Enc enc k] (hs:Src w enc u m) (hm:m≠[]) (hl:l.length+m.length≤1000000000):
  ∃p' c' w' Lo,(Builtin.append_ #[TS,TS] ty #[.slice p l.length l.length,u]).run Tryz.prog w=.ok (.slice p' (l.length+m.length) c') w'∧OwnR T k enc Lo (.slice p' (l.length+m.length) c') (l++m)∧Sx S w0 w' (Lo++L) D F:=by
 obtain⟨i,z,hi,hz,hsz,hby,hzs,hk⟩:=elt_info T k;obtain⟨pa,cu,rfl,hc⟩:=hs;obtain⟨ad,rfl,hcells⟩:=hc hm;have hm0:0<m.length:=List.length_pos_iff.2 hm;have hlm:(m.flatMap enc).length=m.length*i.size:=by rw[rows_length (k:=k),hsz]
 have hby2:(l.length+m.length)*i.bytes≤140737488355328:=Nat.le_trans (Nat.mul_le_mul hl hby) (by omega)
 have key:(Builtin.append_ #[TS,TS] ty #[.slice p l.length l.length,.slice (some ad) m.length cu]).run Tryz.prog w=.ok (.slice (some ⟨w.heap.size,0,none⟩) (l.length+m.length) (grownCap w (l.length+m.length) l.length T)) (w.drew.alloc (.cells ((l.flatMap enc).toArray++(m.flatMap enc).toArray++Builtin.zeroCells z.cells (grownCap w (l.length+m.length) l.length T-(l.length+m.length))) T)):=by
  by_cases hne:l=[]
  ·subst hne
   cases p with
   |none=>
    have:=run_append_nil (P:=Tryz.prog) w TS ty T i z sl.under hi hz ad m.length cu (m.flatMap enc) hlm hcells hm0 (by omega) (by rw[List.length_nil,Nat.zero_add] at hby2;omega);simpa using this
   |some b=>
    have:=run_append_grow (P:=Tryz.prog) w TS ty T i z sl.under hi hz b 0 0 [] (by simp) (by simp) ad m.length cu (m.flatMap enc) hlm hcells (by omega) (by omega) (growslice_fits (by omega) (by simpa using hby2));simpa using this
  ·obtain⟨ad0,rfl,hold⟩:=hr.cells h.data hk hne
   exact run_append_grow (P:=Tryz.prog) w TS ty T i z sl.under hi hz ad0 l.length l.length (l.flatMap enc) (by rw[rows_length (k:=k),hsz]) hold ad m.length cu (m.flatMap enc) hlm hcells (by omega) (by omega) (growslice_fits (by omega) hby2)
 have hge:=grownCap_ge w (l.length+m.length) l.length T;have hcm:=grownCap_le_maxLen w (l.length+m.length) l.length T (by unfold maxLen;omega);refine⟨_,_,_,_,key,Or.inr ⟨w.heap.size,_,_,rfl,by rw[List.length_append],by rw[List.length_append];exact hge,hcm,?_,?_⟩,h.takeNew (Below.drew (Below.refl _ _)|>.alloc (Nat.le_refl _) _) (Nat.le_refl _) (heap_alloc_new w.drew _)⟩
 ·simp only[Array.size_append,List.size_toArray,size_zeroCells,hzs,rows_length (k:=k),←Nat.add_mul]
  congr 1;omega
 ·simp only[Array.toList_append,List.flatMap_append,List.length_append]
  rw[List.take_left' (by simp[rows_length (k:=k),←Nat.add_mul])]
variable {ops:Array Oper} {rest:List Oper} {o:Oper} {a:Act} {Q:Exit→Act→World→Prop}
theorem xapF (hw:Region.wanted o (yielded ops a.tmps)=true) {x y:Operand} (ho:o.op=.call {callee:=.builtin .append,args:=#[x,y],argTypes:=#[TS,TS]}) {p:Option Addr} {b cc n nn:Nat} {C:Array Value} {T':TypeId} {l:List α} (hr:RowAt D T k enc p l.length l) (el:α) (hx:a.eval x=.slice p n nn) (hy:a.eval y=.slice (some ⟨b,0,none⟩) 1 cc) (hn:n=l.length) (hnn:nn=l.length) (h:Sx S w0 w ((b,C,T')::L) D F)
  [sl:SlT TS T] [e:Elt T k] [en:Enc enc k] (hC:C=(enc el).toArray) (hl:l.length+1≤1000000000)
  (hk:∀p c w' Lo (m:List α),Hid (m=l++[el])→OwnR T k enc Lo (.slice p m.length c) m→Sx S w0 w' (Lo++L) D F→wpList Tryz.prog ops Q rest (a.put o.dst (.slice p m.length c)) w'):wpList Tryz.prog ops Q (o::rest) a w:=
 BigFrame.wpList_want hw fun K hK=>by
  subst hC hn hnn;have hb:=h.st.blk (b,(enc el).toArray,T') (by simp);have hs:Src w enc (.slice (some ⟨b,0,none⟩) [el].length cc) [el]:=src_block (T:=T') (by simpa using hb);obtain⟨p',c',w',Lo,hr,h1,h2⟩:=append_full (TS:=TS) o.type h.drop hr hs (by simp) (by simpa using hl);unfold Oper.wp execOp;have hy':a.eval y=.slice (some ⟨b,0,none⟩) [el].length cc:=hy;simp only[ho,resolve,invoke,builtin,Sem.run_bind,Sem.run_pure,Result.andThen_ok,List.map_toArray,List.map_cons,List.map_nil,hx,hy',hr];have e1:l.length+[el].length=(l++[el]).length:=by simp
  rw[e1] at h1 ⊢;exact hK _ _ (hk _ _ _ _ _ (Lib.hid rfl) h1 h2)
end
theorem OwnR.rowAt {T:TypeId} {k:Nat} {α:Type} {enc:α→List Value} {Lo:List Blk} {p:Option Addr} {n c:Nat} {l:List α} [Enc enc k] (h:OwnR T k enc Lo (.slice p n c) l) (hb:l.length≤1000000000) {D:Dat} (hD:∀p∈Lo,D p):RowAt D T k enc p c l:=by
 obtain⟨p',c',e,hr⟩:=h.row hb hD;injection e with e1 e2 e3
 subst e1 e3;exact hr
theorem clip_calls (p:Option Addr) (n c:Nat) (hc:n≤c) (w:World):Calls Tryz.prog 88 #[.slice p n c] w (Ret (.slice p n n) w):=by
 have hst:=Sx.startN w;have h0:(0:Int)≤(n:Int):=by omega
 go_enter Tryz.func88,Tryz.ntmps88;go_wp2_with fail;go_ret;exact⟨rfl,hst.end⟩
def freeGo:Nat→Int→List Int→List Rn→List Rn
 |_,_,[],out=>out
 |i,f,s::l,out=>if s=0∧f<0 then freeGo (i+1) i l out else if s≠0∧0≤f then freeGo (i+1) (-1) l (out++[⟨f,i-f⟩]) else freeGo (i+1) f l out
def rFree (l:List Int):List Rn:=freeGo 0 (-1) (l++[1]) []
set_option maxHeartbeats 1000000 in
theorem free_calls {D:Dat} {p:Option Addr} {c:Nat} {l:List Int} (h:RowAt D 3 1 inL p c l) (hl:l.length≤100000000) (w:World) (hD:Holds D w):Calls Tryz.prog 40 #[.slice p l.length c] w (OwnRet 36 2 rnL (rFree l) w):=by
 have hst:=Sx.start0 w hD;have hcap:=h.cap;have hr:RowAt D 3 1 inL p l.length l:=⟨Nat.le_refl _,h.big,h.at_⟩;go_enter Tryz.func40,Tryz.ntmps40;go_wp2_with (first|fail |(with_reducible (refine callB (clip_calls p _ _ hcap _) hst ?_;clear hst;intro w' hst))|(with_reducible refine xmk rfl 9 rfl hst #[.int .i64 1] 3 (fun b=>.slice (some ⟨b,0,none⟩) 1 1) (fun w=>by kernel_rfl) ?_;clear hst;intro b w' hst)|(with_reducible refine xapF (T:=3) rfl rfl hr 1 rfl rfl rfl rfl hst rfl (by omega) ?_;clear hst;intro p2 c2 w2 Lo m hm hown hst));have hst:=hst.lay;have hml:m.length=l.length+1:=by rw[hm.out];simp
 have hm2:=hown.rowAt (by omega) (D:=fun p=>D p∨p∈Lo) (fun p hp=>Or.inr hp);have HM:Hid (m.length≤100000001):=Lib.hid (by omega);have HF:Hid (freeGo 0 (-1) (m.drop 0) []=rFree l):=Lib.hid (by rw[hm.out];rfl);clear hown hm hr hcap hl hml;generalize (fun p=>D p∨p∈Lo)=D2 at*;go_loopw [3,4,12] (fun ov fv iv wr=>∃(k:Nat) (f:Int) (out:List Rn) (Lo:List Blk),k≤m.length∧iv=.int .i64 k∧fv=.int .i64 f∧Hid (f≤k∧ -1≤f∧out.length≤k)∧Sx [] w wr (Lo++[]) D2 []∧OwnR 36 2 rnL Lo ov out∧Hid (freeGo k f (m.drop k) out=rFree l)) (fun _ _ iv _=>m.length-(intOf iv).toNat)
 case atStart=>exact⟨0,-1,[],[],by omega,rfl,rfl,Lib.hid (by simp),hst,OwnR.none _,HF⟩
 case round=>
  obtain⟨k,f,out,Lo2,hk,rfl,rfl,HB,hst,hown,HF⟩:=hrel;have hB:=HB.out;have hMM:=HM.out;obtain⟨p3,c3,rfl⟩:=hown.slice
  by_cases hlt:k<m.length
  ·obtain⟨g,off,rfl⟩:=hm2.at_some hlt
   have hld:=hm2.ld1 hlt rfl;rw[List.drop_eq_getElem_cons hlt] at HF;generalize m[k]=s at*;go_wp2_with (first|(with_reducible refine xd rfl rfl rfl hst ?_)|(with_reducible refine xmk rfl 38 rfl hst (rnL ⟨f,k-f⟩).toArray 36 (fun b=>.slice (some ⟨b,0,none⟩) 1 1) (fun w=>by kernel_rfl) ?_;clear hst;intro b w' hst)|(with_reducible refine xap1 (T:=36) rfl _ _ rfl ⟨f,k-f⟩ rfl rfl rfl hst hown rfl (by omega) ?_;clear hst;intro p4 c4 w4 Lo4 hown4 hst))
   ·go_roundw
    case rel=>exact⟨k+1,k,out,Lo2,by omega,by go_num,rfl,Lib.hid (by omega),hst,hown,Lib.hid (by rw[←HF.out];simp[freeGo, *])⟩
    case measure=>simp[intOf];omega
   ·go_roundw
    case rel=>exact⟨k+1,f,out,Lo2,by omega,by go_num,rfl,Lib.hid (by omega),hst,hown,Lib.hid (by
     have hf:¬f<0:=by omega
     rw[←HF.out];simp[freeGo, *])⟩
    case measure=>simp[intOf];omega
   ·have hs:¬s=0∧0≤f:=by simp_all
    have hl:(out++[(⟨f,k-f⟩:Rn)]).length=out.length+1:=by simp
    have HN:Hid (freeGo (k+1) (-1) (m.drop (k+1)) (out++[⟨f,k-f⟩])=rFree l):=Lib.hid (by rw[←HF.out];simp[freeGo,hs]);have HL:Hid ((-1:Int)≤(k+1:Nat)∧(-1:Int)≤ -1∧(out++[(⟨f,k-f⟩:Rn)]).length≤k+1):=Lib.hid (by omega);clear hl;go_roundw
    case rel=>exact⟨k+1,-1,_,Lo4,by omega,by go_num,rfl,HL,hst,hown4,HN⟩
    case measure=>simp[intOf];omega
   ·have hs:¬s=0:=by assumption
    have hf:f<0:=by
     rename_i h;rcases h with h |h
     ·simp[hs] at h
     ·exact h
    go_roundw
    case rel=>exact⟨k+1,f,out,Lo2,by omega,by go_num,rfl,Lib.hid (by omega),hst,hown,Lib.hid (by
     have hf2:¬0≤f:=by omega
     rw[←HF.out];simp[freeGo,hs,hf,hf2])⟩
    case measure=>simp[intOf];omega
  ·obtain rfl:k=m.length:=by omega
   rw[List.drop_length] at HF;have HO:Hid (out=rFree l):=Lib.hid HF.out;go_wp2_with fail;go_ret;rw[HO.out] at hown;exact⟨_,Lo2,rfl,by rw[HO.out];exact hown,hst.takeL.st⟩
end Go.Proofs.YtdkeiefgkgpcbaaGreatDoor
namespace Go.Proofs.YtdkeiefgkgpcbaaGreatDoor
open Go.RowKit
structure Bk where
 st:Int
 data:ByteArray
abbrev bkL (b:Bk):List Value:=[.int .i64 b.st,.string b.data]
inductive Ac
 |write (at_:Int) (data:ByteArray)
 |erase (at_:Int)
def Ac.at_:Ac→Int
 | .write a _=>a
 | .erase a=>a
def acV:Ac→Value
 | .write a d=>.iface 171 (.agg #[.int .i64 a,.string d])
 | .erase a=>.iface 172 (.int .i64 a)
abbrev acL (a:Ac):List Value:=[acV a]
structure Dv where
 sure:List Bk
 now:List Bk
 acts:List Ac
 off:Bool
 starts:Int
 left:Int
 keep:List Int
def Bk.Ok (b:Bk):Prop:=(b.st=0∨b.st=1∨b.st=2)∧b.data.size≤1000
structure Dv.Ok (d:Dv):Prop where
 same:d.sure.length=d.now.length
 min:4≤d.now.length
 max:d.now.length≤512
 acts:∀a∈d.acts,∃k:Nat,a.at_=k∧k<d.now.length
 adat:∀a∈d.acts,∀x s,a=.write x s→s.size≤1000
 bsure:∀b∈d.sure,b.Ok
 bnow:∀b∈d.now,b.Ok
 left:I64 d.left
 keep:∀k∈d.keep,I64 k
def b0:Bk:=⟨0,noS⟩
instance encBk:Enc bkL 2:=⟨fun _=>rfl,fun x v hv=>by simp at hv;rcases hv with rfl |rfl<;>rfl⟩
instance eltBk:Elt 139 2:=⟨.agg #[.int .i64 0,.string ⟨#[]⟩],24,by kernel_rfl,rfl,by decide,by decide⟩
instance sltBk:SlT 104 139:=⟨Tryz.underlying104⟩
instance aggBk:AggT 139 2:=⟨fun w=>by kernel_rfl,by kernel_rfl⟩
instance zeroBk:ZeroT 139 #[.int .i64 0,.string ⟨#[]⟩]:=.agg fun w=>by kernel_rfl
instance encAc:Enc acL 1:=⟨fun _=>rfl,fun x v hv=>by simp at hv;subst hv;cases x<;>rfl⟩
instance eltAc:Elt 137 1:=⟨.nilIface,16,by kernel_rfl,rfl,by decide,by decide⟩
instance sltAc:SlT 105 137:=⟨Tryz.underlying105⟩
instance oneAc:OneT 137:=⟨fun w=>by kernel_rfl,by kernel_rfl⟩
instance oneBks:OneT 104:=⟨fun w=>by kernel_rfl,by kernel_rfl⟩
instance oneAcs:OneT 105:=⟨fun w=>by kernel_rfl,by kernel_rfl⟩
instance oneInts:OneT 48:=⟨fun w=>by kernel_rfl,by kernel_rfl⟩
instance aggDev:AggT 112 7:=⟨fun w=>by kernel_rfl,by kernel_rfl⟩
instance fldDev0:Fx.FldT 112 0 0:=⟨fun ad w=>by kernel_rfl⟩
instance fldDev1:Fx.FldT 112 1 1:=⟨fun ad w=>by kernel_rfl⟩
instance fldDev2:Fx.FldT 112 2 2:=⟨fun ad w=>by kernel_rfl⟩
instance fldDev3:Fx.FldT 112 3 3:=⟨fun ad w=>by kernel_rfl⟩
instance fldDev5:Fx.FldT 112 5 5:=⟨fun ad w=>by kernel_rfl⟩
instance fldDev6:Fx.FldT 112 6 6:=⟨fun ad w=>by kernel_rfl⟩
structure Dp where
 gs:Nat
 cs:Nat
 Cs:Array Value
 gn:Nat
 cn:Nat
 Cn:Array Value
 va:Value
 La:List Blk
 vk:Value
def devC (d:Dv) (q:Dp):Array Value:=#[.slice (some ⟨q.gs,0,none⟩) d.sure.length q.cs,.slice (some ⟨q.gn,0,none⟩) d.now.length q.cn,q.va,.bool d.off,.int .i64 d.starts,.int .i64 d.left,q.vk]
def devL (g:Nat) (d:Dv) (q:Dp):List Blk:=(g,devC d q,112)::(q.gs,q.Cs,139)::(q.gn,q.Cn,139)::q.La
structure DevMem (D:Dat) (d:Dv) (q:Dp):Prop where
 ok:d.Ok
 sl:d.sure.length≤q.cs
 ss:q.Cs.size=q.cs*2
 st:q.Cs.toList.take (d.sure.length*2)=d.sure.flatMap bkL
 nl:d.now.length≤q.cn
 ns:q.Cn.size=q.cn*2
 nt:q.Cn.toList.take (d.now.length*2)=d.now.flatMap bkL
 ac:OwnR 137 1 acL q.La q.va d.acts
 al:d.acts.length≤1000000
 kp:RowD D 3 1 inL q.vk d.keep
structure DevW (D:Dat) (F:List Nat) (w:World) (g:Nat) (d:Dv):Prop where
 data:Holds D w
 apart:∀x∈F,∀p,D p→p.1≠x
 mem:∃q,DevMem D d q∧F=(devL g d q).map (·.1)∧F.Nodup∧∀p∈devL g d q,w.heap[p.1]? =some (.cells p.2.1 p.2.2 (0,0))
theorem DevW.below {D:Dat} {F:List Nat} {w w':World} {g:Nat} {d:Dv} (h:DevW D F w g d) (hb:Below w.heap.size w w'):DevW D F w' g d where
 data p hp:=by
  obtain⟨z,hz⟩:=h.data p hp;exact⟨z,(hb.block _ (lt_of_heap' hz)).trans hz⟩
 apart:=h.apart
 mem:=by
  obtain⟨q,h1,h2,h3,h4⟩:=h.mem;exact⟨q,h1,h2,h3,fun p hp=>(hb.block _ (lt_of_heap' (h4 p hp))).trans (h4 p hp)⟩
theorem DevW.ok {D:Dat} {F:List Nat} {w:World} {g:Nat} {d:Dv} (h:DevW D F w g d):d.Ok:=by
 obtain⟨q,h1,_⟩:=h.mem;exact h1.ok
theorem DevW.ro {D:Dat} {F:List Nat} {w:World} {g:Nat} {d:Dv} (h:DevW D F w g d):∃(D2:Dat) (q:Dp),Holds D2 w∧(∀p,D p→D2 p)∧D2 (g,devC d q,112)∧RowAt D2 139 2 bkL (some ⟨q.gs,0,none⟩) q.cs d.sure∧RowAt D2 139 2 bkL (some ⟨q.gn,0,none⟩) q.cn d.now∧RowD D2 137 1 acL q.va d.acts:=by
 obtain⟨q,m,_,_,hb⟩:=h.mem;have h1:=m.ok.max;have h2:=m.ok.same;have h3:=m.al;refine⟨fun p=>D p∨p∈devL g d q,q,fun p hp=>?_,fun p hp=>Or.inl hp,Or.inr (by simp[devL]),?_,?_,?_⟩
 ·rcases hp with hp |hp
  ·exact h.data p hp
  ·exact⟨_,hb p hp⟩
 ·exact RowAt.ofBlock (Or.inr (by simp[devL])) m.sl (by omega) m.st
 ·exact RowAt.ofBlock (Or.inr (by simp[devL])) m.nl (by omega) m.nt
 ·exact m.ac.row (by omega) (fun p hp=>Or.inr (by simp[devL,hp]))
theorem ldC {D:Dat} {g j:Nat} {C:Array Value} {T U:TypeId} {v:Value} [OneT U] (h:D (g,C,T)) (hv:C[j]? =some v):LdD D U ⟨g,j,none⟩ v:=LdD.one h hv
def dOn (d:Dv):Int:=if d.off then 43 else 0
def dState (d:Dv) (i:Int):Int:=if i<0∨(d.now.length:Int)≤i then -1 else(d.now.getD i.toNat b0).st
def dBlock (d:Dv) (i:Int):Int:=if dOn d=0∧dState d i<0 then 2 else dOn d
def dRead (d:Dv) (i:Int):ByteArray×Int:=if dBlock d i≠0 then(noS,dBlock d i) else if dState d i=0 then(noS,41) else if dState d i=2 then(noS,42) else((d.now.getD i.toNat b0).data,0)
section
variable {D:Dat} {F:List Nat} {w:World} {g:Nat} {d:Dv}
theorem dlen_nil (w:World):Calls Tryz.prog 30 #[.pointer none] w (Ret (.int .i64 0) w):=by
 have hst:=Sx.startN w;go_enter Tryz.func30,Tryz.ntmps30;go_wp2_with (with_reducible refine xval rfl 4 rfl (.bool true) (fun w=>by kernel_rfl) ?_);go_ret;exact⟨rfl,hst.end⟩
theorem dlen_calls (h:DevW D F w g d):Calls Tryz.prog 30 #[.pointer (some ⟨g,0,none⟩)] w (Ret (.int .i64 d.now.length) w):=by
 obtain⟨D2,q,hD,_,h0,_,_,_⟩:=h.ro;have hst:=Sx.start0 w hD;have e1:LdD D2 104 ⟨g,1,none⟩ (.slice (some ⟨q.gn,0,none⟩) d.now.length q.cn):=ldC h0 rfl;go_enter Tryz.func30,Tryz.ntmps30;go_wp2_with (first|(with_reducible refine xd rfl rfl rfl hst ?_)|(with_reducible refine xval rfl 4 rfl (.bool false) (fun w=>by kernel_rfl) ?_));go_ret;exact⟨rfl,hst.end⟩
theorem dstate_calls (h:DevW D F w g d) (i:Int):Calls Tryz.prog 35 #[.pointer (some ⟨g,0,none⟩),.int .i64 i] w (Ret (.int .i64 (dState d i)) w):=by
 obtain⟨D2,q,hD,_,h0,_,hn,_⟩:=h.ro;have HL:=Lib.hid (fun w' (hb:Below w.heap.size w w')=>dlen_calls (h.below hb));have hst:=Sx.start0 w hD;have e1:LdD D2 104 ⟨g,1,none⟩ (.slice (some ⟨q.gn,0,none⟩) d.now.length q.cn):=ldC h0 rfl
 by_cases h1:i<0
 ·have HS:Hid (dState d i= -1):=Lib.hid (if_pos (Or.inl h1))
  go_enter Tryz.func35,Tryz.ntmps35;go_wp2_with fail;go_ret;exact⟨by rw[HS.out];rfl,hst.end⟩
 ·obtain⟨k,rfl⟩:∃k:Nat,i=k:=⟨i.toNat,by omega⟩
  by_cases h2:k<d.now.length
  ·have HS:Hid (dState d k=d.now[k].st):=Lib.hid (by unfold dState;rw[if_neg (by omega)];simp[h2])
   have e2:=hn.ldf h2 0 (U:=3) (v:=.int .i64 d.now[k].st) rfl (ad:=⟨q.gn,k*2,none⟩) (by simp);generalize d.now[k]=b at*;go_enter Tryz.func35,Tryz.ntmps35;go_wp2_with (first|(with_reducible refine xd rfl rfl rfl hst ?_)|(with_reducible (refine callB (HL.out _ hst.end) hst ?_;clear hst;intro w' hst)));go_ret;exact⟨by rw[HS.out];rfl,hst.end⟩
  ·have HS:Hid (dState d k= -1):=Lib.hid (if_pos (Or.inr (by omega)))
   go_enter Tryz.func35,Tryz.ntmps35;go_wp2_with (first|fail |(with_reducible (refine callB (HL.out _ hst.end) hst ?_;clear hst;intro w' hst)));go_ret;exact⟨by rw[HS.out];rfl,hst.end⟩
end
end Go.Proofs.YtdkeiefgkgpcbaaGreatDoor
