/- Steps of the proof: Row, Runs. -/
import Derived.Test.YtdkeiefgkgpcbaaGreatDoorP09
set_option linter.unusedVariables false
set_option linter.unusedSimpArgs false
set_option maxRecDepth 100000
namespace Go.Proofs.YtdkeiefgkgpcbaaGreatDoor
open Go.RowKit
class Elt (T:TypeId) (k:outParam Nat):Prop where
 info:∃z b,(Tryz.prog.info? T).map (fun i=>(i.zero,i.size,i.bytes))=some (some z,k,b)∧z.cells.size=k∧0<k∧b≤10000
class SlT (TS:TypeId) (T:outParam TypeId):Prop where under:Tryz.prog.underlying TS=some (.slice T)
class Enc {α:Type} (enc:α→List Value) (k:outParam Nat):Prop where
 len:∀x,(enc x).length=k
 one:∀x,∀v∈enc x,v.oneCell'=true
theorem elt_info (T:TypeId) (k:Nat) [h:Elt T k]:∃i z,Tryz.prog.info? T=some i∧i.zero=some z∧i.size=k∧i.bytes≤10000∧z.cells.size=k∧0<k:=by
 obtain⟨z,b,h1,h2,h3,h4⟩:=h.info;obtain⟨i,hi,hz,hs,hb⟩:=info_parts h1;exact⟨i,z,hi,hz,hs,by omega,h2,h3⟩
section
variable {α:Type} {enc:α→List Value} {k:Nat}
theorem rows_length [e:Enc enc k] (l:List α):(l.flatMap enc).length=l.length*k:=by
 induction l with
 |nil=>simp
 |cons x l ih=>rw[List.flatMap_cons,List.length_append,e.len,ih,List.length_cons,Nat.add_mul];omega
theorem rows_at [e:Enc enc k] (l:List α) (i:Nat) (hi:i<l.length) (j:Nat) (hj:j<k):(l.flatMap enc)[i*k+j]? =(enc l[i])[j]? :=by
 induction l generalizing i with
 |nil=>simp at hi
 |cons x l ih=>
  rw[List.flatMap_cons]
  cases i with
  |zero=>
   rw[Nat.zero_mul,Nat.zero_add,List.getElem?_append_left (by rw[e.len];exact hj)];rfl
  |succ i=>
   rw[Nat.add_mul,List.getElem?_append_right (by rw[e.len];omega),e.len,show i*k+1*k+j-k=i*k+j by omega];exact ih i (by simpa using hi)
theorem rows_one [e:Enc enc k] (l:List α):∀v∈l.flatMap enc,v.oneCell'=true:=fun v hv=>by
 obtain⟨x,_,hx⟩:=List.mem_flatMap.1 hv;exact e.one x v hx
end
structure RowAt (D:Dat) (T:TypeId) (k:Nat) {α:Type} (enc:α→List Value) (p:Option Addr) (c:Nat) (l:List α):Prop where
 cap:l.length≤c
 big:l.length≤1000000000
 at_:∀i (h:i<l.length),∃g off C Tb,p=some ⟨g,off,none⟩∧D (g,C,Tb)∧∀j v,(enc l[i])[j]? =some v→C[off+i*k+j]? =some v
def RowD (D:Dat) (T:TypeId) (k:Nat) {α:Type} (enc:α→List Value) (v:Value) (l:List α):Prop:=∃p c,v=.slice p l.length c∧RowAt D T k enc p c l
section
variable {α:Type} {enc:α→List Value} {k:Nat} {D D':Dat} {T:TypeId} {p:Option Addr} {c:Nat} {l:List α}
theorem RowAt.mono (h:RowAt D T k enc p c l) (hs:∀p,D p→D' p):RowAt D' T k enc p c l:=
 ⟨h.cap,h.big,fun i hi=>by obtain⟨g,off,C,Tb,e,hD,hc⟩:=h.at_ i hi;exact⟨g,off,C,Tb,e,hs _ hD,hc⟩⟩
theorem RowD.mono {v:Value} (h:RowD D T k enc v l) (hs:∀p,D p→D' p):RowD D' T k enc v l:=by
 obtain⟨p,c,e,h⟩:=h;exact⟨p,c,e,h.mono hs⟩
theorem RowAt.nil (D:Dat) (T:TypeId) (k:Nat) (enc:α→List Value) (p:Option Addr) (c:Nat):RowAt D T k enc p c []:=⟨Nat.zero_le _,by simp,fun i hi=>by simp at hi⟩
theorem RowD.nil (D:Dat) (T:TypeId) (k:Nat) (enc:α→List Value) (p:Option Addr) (c:Nat):RowD D T k enc (.slice p 0 c) []:=⟨p,c,rfl,RowAt.nil ..⟩
theorem RowAt.at_some (h:RowAt D T k enc p c l) {i:Nat} (hi:i<l.length):∃g off,p=some ⟨g,off,none⟩:=by
 obtain⟨g,off,C,_,e,_⟩:=h.at_ i hi;exact⟨g,off,e⟩
theorem RowAt.lda {g off:Nat} (h:RowAt D T k enc (some ⟨g,off,none⟩) c l) {i:Nat} (hi:i<l.length) [e:Enc enc k] [t:AggT T k]:LdD D T ⟨g,off+i*k,none⟩ (.agg (enc l[i]).toArray):=by
 obtain⟨g',off',C,Tb,e',hD,hc⟩:=h.at_ i hi;injection e' with e'
 injection e' with e1 e2
 subst e1 e2;exact LdD.agg hD ⟨e.len _,hc⟩
theorem RowAt.ldf {g off:Nat} (h:RowAt D T k enc (some ⟨g,off,none⟩) c l) {i:Nat} (hi:i<l.length) {U:TypeId} [t:OneT U] (j:Nat) {v:Value} (hj:(enc l[i])[j]? =some v) {ad:Addr} (he:ad=⟨g,off+i*k+j,none⟩):LdD D U ad v:=by
 obtain⟨g',off',C,Tb,e',hD,hc⟩:=h.at_ i hi;injection e' with e'
 injection e' with e1 e2
 subst e1 e2;rw[he];exact LdD.one hD (hc j v hj)
theorem RowAt.ld1 {g off:Nat} {enc:α→List Value} (h:RowAt D T 1 enc (some ⟨g,off,none⟩) c l) {i:Nat} (hi:i<l.length) [t:OneT T] {v:Value} (hv:enc l[i]=[v]):LdD D T ⟨g,off+i,none⟩ v:=
 h.ldf hi 0 (by rw[hv];rfl) (by simp)
theorem RowAt.cells {w:World} (h:RowAt D T k enc p c l) (hw:Holds D w) [e:Enc enc k] (hk:0<k) (hne:l≠[]):∃ad,p=some ad∧∀j v,(l.flatMap enc)[j]? =some v→w.cell? (ad.add j)=some v:=by
 have h0:0<l.length:=List.length_pos_iff.2 hne;obtain⟨g,off,e0⟩:=h.at_some h0;refine⟨⟨g,off,none⟩,e0,fun j v hj=>?_⟩;have hjl:=(List.getElem?_eq_some_iff.1 hj).1;rw[rows_length (k:=k)] at hjl;have hq:j / k<l.length:=Nat.div_lt_of_lt_mul (by rw[Nat.mul_comm];exact hjl);have hr:j%k<k:=Nat.mod_lt _ hk;have hjk:j / k*k+j%k=j:=Nat.div_add_mod' j k;have h1:=rows_at (enc:=enc) l (j / k) hq (j%k) hr;rw[hjk,hj] at h1;obtain⟨g',off',C,Tb,e',hD,hc⟩:=h.at_ _ hq;rw[e0] at e';injection e' with e'
 injection e' with e1 e2
 subst e1 e2;obtain⟨z,hz⟩:=hw _ hD;rw[addr_add,cell_of_row w g _ C Tb z hz,←hc _ _ h1.symm,Nat.add_assoc,hjk]
theorem RowAt.ofBlock {g:Nat} {C:Array Value} [e:Enc enc k] (hD:D (g,C,T)) (hc:l.length≤c) (hb:l.length≤1000000000) (ht:C.toList.take (l.length*k)=l.flatMap enc):RowAt D T k enc (some ⟨g,0,none⟩) c l:=
 ⟨hc,hb,fun i hi=>⟨g,0,C,T,rfl,hD,fun j v hj=>by
  have hjk:j<k:=by rw[←e.len l[i]];exact(List.getElem?_eq_some_iff.1 hj).1
  have h1:=rows_at (enc:=enc) l i hi j hjk
  have h2:i*k+j<l.length*k:=by
   have:(i+1)*k≤l.length*k:=Nat.mul_le_mul_right k hi;rw[Nat.add_mul] at this;omega
  rw[Nat.zero_add,←Array.getElem?_toList,←hj,←h1,←ht,List.getElem?_take,if_pos h2]⟩⟩
end
def OwnR (T:TypeId) (k:Nat) {α:Type} (enc:α→List Value) (Lo:List Blk) (v:Value) (l:List α):Prop:=
 (Lo=[]∧(∃p,v=.slice p 0 0)∧l=[])∨∃g c C,Lo=[(g,C,T)]∧v=.slice (some ⟨g,0,none⟩) l.length c∧l.length≤c∧c≤maxLen∧C.size=c*k∧C.toList.take (l.length*k)=l.flatMap enc
theorem OwnR.none {T:TypeId} {k:Nat} {α:Type} {enc:α→List Value} (p:Option Addr):OwnR T k enc [] (.slice p 0 0) ([]:List α):=Or.inl ⟨rfl,⟨p,rfl⟩,rfl⟩
theorem OwnR.slice {T:TypeId} {k:Nat} {α:Type} {enc:α→List Value} {Lo:List Blk} {v:Value} {l:List α} (h:OwnR T k enc Lo v l):∃p c,v=.slice p l.length c:=by
 rcases h with⟨_,⟨p,rfl⟩,rfl⟩ |⟨g,c,C,_,rfl,_⟩
 ·exact⟨p,0,rfl⟩
 ·exact⟨_,c,rfl⟩
theorem OwnR.row {T:TypeId} {k:Nat} {α:Type} {enc:α→List Value} {Lo:List Blk} {v:Value} {l:List α} [Enc enc k] (h:OwnR T k enc Lo v l) (hb:l.length≤1000000000) {D:Dat} (hD:∀p∈Lo,D p):RowD D T k enc v l:=by
 rcases h with⟨_,⟨p,rfl⟩,rfl⟩ |⟨g,c,C,rfl,rfl,h1,h2,h3,h4⟩
 ·exact RowD.nil ..
 ·exact⟨_,c,rfl,RowAt.ofBlock (hD _ (by simp)) h1 hb h4⟩
theorem own_set {k:Nat} {α:Type} {enc:α→List Value} {C:Array Value} {l:List α} [e:Enc enc k] (hk:0<k) (ht:C.toList.take (l.length*k)=l.flatMap enc) {i:Nat} (hi:i<l.length) (x:α):(wr C (i*k) (enc x)).toList.take (l.length*k)=(l.set i x).flatMap enc:=by
 have hik:i*k+k≤l.length*k:=by
  have:(i+1)*k≤l.length*k:=Nat.mul_le_mul_right k hi
  rwa [Nat.add_mul,Nat.one_mul] at this
 have hsz:l.length*k≤C.size:=by
  have:=congrArg List.length ht;rw[List.length_take,rows_length (k:=k)] at this;have h2:C.toList.length=C.size:=Array.length_toList;omega
 apply List.ext_getElem?;intro j
 by_cases hj:j<l.length*k
 ·have hq:j / k<l.length:=Nat.div_lt_of_lt_mul (by rw[Nat.mul_comm];exact hj)
  have hr:j%k<k:=Nat.mod_lt _ hk;have hjk:j / k*k+j%k=j:=Nat.div_add_mod' j k;have h2:=rows_at (enc:=enc) (l.set i x) (j / k) (by simpa using hq) (j%k) hr;rw[hjk] at h2;rw[h2,List.getElem?_take,if_pos hj,Array.getElem?_toList,wr_get _ _ _ _ (by rw[e.len];omega),e.len,List.getElem_set]
  by_cases hqi:i=j / k
  ·rw[if_pos hqi,if_pos (by rw[hqi];omega),hqi,show j-j / k*k=j%k by omega]
  ·rw[if_neg hqi,if_neg (by
    rintro⟨h3,h4⟩;have h5:j / k<i+1:=Nat.div_lt_of_lt_mul (by rw[Nat.mul_comm,Nat.add_mul];omega);have h6:i≤j / k:=(Nat.le_div_iff_mul_le hk).2 h3
    omega)]
   have h1:=rows_at (enc:=enc) l (j / k) hq (j%k) hr;rw[hjk,←ht,List.getElem?_take,if_pos hj,Array.getElem?_toList] at h1;exact h1
 ·rw[List.getElem?_eq_none (by rw[List.length_take];omega),List.getElem?_eq_none (by rw[rows_length (k:=k),List.length_set];omega)]
theorem wrRow (C:Array Value) (off n:Nat) (vs:List Value) (hn:vs.length=n) (h1:∀v∈vs,v.oneCell'=true) (hf:off+n≤C.size):WrAt C off n (.agg vs.toArray) (wr C off vs):=⟨by simp[Value.cells,hn],by simp[Value.cells,hn];exact hf,fun x hx=>h1 x (by simpa[Value.cells] using hx),by simp[Value.cells]⟩
def Src (w:World) {α:Type} (enc:α→List Value) (u:Value) (m:List α):Prop:=∃pa c,u=.slice pa m.length c∧(m≠[]→∃ad,pa=some ad∧∀j v,(m.flatMap enc)[j]? =some v→w.cell? (ad.add j)=some v)
theorem RowD.src {w:World} {α:Type} {enc:α→List Value} {k:Nat} {D:Dat} {T:TypeId} {u:Value} {m:List α} (h:RowD D T k enc u m) (hw:Holds D w) [Enc enc k] (hk:0<k):Src w enc u m:=by
 obtain⟨p,c,e,h⟩:=h;exact⟨p,c,e,fun hne=>h.cells hw hk hne⟩
theorem src_block {w:World} {α:Type} {enc:α→List Value} {T:TypeId} {b c:Nat} {m:List α} (hb:w.heap[b]? =some (.cells (m.flatMap enc).toArray T (0,0))):Src w enc (.slice (some ⟨b,0,none⟩) m.length c) m:=
 ⟨_,c,rfl,fun _=>⟨_,rfl,fun j v hj=>by rw[addr_add,cell_of_row w b _ _ T _ hb];simpa using hj⟩⟩
section
variable {w:World} {S:List Nat} {w0:World} {L Lo:List Blk} {D:Dat} {F:List Nat}
theorem Sx.takeNew (h:Sx S w0 w L D F) {w':World} {g:Nat} {C:Array Value} {T:TypeId} (hb:Below w.heap.size w w') (hs:w.heap.size≤g) (hg:w'.heap[g]? =some (.cells C T (0,0))):Sx S w0 w' ((g,C,T)::L) D F where
 st:=h.st.belowNew hb hs hg
 data:=(h.below hb).data
 apart p hp q hq:=by
  rcases List.mem_cons.1 hq with rfl |hq
  ·have:=h.data.lt hp;simp;omega
  ·exact h.apart p hp q hq
 flt:=(h.below hb).flt
 fL x hx q hq:=by
  rcases List.mem_cons.1 hq with rfl |hq
  ·have:=h.flt x hx;simp;omega
  ·exact h.fL x hx q hq
 fD:=h.fD
 fS:=h.fS
theorem Sx.take (h:Sx S w0 w L D F) {w':World} {Ln:List Blk} (k:St [] w w' Ln):Sx S w0 w' (Ln++L) D F where
 st:=by
  have hb:=h.st.below k.end;have hn:∀p∈Ln,w.heap.size≤p.1:=fun p hp=>by rcases k.own p hp with h1 |h1;exact h1;simp at h1
  refine⟨hb.os,hb.tape,hb.output,hb.size,hb.kept,fun p hp=>?_,?_,fun p hp=>?_⟩
  ·rcases List.mem_append.1 hp with hp |hp
   ·exact Or.inl (Nat.le_trans h.st.size (hn p hp))
   ·exact h.st.own p hp
  ·rw[List.map_append,List.nodup_append]
   refine⟨k.nodup,h.st.nodup,fun x hx y hy e=>?_⟩;obtain⟨p,hp,rfl⟩:=List.mem_map.1 hx;obtain⟨q,hq,rfl⟩:=List.mem_map.1 hy;have:=hn p hp;have:=h.st.lt q hq;omega
  ·rcases List.mem_append.1 hp with hp |hp
   ·exact k.blk p hp
   ·exact hb.blk p hp
 data:=(h.below k.end).data
 apart p hp q hq:=by
  rcases List.mem_append.1 hq with hq |hq
  ·have:=h.data.lt hp
   rcases k.own q hq with h1 |h1
   ·omega
   ·simp at h1
  ·exact h.apart p hp q hq
 flt:=(h.below k.end).flt
 fL x hx q hq:=by
  rcases List.mem_append.1 hq with hq |hq
  ·have:=h.flt x hx
   rcases k.own q hq with h1 |h1
   ·omega
   ·simp at h1
  ·exact h.fL x hx q hq
 fD:=h.fD
 fS:=h.fS
variable {α:Type} {enc:α→List Value} {k:Nat} {T TS:TypeId}
theorem run_append_zero (ty:TypeId) (p pa:Option Addr) (n c c':Nat) (hn:n≤c) [s:SlT TS T] [e:Elt T k] (w:World):(Builtin.append_ #[TS,TS] ty #[.slice p n c,.slice pa 0 c']).run Tryz.prog w=.ok (.slice p n c) w:=by
 obtain⟨i,z,hi,hz,hs,hb,hzs,hk⟩:=elt_info T k
 cases pa with
 |none=>cases p<;>simp[Builtin.append_,run_underlying s.under,sizeOf,typeInfo,hi,Builtin.lenOf,Builtin.firstCells,hn,storeCells]
 |some a=>cases p<;>simp[Builtin.append_,run_underlying s.under,sizeOf,typeInfo,hi,Builtin.lenOf,Builtin.firstCells,hn,storeCells,loadCells,loadCellsFrom]
theorem append_row (ty:TypeId) {v u:Value} {l m:List α} (h:Sx S w0 w (Lo++L) D F) (ho:OwnR T k enc Lo v l) [sl:SlT TS T] [e:Elt T k] [en:Enc enc k] (hs:Src w enc u m) (hl:l.length+m.length≤1000000000):
  ∃p c w' Lo',(Builtin.append_ #[TS,TS] ty #[v,u]).run Tryz.prog w=.ok (.slice p (l++m).length c) w'∧OwnR T k enc Lo' (.slice p (l++m).length c) (l++m)∧Sx S w0 w' (Lo'++L) D F:=by
 obtain⟨i,z,hi,hz,hsz,hby,hzs,hk⟩:=elt_info T k;obtain⟨pa,cu,rfl,hc⟩:=hs
 by_cases hm:m=[]
 ·subst hm
  obtain⟨p,c,rfl⟩:=ho.slice
  have hle:l.length≤c:=by
   rcases ho with⟨_,⟨p,e⟩,rfl⟩ |⟨g,c',C,_,e,h1,_⟩
   ·simp
   ·injection e with _ _ e;omega
  refine⟨p,c,w,Lo,?_,by simpa using ho,h⟩;simpa using run_append_zero ty p pa l.length c cu hle w
 obtain⟨ad,rfl,hcells⟩:=hc hm;have hm0:0<m.length:=List.length_pos_iff.2 hm;have hlm:(m.flatMap enc).length=m.length*i.size:=by rw[rows_length (k:=k),hsz]
 have hmax:l.length+m.length≤maxLen:=by unfold maxLen;omega
 have hby2:(l.length+m.length)*i.bytes≤140737488355328:=Nat.le_trans (Nat.mul_le_mul hl hby) (by omega);have key:∀(n:Nat) (p0:Option Addr) (c0:Nat) (xs:List α),n=xs.length→xs.length+m.length≤1000000000→c0<n+m.length→∀L1,Sx S w0 w L1 D F→
   (Builtin.append_ #[TS,TS] ty #[.slice p0 n c0,.slice (some ad) m.length cu]).run Tryz.prog w=.ok (.slice (some ⟨w.heap.size,0,none⟩) (n+m.length) (grownCap w (n+m.length) c0 T)) (w.drew.alloc (.cells ((xs.flatMap enc).toArray++(m.flatMap enc).toArray++Builtin.zeroCells z.cells (grownCap w (n+m.length) c0 T-(n+m.length))) T))→
   ∃p c w' Lo',(Builtin.append_ #[TS,TS] ty #[.slice p0 n c0,.slice (some ad) m.length cu]).run Tryz.prog w=.ok (.slice p (xs++m).length c) w'∧OwnR T k enc Lo' (.slice p (xs++m).length c) (xs++m)∧Sx S w0 w' (Lo'++L1) D F:=by
  intro n p0 c0 xs hn hb hc0 L1 h1 hr;subst hn;have hge:=grownCap_ge w (xs.length+m.length) c0 T;have hcm:=grownCap_le_maxLen w (xs.length+m.length) c0 T (by unfold maxLen;omega);refine⟨_,_,_,_,by rw[List.length_append];exact hr,Or.inr ⟨w.heap.size,_,_,rfl,rfl,by rw[List.length_append];exact hge,hcm,?_,?_⟩,h1.takeNew (Below.drew (Below.refl _ _)|>.alloc (Nat.le_refl _) _) (Nat.le_refl _) (heap_alloc_new w.drew _)⟩
  ·simp only[Array.size_append,List.size_toArray,size_zeroCells,hzs,rows_length (k:=k),←Nat.add_mul]
   congr 1;omega
  ·simp only[Array.toList_append,List.flatMap_append]
   rw[List.take_left' (by simp[rows_length (k:=k),←Nat.add_mul])]
 rcases ho with⟨rfl,⟨p,rfl⟩,rfl⟩ |⟨g,c,C,rfl,rfl,h1,h2,h3,h4⟩
 ·cases p with
  |none=>
   refine key 0 none 0 [] rfl (by simpa using hl) (by omega) _ h ?_;have:=run_append_nil (P:=Tryz.prog) w TS ty T i z sl.under hi hz ad m.length cu (m.flatMap enc) hlm hcells hm0 (by omega) (by rw[List.length_nil,Nat.zero_add] at hby2;omega);simpa using this
  |some b=>
   refine key 0 (some b) 0 [] rfl (by simpa using hl) (by omega) _ h ?_;have:=run_append_grow (P:=Tryz.prog) w TS ty T i z sl.under hi hz b 0 0 [] (by simp) (by simp) ad m.length cu (m.flatMap enc) hlm hcells (by omega) (by omega) (growslice_fits (by omega) (by simpa using hby2));simpa using this
 ·have hg:w.heap[g]? =some (.cells C T (0,0)):=h.st.blk (g,C,T) (by simp)
  by_cases hroom:l.length+m.length≤c
  ·have hfit:l.length*i.size+(m.flatMap enc).length≤C.size:=by rw[hlm,h3,hsz,←Nat.add_mul];exact Nat.mul_le_mul_right _ hroom
   have hr:=run_append_room (P:=Tryz.prog) w TS ty T i sl.under hi g l.length c C hg ad m.length cu (m.flatMap enc) hlm hcells (rows_one (k:=k) m) hroom hfit;refine⟨_,_,_,[(g,(C.toList.take (l.length*i.size)++m.flatMap enc++C.toList.drop (l.length*i.size+(m.flatMap enc).length)).toArray,T)],by rw[List.length_append];exact hr,Or.inr ⟨g,c,_,rfl,rfl,by rw[List.length_append];exact hroom,h2,?_,?_⟩,?_⟩
   ·simp only[List.size_toArray,List.length_append,List.length_take,List.length_drop,Array.length_toList]
    omega
   ·rw[hsz,h4,List.length_append,List.flatMap_append]
    simp only[List.append_assoc];rw[←List.append_assoc,List.take_left' (by rw[List.length_append,rows_length (k:=k),rows_length (k:=k),Nat.add_mul])]
   ·exact h.upd (L':=_::L) (u:=Upd.head) (St.write1 hg)
  ·have hold:∀j u,(l.flatMap enc)[j]? =some u→w.cell? ((⟨g,0,none⟩:Addr).add j)=some u:=fun j u hu=>by
    have hj:=(List.getElem?_eq_some_iff.1 hu).1;rw[rows_length (k:=k)] at hj;rw[addr_add,cell_of_row w g _ _ _ _ hg,Nat.zero_add,←hu,←h4,List.getElem?_take,if_pos hj,Array.getElem?_toList]
   have hr:=run_append_grow (P:=Tryz.prog) w TS ty T i z sl.under hi hz ⟨g,0,none⟩ l.length c (l.flatMap enc) (by rw[rows_length (k:=k),hsz]) hold ad m.length cu (m.flatMap enc) hlm hcells (by omega) (by omega) (growslice_fits (by omega) hby2);exact key l.length (some ⟨g,0,none⟩) c l rfl hl (by omega) L h.dropL hr
end
section
variable {ops:Array Oper} {rest:List Oper} {o:Oper} {a:Act} {w:World} {Q:Exit→Act→World→Prop} {S:List Nat} {w0:World} {L Lo:List Blk} {D:Dat} {F:List Nat} {α:Type} {enc:α→List Value} {k:Nat} {T TS:TypeId}
theorem xap (hw:Region.wanted o (yielded ops a.tmps)=true) (x y:Operand) (ho:o.op=.call {callee:=.builtin .append,args:=#[x,y],argTypes:=#[TS,TS]}) {v u:Value} {l m:List α} (hx:a.eval x=v) (hy:a.eval y=u) (h:Sx S w0 w (Lo++L) D F) (hv:OwnR T k enc Lo v l)
  [sl:SlT TS T] [e:Elt T k] [en:Enc enc k] (hs:Src w enc u m) (hl:l.length+m.length≤1000000000)
  (hk:∀p c w' Lo',OwnR T k enc Lo' (.slice p (l++m).length c) (l++m)→Sx S w0 w' (Lo'++L) D F→wpList Tryz.prog ops Q rest (a.put o.dst (.slice p (l++m).length c)) w'):wpList Tryz.prog ops Q (o::rest) a w:=
 BigFrame.wpList_want hw fun K hK=>by
  obtain⟨p,c,w',Lo',hr,h1,h2⟩:=append_row (TS:=TS) o.type h hv hs hl;unfold Oper.wp execOp;simp only[ho,resolve,invoke,builtin,Sem.run_bind,Sem.run_pure,Result.andThen_ok,List.map_toArray,List.map_cons,List.map_nil,hx,hy,hr];exact hK _ _ (hk _ _ _ _ h1 h2)
theorem xap0 (hw:Region.wanted o (yielded ops a.tmps)=true) {x y:Operand} (ho:o.op=.call {callee:=.builtin .append,args:=#[x,y],argTypes:=#[TS,TS]}) {p:Option Addr} {u:Value} {m:List α} (hx:a.eval x=.slice p 0 0) (h:Sx S w0 w L D F) (hs:Src w enc u m) (hy:a.eval y=u)
  [sl:SlT TS T] [e:Elt T k] [en:Enc enc k] (hl:m.length≤1000000000)
  (hk:∀p c w' Lo',OwnR T k enc Lo' (.slice p m.length c) m→Sx S w0 w' (Lo'++L) D F→wpList Tryz.prog ops Q rest (a.put o.dst (.slice p m.length c)) w'):wpList Tryz.prog ops Q (o::rest) a w:=
 xap (Lo:=[]) hw x y ho hx hy h (OwnR.none (enc:=enc) p) hs (by simpa using hl) (fun p c w' Lo' h1 h2=>by simpa using hk p c w' Lo' h1 h2)
theorem xap1 (hw:Region.wanted o (yielded ops a.tmps)=true) (x y:Operand) (ho:o.op=.call {callee:=.builtin .append,args:=#[x,y],argTypes:=#[TS,TS]}) {v:Value} {b cc n:Nat} {C:Array Value} {T':TypeId} {l:List α} (el:α) (hx:a.eval x=v) (hy:a.eval y=.slice (some ⟨b,0,none⟩) n cc) (hn:n=1) (h:Sx S w0 w ((b,C,T')::(Lo++L)) D F) (hv:OwnR T k enc Lo v l)
  [sl:SlT TS T] [e:Elt T k] [en:Enc enc k] (hC:C=(enc el).toArray) (hl:l.length+1≤1000000000)
  (hk:∀p c w' Lo',OwnR T k enc Lo' (.slice p (l.length+1) c) (l++[el])→Sx S w0 w' (Lo'++L) D F→wpList Tryz.prog ops Q rest (a.put o.dst (.slice p (l.length+1) c)) w'):wpList Tryz.prog ops Q (o::rest) a w:=by
 subst hn hC;have hb:=h.st.blk (b,(enc el).toArray,T') (by simp);have hs:Src w enc (.slice (some ⟨b,0,none⟩) [el].length cc) [el]:=src_block (T:=T') (by simpa using hb);refine xap hw x y ho hx (m:=[el]) hy h.drop hv hs hl (fun p c w' Lo' h1 h2=>?_);rw[List.length_append] at*;exact hk p c w' Lo' h1 h2
end
end Go.Proofs.YtdkeiefgkgpcbaaGreatDoor
namespace Go.Proofs.YtdkeiefgkgpcbaaGreatDoor
open Go.RowKit
def Ret (v:Value) (w:World) (e:Ending) (w':World):Prop:=e=.returned v∧Below w.heap.size w w'
theorem callB {f:FuncId} {args:Array Value} {w:World} {v:Value} {S:List Nat} {w0:World} {L:List Blk} {D:Dat} {F:List Nat} {K:Ending→World→Prop} (hc:Calls Tryz.prog f args w (Ret v w)) (h:Sx S w0 w L D F) (hk:∀w',Sx S w0 w' L D F→K (.returned v) w'):Calls Tryz.prog f args w K:=
 hc.mono fun e w' ⟨he,hb⟩=>by subst he;exact hk w' (h.below hb)
theorem callE {f:FuncId} {args:Array Value} {w:World} {v:Value} {S:List Nat} {w0:World} {L:List Blk} {D:Dat} {F:List Nat} {K:Ending→World→Prop} (hc:Calls Tryz.prog f args w fun e w'=>e=.returned v∧Below w.heap.size w w') (h:Sx S w0 w L D F) (hk:∀w',Sx S w0 w' L D F→K (.returned v) w'):Calls Tryz.prog f args w K:=
 hc.mono fun e w' ⟨he,hb⟩=>by subst he;exact hk w' (h.below hb)
theorem ret_bool {a b:Bool} (h:a=b):Ending.returned (.bool a)=.returned (.bool b):=by rw[h]
structure Rn where
 s:Int
 c:Int
def Rn.Wf (r:Rn):Prop:=I64 r.s∧I64 r.c
abbrev rnL (r:Rn):List Value:=[.int .i64 r.s,.int .i64 r.c]
instance encRn:Enc rnL 2:=⟨fun _=>rfl,fun x v hv=>by simp at hv;rcases hv with rfl |rfl<;>rfl⟩
instance eltRun:Elt 36 2:=⟨.agg #[.int .i64 0,.int .i64 0],16,by kernel_rfl,rfl,by decide,by decide⟩
instance sltRun:SlT 98 36:=⟨Tryz.underlying98⟩
instance zeroRun:ZeroT 36 #[.int .i64 0,.int .i64 0]:=.agg fun w=>by kernel_rfl
def rMay (r:Rn):Bool:=decide (0≤r.s)&&(decide (r.s<1099511627776)&&(decide (0<r.c)&&decide (r.c≤1099511627776-r.s)))
def rEnd (r:Rn):Int:=wrap64 (r.s+r.c)
theorem end_calls (r:Rn) (w:World):Calls Tryz.prog 86 #[.agg #[.int .i64 r.s,.int .i64 r.c]] w (Ret (.int .i64 (rEnd r)) w):=by
 have hst:=Sx.startN w;go_enter Tryz.func86,Tryz.ntmps86;go_wp2_with (with_reducible first|refine x1 rfl rfl rfl hst ?_|(refine xba rfl rfl hst rfl ?_;clear hst;intro bb w' hst));go_ret;exact⟨rfl,hst.end⟩
theorem may_calls (r:Rn) (w:World):Calls Tryz.prog 128 #[.agg #[.int .i64 r.s,.int .i64 r.c]] w (Ret (.bool (rMay r)) w):=by
 have hst:=Sx.startN w;go_enter Tryz.func128,Tryz.ntmps128;go_wp2_with (with_reducible first|refine x1 rfl rfl rfl hst ?_|(refine xba rfl rfl hst rfl ?_;clear hst;intro bb w' hst))
 all_goals
  go_ret;refine⟨?_,hst.end⟩;refine ret_bool ?_;simp[rMay, *]
  all_goals (try (intros;omega))
def pkCount (n:Int):Int:=if n<0 then 0 else max 1 (n / 112+min 1 (n%112))
structure RunsOk (l:List Rn):Prop where wf:∀r∈l,r.Wf
def rCheckFrom:Int→List Rn→Bool
 |_,[]=>true
 |last,r::l=>rMay r&&(decide (last<r.s)&&rCheckFrom (rEnd r) l)
def rCheck (l:List Rn):Bool:=rCheckFrom (-1) l
instance wr2 {a b x y:Value} [o:OneC x] [q:OneC y]:WrAt #[a,b] 0 2 (.agg #[x,y]) #[x,y]:=
 ⟨rfl,Nat.le_of_ble_eq_true rfl,fun v hv=>by
  simp only[Value.cells,List.mem_cons,List.not_mem_nil,or_false] at hv;rcases hv with rfl |rfl
  ·exact o.one
  ·exact q.one,rfl⟩
set_option maxHeartbeats 1000000 in
theorem rcheck_calls {D:Dat} {p:Option Addr} {c:Nat} {l:List Rn} (h:RowAt D 36 2 rnL p c l) (w:World) (hD:Holds D w):Calls Tryz.prog 82 #[.slice p l.length c] w (Ret (.bool (rCheck l)) w):=by
 have hst:=Sx.start0 w hD;have hbig:=h.big;go_enter Tryz.func82,Tryz.ntmps82;go_wp2_with fail;go_loopw [3,8] (fun lv iv wr=>∃(k:Nat) (la:Int),k≤l.length∧iv=.int .i64 k∧lv=.int .i64 la∧Sx [] w wr [] D []∧Hid (rCheckFrom la (l.drop k)=rCheck l)) (fun _ iv _=>l.length-(intOf iv).toNat)
 case atStart=>exact⟨0,-1,by omega,rfl,rfl,hst,Lib.hid rfl⟩
 case round=>
  obtain⟨k,la,hk,rfl,rfl,hst,HF⟩:=hrel
  by_cases hlt:k<l.length
  ·obtain⟨g,off,rfl⟩:=h.at_some hlt
   have hld:=h.lda hlt;rw[List.drop_eq_getElem_cons hlt] at HF;generalize l[k]=r at*;go_wp2_with (first|(with_reducible first|refine x1 rfl rfl rfl hst ?_|refine xa rfl rfl rfl hst ?_|refine xd rfl rfl rfl hst ?_|(refine xsa rfl rfl rfl rfl hst ?_;clear hst;intro w' hst)|(refine xnw rfl rfl hst ?_;clear hst;intro bn w' hst))|(with_reducible (refine callB (may_calls _ _) hst ?_;clear hst;intro w' hst))|(with_reducible (refine callB (end_calls _ _) hst ?_;clear hst;intro w' hst)))
   ·go_ret
    refine⟨ret_bool ?_,hst.end⟩;rw[←HF.out];simp[rCheckFrom, *];intros;omega
   ·go_roundw
    case rel=>exact⟨k+1,_,by omega,by go_num,rfl,hst.clear,Lib.hid (by rw[←HF.out];simp[rCheckFrom, *])⟩
    case measure=>simp[intOf];omega
   ·go_ret
    refine⟨ret_bool ?_,hst.end⟩;rw[←HF.out];simp[rCheckFrom, *]
  ·obtain rfl:k=l.length:=by omega
   rw[List.drop_length] at HF;go_wp2_with fail;go_ret;exact⟨by rw[←HF.out];rfl,hst.end⟩
end Go.Proofs.YtdkeiefgkgpcbaaGreatDoor
