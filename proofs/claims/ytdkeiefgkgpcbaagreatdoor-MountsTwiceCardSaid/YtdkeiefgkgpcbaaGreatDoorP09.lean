/- Steps of the proof: ShaRow, ShaTake, ShaWrite, Heap. -/
import Derived.Deep.LoopGhost
import Derived.Test.YtdkeiefgkgpcbaaGreatDoorP08
set_option linter.unusedVariables false
set_option linter.unusedSimpArgs false
set_option maxRecDepth 100000
namespace Go.Proofs.YtdkeiefgkgpcbaaGreatDoor
open Go.RowKit
def bC (l:List UInt8):List Value:=l.map fun c=>.int .u8 (c.toNat:Int)
def ByteRow (F:List Nat) (w:World) (v:Value) (l:List UInt8):Prop:=
 (v=.slice none 0 0∧l=[])∨∃g off cap C,v=.slice (some ⟨g,off,none⟩) l.length cap∧g∈F∧w.heap[g]? =some (.cells C 5 (0,0))∧off+cap≤C.size∧l.length≤cap∧
  ∀j (h:j<l.length),C[off+j]? =some (.int .u8 (l[j].toNat:Int))
theorem wr_size:∀(vs:List Value) (C:Array Value) (off:Nat),(wr C off vs).size=C.size
 | [],_,_=>rfl
 |v::vs,C,off=>by rw[wr,wr_size vs];simp
theorem wr_get:∀(vs:List Value) (C:Array Value) (off k:Nat),off+vs.length≤C.size→(wr C off vs)[k]? =if off≤k∧k<off+vs.length then vs[k-off]? else C[k]?
 | [],C,off,k,_=>by rw[wr,if_neg (by simp only[List.length_nil];omega)]
 |v::vs,C,off,k,h=>by
  simp only[List.length_cons] at h;rw[wr,wr_get vs _ (off+1) k (by simp;omega)]
  by_cases h1:off=k
  ·subst h1
   rw[if_neg (by omega),if_pos (by simp),Nat.sub_self];simp[Array.getElem?_setIfInBounds];omega
  ·by_cases h2:off+1≤k∧k<off+1+vs.length
   ·rw[if_pos h2,if_pos (by simp;omega),show k-off=(k-(off+1))+1 by omega,List.getElem?_cons_succ]
   ·rw[if_neg h2,if_neg (by simp;omega),Array.getElem?_setIfInBounds_ne h1]
theorem strCells_bC (s:ByteArray):Lib.strCells s=bC (ls s):=by simp[Lib.strCells,bC,ls]
theorem bC_length (l:List UInt8):(bC l).length=l.length:=by simp[bC]
theorem bC_get (l:List UInt8) (j:Nat) (h:j<l.length):(bC l)[j]? =some (.int .u8 (l[j].toNat:Int)):=by simp[bC,h]
theorem bC_one (l:List UInt8):∀v∈bC l,v.oneCell'=true:=fun v hv=>by
 obtain⟨c,_,rfl⟩:=List.mem_map.1 hv;rfl
theorem St.ofGrown {w w':World} {F:List Nat} {r:Option Nat} (h:w.grownBy w' r) (hs:w.heap.size≤w'.heap.size) (hr:∀k,r=some k→k∈F):St F w w' []:=
 ⟨h.os,h.tape,h.output,hs,fun k hk hn=>h.block k hk (fun e=>hn (hr k e.symm)),fun p hp=>by simp at hp,by simp,fun p hp=>by simp at hp⟩
theorem append_bytes {F:List Nat} {w:World} {v:Value} {l:List UInt8} (s:ByteArray) (ty:TypeId) (h:ByteRow F w v l) (hl:l.length+s.size≤1000000):
  ∃v' w' F',(Builtin.append_ #[47,9] ty #[v,.string s]).run Tryz.prog w=.ok v' w'∧ByteRow F' w' v' (l++ls s)∧St F w w' []∧(∀x∈F',x∈F∨w.heap.size≤x)∧((∀x∈F,x<w.heap.size)→∀x∈F',x<w'.heap.size):=by
 obtain⟨i0,hi,hz0,hz1,hz2⟩:=info_parts infoByte;rcases h with⟨rfl,rfl⟩ |⟨g,off,cap,C,rfl,hgF,hg,hfit,hlc,hC⟩
 ·obtain⟨v',w',hrun,⟨hlen,hown⟩,hgrow,hnil⟩:=Lib.run_append_own_string (P:=Tryz.prog) (w:=w) w.heap.size 47 9 ty 5 i0 Tryz.underlying47 Tryz.underlying9 hi hz0 hz1 hz2 (.slice none 0 0) 0 [] (World.ownsRow_nil _ _ _ _) s (by unfold maxLen;omega) (by omega) (Nat.le_refl _)
  have hst:St F w w' []:=St.ofGrown hgrow hgrow.size (fun k e=>by cases e);rcases hown with⟨rfl,h0⟩ |⟨g,cap,cur,rfl,hbg,hg,hnc,hcm,hcs,htake⟩
  ·refine⟨_,w',F,hrun,Or.inl ⟨rfl,?_⟩,hst,fun x hx=>Or.inl hx,fun hF x hx=>Nat.lt_of_lt_of_le (hF x hx) hst.size⟩
   have:(ls s).length=0:=by rw[ls_length];omega
   simpa using List.length_eq_zero_iff.1 this
  ·refine⟨_,w',[g],hrun,Or.inr ⟨g,0,cap,cur,?_,by simp,hg,by omega,?_,?_⟩,hst,fun x hx=>Or.inr (by simp at hx;omega),fun _ x hx=>by simp at hx;subst hx;exact lt_of_heap' hg⟩
   ·simp[ls_length]
   ·simp[ls_length];omega
   ·intro j hj
    simp only[List.nil_append] at hj ⊢
    have h1:cur.toList[j]? =some (.int .u8 ((ls s)[j].toNat:Int)):=by
     have:=congrArg (fun l=>l[j]?) htake;simp only[List.nil_append,strCells_bC] at this;rw[bC_get _ _ hj,List.getElem?_take_of_lt (by rw[ls_length] at hj;omega)] at this;exact this
    rw[Nat.zero_add];simpa using h1
 ·have hbytes:(ls s).length=s.size:=ls_length s
  by_cases hroom:l.length+s.size≤cap
  ·have hst0:=run_storeCells_at g (off+l.length) 5 (bC (ls s)) 0 C w hg (by rw[bC_length];omega) (bC_one _)
   rw[Nat.add_zero] at hst0;have hf:=Lib.run_firstCells_string (P:=Tryz.prog) w 1 s;rw[strCells_bC] at hf
   have hrun:(Builtin.append_ #[47,9] ty #[.slice (some ⟨g,off,none⟩) l.length cap,.string s]).run Tryz.prog w=.ok (.slice (some ⟨g,off,none⟩) (l.length+s.size) cap) (w.setRow g (wr C (off+l.length) (bC (ls s)))):=by
    simp[Builtin.append_,run_underlying Tryz.underlying47,run_underlying Tryz.underlying9,sizeOf,typeInfo,hi,hz1,Builtin.lenOf,hroom,hf,addr_add,hst0]
   have hsz:off+l.length+(bC (ls s)).length≤C.size:=by rw[bC_length];omega
   refine⟨_,_,F,hrun,Or.inr ⟨g,off,cap,_,by rw[List.length_append,hbytes],hgF,setRow_heap w g C _ _ _ hg,by rw[wr_size];exact hfit,by rw[List.length_append,hbytes];exact hroom,?_⟩,?_,fun x hx=>Or.inl hx,fun hF x hx=>by rw[size_setRow];exact hF x hx⟩
   ·intro j hj
    rw[wr_get _ _ _ _ hsz,bC_length];rw[List.length_append] at hj
    by_cases h1:j<l.length
    ·rw[if_neg (by omega),hC j h1,List.getElem_append_left h1]
    ·rw[if_pos (by omega),show off+j-(off+l.length)=j-l.length by omega,bC_get _ _ (by omega),List.getElem_append_right (by omega)]
   ·refine⟨rfl,rfl,rfl,by rw[size_setRow];exact Nat.le_refl _,fun k hk hn=>heap_setRow_other w g k _ (fun e=>hn (e ▸ hgF)),fun p hp=>by simp at hp,by simp,fun p hp=>by simp at hp⟩
  ·have holds:∀j u,(bC l)[j]? =some u→w.cell? ((⟨g,off,none⟩:Addr).add j)=some u:=fun j u hu=>by
    have hj:j<l.length:=by have:=(List.getElem?_eq_some_iff.1 hu).1;rwa [bC_length] at this
    rw[bC_get l j hj] at hu;rw[addr_add,cell_of_row w g _ _ _ _ hg,hC j hj,hu]
   have hrun:=Lib.run_append_grow_string (P:=Tryz.prog) w 47 9 ty 5 i0 (.int .u8 0) Tryz.underlying47 Tryz.underlying9 hi hz0 ⟨g,off,none⟩ l.length cap (bC l) (by rw[hz1,bC_length,Nat.mul_one]) holds s (by omega) (by omega) (by rw[hz2];exact growslice_fits (by omega) (by omega));have hge:=grownCap_ge w (l.length+s.size) cap 5;rw[strCells_bC] at hrun;refine⟨_,_,[w.heap.size],hrun,Or.inr ⟨w.heap.size,0,_,_,by rw[List.length_append,hbytes],by simp,heap_alloc_new w.drew _,?_,by rw[List.length_append,hbytes];exact hge,?_⟩,?_,fun x hx=>Or.inr (by simp at hx;omega),fun _ x hx=>by simp at hx;subst hx;simp⟩
   ·have hz:(Value.int IntKind.u8 0).cells.size=1:=rfl
    simp only[Array.size_append,List.size_toArray,bC_length,size_zeroCells,hz];omega
   ·intro j hj
    rw[List.length_append] at hj;rw[Nat.zero_add,Array.append_assoc]
    by_cases h1:j<l.length
    ·rw[Array.getElem?_append_left (by simpa[bC_length] using h1),List.getElem?_toArray,bC_get l j h1,List.getElem_append_left h1]
    ·rw[Array.getElem?_append_right (by simp[bC_length];omega),Array.getElem?_append_left (by simp[bC_length];omega),List.getElem?_toArray]
     simp only[List.size_toArray,bC_length];rw[bC_get _ _ (by omega),List.getElem_append_right (by omega)]
   ·have:=(Below.refl w.heap.size w).drew
    have h2:Below w.heap.size w _:=((Below.refl w.heap.size w).drew).alloc (Nat.le_refl _) (.cells ((bC l).toArray++(bC (ls s)).toArray++Builtin.zeroCells (Value.int IntKind.u8 0).cells (grownCap w (l.length+s.size) cap 5-(l.length+s.size))) 5);exact⟨h2.os,h2.tape,h2.output,h2.size,fun k hk _=>h2.block k hk,fun p hp=>by simp at hp,by simp,fun p hp=>by simp at hp⟩
end Go.Proofs.YtdkeiefgkgpcbaaGreatDoor
namespace Go.Proofs.YtdkeiefgkgpcbaaGreatDoor
open Go.RowKit
section
variable {ops:Array Oper} {rest:List Oper} {o:Oper} {a:Act} {w:World} {Q:Exit→Act→World→Prop}
theorem wpList_apb (hw:Region.wanted o (yielded ops a.tmps)=true) (x y:Operand) (ho:o.op=.call {callee:=.builtin .append,args:=#[x,y],argTypes:=#[47,9]}) {F:List Nat} {v:Value} {l:List UInt8} (hx:a.eval x=v) (hv:ByteRow F w v l) (s:ByteArray) (hy:a.eval y=.string s) (hl:l.length+s.size≤1000000)
  (hk:∀(p:Option Addr) (n c:Nat) (w':World) (F':List Nat),ByteRow F' w' (.slice p n c) (l++ls s)→St F w w' []→(∀x∈F',x∈F∨w.heap.size≤x)→((∀x∈F,x<w.heap.size)→∀x∈F',x<w'.heap.size)→wpList Tryz.prog ops Q rest (a.put o.dst (.slice p n c)) w'):wpList Tryz.prog ops Q (o::rest) a w:=
 BigFrame.wpList_want hw fun K hK=>by
  obtain⟨v',w',F',hrun,hr,hst,hF,hF2⟩:=append_bytes s o.type hv hl
  have hs:∃p n c,v'=.slice p n c:=by
   rcases hr with⟨rfl,_⟩ |⟨g,off,cap,C,rfl,_⟩<;>exact⟨_,_,_,rfl⟩
  obtain⟨p,n,c,rfl⟩:=hs;unfold Oper.wp execOp;simp only[ho,resolve,invoke,builtin,Sem.run_bind,Sem.run_pure,Result.andThen_ok,List.map_toArray,List.map_cons,List.map_nil,hx,hy,hrun];exact hK _ _ (hk _ _ _ _ _ hr hst hF hF2)
end
structure Isw (w:World) (g:Nat) (F:List Nat) (h:List W32) (l:List UInt8) (many:Int) (made:Bool:=true):Prop where
 len:h.length=8
 row:∃p n c,w.heap[g]? =some (.cells (writerC h (.slice p n c) many made) 240 (0,0))∧ByteRow F w (.slice p n c) l
 apart:g∉F
 old:∀x∈F,x<w.heap.size
 tab:2∉g::F
def absorb (h:List W32) (l:List UInt8) (k:Nat):List W32:=(List.range k).foldl (fun h i=>blockF h ((l.drop (64*i)).take 64)) h
theorem absorb_succ (h:List W32) (l:List UInt8) (k:Nat):absorb h l (k+1)=blockF (absorb h l k) ((l.drop (64*k)).take 64):=by simp[absorb,List.range_succ]
theorem absorb_len (h:List W32) (l:List UInt8) (hh:h.length=8):∀k,(absorb h l k).length=8
 |0=>by simpa[absorb] using hh
 |k+1=>by rw[absorb_succ];exact blockF_len _ _ (absorb_len h l hh k)
instance oneBytes:OneT 47:=⟨fun w=>by kernel_rfl,by kernel_rfl⟩
theorem St.at1 {w:World} {g:Nat} {C:Array Value} {T:TypeId} (hg:w.heap[g]? =some (.cells C T (0,0))):St [g] w w [(g,C,T)]:=
 ⟨rfl,rfl,rfl,Nat.le_refl _,fun _ _ _=>rfl,fun p hp=>by simp at hp;subst hp;exact Or.inr (by simp),by simp,fun p hp=>by simp at hp;subst hp;exact hg⟩
theorem St.seq {F G H:List Nat} {w w1 w2:World} {L M:List Blk} (h:St F w w1 L) (k:St G w1 w2 M) (hF:∀x∈F,x∈H) (hG:∀x∈G,x∈H∨w.heap.size≤x):St H w w2 []:=
 ⟨k.os.trans h.os,k.tape.trans h.tape,k.output.trans h.output,Nat.le_trans h.size k.size,fun x hx hn=>
  (k.kept x (Nat.lt_of_lt_of_le hx h.size) (fun hm=>by rcases hG x hm with h1 |h1;exact hn h1;omega)).trans (h.kept x hx (fun hm=>hn (hF x hm))),fun p hp=>by simp at hp,by simp,fun p hp=>by simp at hp⟩
theorem writer_8 {h:List W32} (hh:h.length=8) {left:Value} {many:Int} {made:Bool}:CellAt (writerC h left many made) 8 left:=⟨by simp[writerC,hh,List.getElem?_append_right]⟩
theorem writer_9 {h:List W32} (hh:h.length=8) {left:Value} {many:Int} {made:Bool}:CellAt (writerC h left many made) 9 (.int .i64 many):=⟨by simp[writerC,hh,List.getElem?_append_right]⟩
theorem writer_10 {h:List W32} (hh:h.length=8) {left:Value} {many:Int} {made:Bool}:CellAt (writerC h left many made) 10 (.bool made):=⟨by simp[writerC,hh,List.getElem?_append_right]⟩
theorem writer_w8 {h:List W32} (hh:h.length=8) {left:Value} {many:Int} {made:Bool} {v:Value} [OneC v]:WrAt (writerC h left many made) 8 1 v (writerC h v many made):=
 wrOne (by simp[writerC,hh]) (by
  obtain⟨a0,a1,a2,a3,a4,a5,a6,a7,rfl⟩:=len8 hh
  rfl)
theorem writer_w9 {h:List W32} (hh:h.length=8) {left:Value} {many x:Int} {made:Bool}:WrAt (writerC h left many made) 9 1 (.int .i64 x) (writerC h left x made):=
 wrOne (by simp[writerC,hh]) (by
  obtain⟨a0,a1,a2,a3,a4,a5,a6,a7,rfl⟩:=len8 hh
  rfl)
theorem ByteRow.st {F S:List Nat} {w w':World} {L:List Blk} {v:Value} {l:List UInt8} (h:ByteRow F w v l) (k:St S w w' L) (hd:∀x∈F,x∉S):ByteRow F w' v l:=by
 rcases h with h |⟨g,off,cap,C,e,hgF,hg,r⟩
 ·exact Or.inl h
 ·exact Or.inr ⟨g,off,cap,C,e,hgF,(k.kept g (lt_of_heap' hg) (hd g hgF)).trans hg,r⟩
set_option maxHeartbeats 4000000 in
theorem take_calls {made:Bool} (g:Nat) (F:List Nat) (h:List W32) (l:List UInt8) (many:Int) (s:ByteArray) (L:List UInt8) (hL:l++ls s=L) (hl:L.length≤1000000) (w:World) (hI:Isw w g F h l many made) (hG:GSha w):
  Calls Tryz.prog 140 #[.pointer (some ⟨g,0,none⟩),.string s] w fun e w'=>e=.returned (.tuple #[])∧
   ∃F',St (g::F) w w' []∧Isw w' g F' (absorb h L (L.length / 64)) (L.drop (64*(L.length / 64))) many made∧∀x∈F',x∈F∨w.heap.size≤x:=by
 obtain⟨hh,⟨p,n,c,hg,hrow⟩,hgF,hold,htab⟩:=hI;have c8:=writer_8 hh (left:=.slice p n c) (many:=many) (made:=made);have w8:∀p' n' c',WrAt (writerC h (.slice p n c) many made) 8 1 (.slice p' n' c') (writerC h (.slice p' n' c') many made):=fun _ _ _=>writer_w8 hh
 have hst:St [g] w w [(g,writerC h (.slice p n c) many made,240)]:=⟨rfl,rfl,rfl,Nat.le_refl _,fun _ _ _=>rfl,fun p hp=>by simp at hp;subst hp;exact Or.inr (by simp),by simp,fun p hp=>by simp at hp;subst hp;exact hg⟩;have hls:l.length+s.size≤1000000:=by rw[←hL,List.length_append,ls_length] at hl;exact hl
 go_enter Tryz.func140,Tryz.ntmps140;go_wp2_with (first|(with_reducible refine wpList_apb rfl _ _ rfl rfl hrow s rfl hls ?_;intro p1 n1 c1 w1 F1 hr1 hs1 hF1 hF2;have hst:=St.at1 ((hs1.kept g (lt_of_heap' hg) hgF).trans hg))|(with_reducible first|refine l1 rfl rfl rfl ‹_› ?_|(refine sl rfl rfl rfl rfl ‹_› ?_;intro w' hst)));have hgw:=lt_of_heap' hg;have hF3:=hF2 hold;have hgF1:g∉F1:=fun hm=>by rcases hF1 g hm with h1 |h1;exact hgF h1;omega
 have hr2:=hr1.st hst (fun x hx he=>by simp at he;subst he;exact hgF1 hx);rw[hL] at hr2
 have hG1:∀x',St [g] w1 x' []→GSha x':=fun x' hx'=>⟨fun i hi=>by
  have h1:=hG.at_ i hi;have h2:=cell_lt h1
  exact((hx'.cell (a:=⟨_,i,none⟩) (Nat.lt_of_lt_of_le h2 hs1.size) (fun hm=>htab (by simp at hm;rw[hm];simp))).trans (hs1.cell (a:=⟨_,i,none⟩) h2 (fun hm=>htab (List.mem_cons_of_mem _ hm)))).trans h1⟩
 have h0:=hst;clear hst hr1 c8 w8 hrow hL hls;simp only[Act.put];go_loopg [] (L.length / 64) (fun gk wr=>∃(k:Nat) (p':Option Addr) (n' c':Nat),k+gk=L.length / 64∧St [g] w1 wr [(g,writerC (absorb h L k) (.slice p' n' c') many made,240)]∧ByteRow F1 wr (.slice p' n' c') (L.drop (64*k)))
 case atStart=>exact⟨0,p1,n1,c1,by omega,h0,by simpa using hr2⟩
 case round=>
  obtain⟨k,p',n',c',hkg,hst,hrow⟩:=hrel;have hA:=absorb_len h L hh k;have c8:=writer_8 hA (left:=.slice p' n' c') (many:=many) (made:=made);have w8:∀p'' n'' c'',WrAt (writerC (blockF (absorb h L k) ((L.drop (64*k)).take 64)) (.slice p' n' c') many made) 8 1 (.slice p'' n'' c'') (writerC (blockF (absorb h L k) ((L.drop (64*k)).take 64)) (.slice p'' n'' c'') many made):=fun _ _ _=>writer_w8 (blockF_len _ _ hA)
  have w8':CellAt (writerC (blockF (absorb h L k) ((L.drop (64*k)).take 64)) (.slice p' n' c') many made) 8 (.slice p' n' c'):=writer_8 (blockF_len _ _ hA)
  have hn':n'=(L.drop (64*k)).length:=by
   rcases hrow with⟨e,e2⟩ |⟨_,_,_,_,e,_⟩
   ·injection e with _ e3 _;rw[e3,e2];rfl
   ·injection e
  rw[List.length_drop] at hn'
  cases gk with
  |zero=>
   have hkN:k=L.length / 64:=by omega
   have hlt:¬64≤n':=by omega
   have HR:Hid (∃F',St (g::F) w wr []∧Isw wr g F' (absorb h L (L.length / 64)) (L.drop (64*(L.length / 64))) many made∧∀x∈F',x∈F∨w.heap.size≤x):=Lib.hid ⟨F1,hs1.seq hst (fun x hx=>List.mem_cons_of_mem _ hx) (fun x hx=>Or.inl (by simp at hx;subst hx;simp)),by
    rw[←hkN];refine⟨hA,⟨p',n',c',hst.has,hrow⟩,hgF1,?_,?_⟩
    ·exact fun x hx=>Nat.lt_of_lt_of_le (hF3 x hx) hst.size
    ·intro hm
     rcases List.mem_cons.1 hm with h1 |h1
     ·exact htab (by rw[h1];simp)
     ·rcases hF1 _ h1 with h2 |h2
      ·exact htab (List.mem_cons_of_mem _ h2)
      ·have h3:2<w.heap.size:=cell_lt (hG.at_ 0 (by omega))
       omega,hF1⟩
   clear w8 w8' hrow hn' hkN hkg;go_wp2_with (with_reducible refine l1 rfl rfl rfl ‹_› ?_);go_end0;exact⟨rfl,HR.out⟩
  |succ gk=>
   have hge:64≤n':=by omega
   rcases hrow with⟨e,e2⟩ |⟨lb,off,cap,C,e,hlb,hC,hfit,hlc,hcs⟩
   ·injection e with _ e3 _;omega
   obtain⟨rfl,hnn,rfl⟩:p'=some ⟨lb,off,none⟩∧n'=(L.drop (64*k)).length∧c'=cap:=by injection e;exact⟨by assumption,by assumption,by assumption⟩
   have hcc:64≤c':=by omega
   have hlg:lb≠g:=fun e=>hgF1 (e ▸ hlb)
   have HB:=Lib.hid (block_calls g (absorb h L k) hA (.slice (some ⟨lb,off,none⟩) n' c') many made ⟨lb,off,none⟩ c' ((L.drop (64*k)).take 64) (by rw[List.length_take];omega) wr hst.has (fun j hj=>by
    rw[addr_add,cell_of_row wr lb _ _ _ _ hC,hcs j (by omega)];congr 3;rw[List.getD,List.getElem?_take_of_lt hj,List.getElem?_eq_getElem (by omega)]
    rfl) (lt_of_heap' hC) hlg hcc (hG1 wr (⟨hst.os,hst.tape,hst.output,hst.size,hst.kept,fun p hp=>by simp at hp,by simp,fun p hp=>by simp at hp⟩)) (fun e=>htab (by rw[e];simp)))
   have HS:=Lib.hid (absorb_succ h L k);have HROW:Hid (∀w2 M,St [g] w1 w2 M→w2.heap[lb]? =some (.cells C 5 (0,0))):=Lib.hid (fun w2 M h2=>(h2.kept lb (hF3 lb hlb) (by simpa using hlg)).trans ((hst.kept lb (hF3 lb hlb) (by simpa using hlg)).symm.trans hC))
   by_cases hc64:c'=64
   ·subst hc64
    go_wp2_with (with_reducible refine l1 rfl rfl rfl ‹_› ?_);refine HB.out.mono ?_;rintro e2 w2 ⟨rfl,k2⟩;have hst2:=hst.upd k2;clear hst;have hst:=hst2;clear hst2;go_wp2_with (with_reducible first|refine l1 rfl rfl rfl ‹_› ?_|(refine sl rfl rfl rfl rfl ‹_› ?_;intro w' hst));go_roundg (L.length / 64-(k+1))
    case measure=>omega
    case rel=>
     refine⟨k+1,_,_,_,by omega,HS.out ▸ hst,?_⟩;have hz:L.length-64*k-64=0:=by omega
     refine Or.inr ⟨lb,off,0,C,by rw[List.length_drop,show L.length-64*(k+1)=L.length-64*k-64 by omega],hlb,HROW.out _ _ hst,by omega,by rw[List.length_drop];omega,fun j hj=>by rw[List.length_drop] at hj;omega⟩
   ·go_wp2_with (with_reducible refine l1 rfl rfl rfl ‹_› ?_)
    refine HB.out.mono ?_;rintro e2 w2 ⟨rfl,k2⟩;have hst2:=hst.upd k2;clear hst;have hst:=hst2;clear hst2;go_wp2_with (with_reducible first|refine l1 rfl rfl rfl ‹_› ?_|(refine sl rfl rfl rfl rfl ‹_› ?_;intro w' hst));go_roundg (L.length / 64-(k+1))
    case measure=>omega
    case rel=>
     refine⟨k+1,_,_,_,by omega,HS.out ▸ hst,?_⟩;refine Or.inr ⟨lb,off+64,c'-64,C,by rw[List.length_drop,show L.length-64*(k+1)=L.length-64*k-64 by omega],hlb,HROW.out _ _ hst,by omega,by rw[List.length_drop];omega,fun j hj=>?_⟩;rw[List.length_drop] at hj;have:=hcs (64+j) (by rw[List.length_drop];omega)
     have e:(L.drop (64*k))[64+j]'(by rw[List.length_drop];omega)=(L.drop (64*(k+1)))[j]'(by rw[List.length_drop];omega):=by
      simp only[List.getElem_drop];congr 1;omega
     rw[show off+64+j=off+(64+j) by omega,this,e]
end Go.Proofs.YtdkeiefgkgpcbaaGreatDoor
namespace Go.Proofs.YtdkeiefgkgpcbaaGreatDoor
open Go.RowKit
set_option maxHeartbeats 4000000 in
theorem swrite_calls (g:Nat) (F:List Nat) (h:List W32) (l:List UInt8) (many:Nat) (s:ByteArray) (L:List UInt8) (hL:l++ls s=L) (hl:L.length≤1000000) (hm:many+s.size≤1000000000) (w:World) (hI:Isw w g F h l many) (hG:GSha w):
  Calls Tryz.prog 104 #[.pointer (some ⟨g,0,none⟩),.string s] w fun e w'=>e=.returned (.int .i64 0)∧
   ∃F',St (g::F) w w' []∧Isw w' g F' (absorb h L (L.length / 64)) (L.drop (64*(L.length / 64))) (many+s.size:Nat)∧∀x∈F',x∈F∨w.heap.size≤x:=by
 obtain⟨hh,⟨p,n,c,hg,hrow⟩,hgF,hold,htab⟩:=hI;have c9:=writer_9 hh (left:=.slice p n c) (many:=many) (made:=true);have c10:=writer_10 hh (left:=.slice p n c) (many:=many) (made:=true);have w9:=writer_w9 hh (left:=.slice p n c) (many:=many) (x:=(many+s.size:Nat)) (made:=true);have hst:=St.at1 hg;have hadd:wrap64 ((many:Int)+(s.size:Int))=((many+s.size:Nat):Int):=by unfold wrap64;omega
 have hpush:((many+s.size:Nat):Int)=(many:Int)+(s.size:Int):=by omega
 rw[hpush] at w9;go_enter Tryz.func104,Tryz.ntmps104;go_wp2_with (with_reducible first|refine l1 rfl rfl rfl ‹_› ?_|(refine si rfl rfl rfl rfl ‹_› ?_;intro w' hst));have hr2:=hrow.st hst (fun x hx he=>by simp at he;subst he;exact hgF hx);have hgs:GSha w':=⟨fun i hi=>(hst.cell (a:=⟨_,i,none⟩) (cell_lt (hG.at_ i hi)) (fun hm=>htab (by simp at hm;rw[hm];simp))).trans (hG.at_ i hi)⟩;have hI2:Isw w' g F h l (many+s.size:Nat):=⟨hh,⟨p,n,c,by rw[hpush];exact hst.has,hr2⟩,hgF,fun x hx=>Nat.lt_of_lt_of_le (hold x hx) hst.size,htab⟩;refine(take_calls g F h l _ s L hL hl w' hI2 hgs).mono ?_;rintro e w2 ⟨rfl,F',hs2,hi2,hF'⟩;go_wp2_with fail;go_ret;refine⟨rfl,F',hst.seq hs2 (fun x hx=>by simp at hx;subst hx;simp) (fun x hx=>Or.inl hx),hi2,fun x hx=>?_⟩;rcases hF' x hx with h1 |h1
 ·exact Or.inl h1
 ·exact Or.inr (Nat.le_trans hst.size h1)
def shaB:List W32:=[mk32 0x6a09e667,mk32 0xbb67ae85,mk32 0x3c6ef372,mk32 0xa54ff53a,mk32 0x510e527f,mk32 0x9b05688c,mk32 0x1f83d9ab,mk32 0x5be0cd19]
structure GBegin (w:World):Prop where
 at_:∀i v,(shaB.map v32)[i]? =some v→w.cell? ⟨0,i,none⟩=some v
theorem GBegin.lt {w:World} (h:GBegin w):0<w.heap.size:=cell_lt (h.at_ 0 _ rfl)
theorem GBegin.below {w w':World} (h:GBegin w) (hb:Below w.heap.size w w'):GBegin w':=
 ⟨fun i v hi=>(hb.cell (p:=⟨_,i,none⟩) h.lt).trans (h.at_ i v hi)⟩
section
variable {ops:Array Oper} {rest:List Oper} {o:Oper} {a:Act} {w:World} {Q:Exit→Act→World→Prop}
theorem wpList_ldf (hw:Region.wanted o (yielded ops a.tmps)=true) {T:TypeId} {x:Operand} (ho:o.op=.load T x) {ad:Addr} (hx:a.eval x=.pointer (some ad)) (cs:List Value) {n:Nat} [t:AggT T n] (hn:cs.length=n) (hc:∀j v,cs[j]? =some v→w.cell? (ad.add j)=some v)
  (hk:wpList Tryz.prog ops Q rest (a.put o.dst (.agg cs.toArray)) w):wpList Tryz.prog ops Q (o::rest) a w:=
 BigFrame.wpList_want hw fun K hK=>by
  have hl:=run_loadCells_list (P:=Tryz.prog) w ad cs hc;have hr:(loadVar T ad).run Tryz.prog w=.ok (.agg cs.toArray) w:=by simp only[loadVar,Sem.run_bind,t.agg w,Result.andThen_ok,if_true,run_size t.size,←hn,hl,Sem.run_pure]
  unfold Oper.wp execOp;simp only[ho,hx,Instr.loadAt,Instr.sureAddr,Sem.run_bind,Sem.run_pure,Result.andThen_ok,hr];exact hK _ _ hk
end
set_option maxHeartbeats 4000000 in
theorem snew_calls (w:World) (hB:GBegin w):
  Calls Tryz.prog 103 #[] w fun e w'=>∃g,e=.returned (.pointer (some ⟨g,0,none⟩))∧St [] w w' [(g,writerC shaB (.slice none 0 0) 0 true,240)]:=by
 have hst:=St.start w;have hc:∀j v,(shaB.map v32)[j]? =some v→w.cell? ((⟨0,0,none⟩:Addr).add j)=some v:=fun j v hv=>by rw[addr_add,Nat.zero_add];exact hB.at_ j v hv
 go_enter Tryz.func103,Tryz.ntmps103;go_wp2_with (first|(refine wpList_ldf (T:=238) rfl rfl rfl (shaB.map v32) (t:=agg8) rfl hc ?_)|(with_reducible (refine ba rfl rfl ‹_› rfl ?_;intro bb w' hst)));go_ret;exact⟨bb,rfl,hst⟩
end Go.Proofs.YtdkeiefgkgpcbaaGreatDoor
namespace Go.Proofs.YtdkeiefgkgpcbaaGreatDoor
open Go.RowKit
abbrev Dat:=Blk→Prop
def Holds (D:Dat) (w:World):Prop:=∀p,D p→∃z,w.heap[p.1]? =some (.cells p.2.1 p.2.2 z)
structure Sx (S:List Nat) (w0 w:World) (L:List Blk) (D:Dat) (F:List Nat):Prop where
 st:St S w0 w L
 data:Holds D w
 apart:∀p,D p→∀q∈L,p.1≠q.1
 flt:∀x∈F,x<w.heap.size
 fL:∀x∈F,∀q∈L,q.1≠x
 fD:∀x∈F,∀p,D p→p.1≠x
 fS:∀x∈F,x∈S∨w0.heap.size≤x
theorem Holds.lt {D:Dat} {w:World} (h:Holds D w) {p:Blk} (hp:D p):p.1<w.heap.size:=by
 obtain⟨z,hz⟩:=h p hp;exact lt_of_heap' hz
def snap (w:World):Dat:=fun p=>∃z,w.heap[p.1]? =some (.cells p.2.1 p.2.2 z)
theorem snap_holds (w:World):Holds (snap w) w:=fun p h=>h
structure Ext (w:World) (D D':Dat):Prop where
 sub:∀p,D p→D' p
 new:∀p,D' p→D p∨w.heap.size≤p.1
theorem Ext.refl (w:World) (D:Dat):Ext w D D:=⟨fun _ h=>h,fun _ h=>Or.inl h⟩
def NoD:Dat:=fun _=>False
theorem Holds.none (w:World):Holds NoD w:=fun _ h=>h.elim
theorem Sx.start (w:World) {D:Dat} {F:List Nat} (hD:Holds D w) (hF:∀x∈F,x<w.heap.size) (hd:∀x∈F,∀p,D p→p.1≠x):Sx F w w [] D F:=
 ⟨⟨rfl,rfl,rfl,Nat.le_refl _,fun _ _ _=>rfl,fun _ h=>by simp at h,by simp,fun _ h=>by simp at h⟩,hD,fun _ _ _ h=>by simp at h,hF,fun _ _ _ h=>by simp at h,hd,fun x h=>Or.inl h⟩
theorem Sx.start0 (w:World) {D:Dat} (hD:Holds D w):Sx [] w w [] D []:=Sx.start w hD (fun _ h=>by simp at h) (fun _ h=>by simp at h)
theorem Sx.startN (w:World):Sx [] w w [] NoD []:=Sx.start0 w (Holds.none w)
section
variable {S:List Nat} {w0 w:World} {L:List Blk} {D:Dat} {F:List Nat}
theorem Sx.size (h:Sx S w0 w L D F):w0.heap.size≤w.heap.size:=h.st.size
theorem Sx.obj (h:Sx S w0 w L D F) {w':World} {F':List Nat} {D':Dat} (k:St F w w' []) (hF:∀x∈F',x∈F∨w.heap.size≤x) (hlt:∀x∈F',x<w'.heap.size) (e:Ext w D D') (hD:Holds D' w') (hd:∀x∈F',∀p,D' p→p.1≠x):Sx S w0 w' L D' F' where
 st:=by
  refine⟨k.os.trans h.st.os,k.tape.trans h.st.tape,k.output.trans h.st.output,Nat.le_trans h.st.size k.size,fun j hj hs=>?_,h.st.own,h.st.nodup,fun p hp=>?_⟩
  ·refine(k.kept j (Nat.lt_of_lt_of_le hj h.st.size) (fun hm=>?_)).trans (h.st.kept j hj hs)
   rcases h.fS j hm with h1 |h1
   ·exact hs h1
   ·omega
  ·exact(k.kept p.1 (h.st.lt p hp) (fun hm=>h.fL _ hm p hp rfl)).trans (h.st.blk p hp)
 data:=hD
 apart p hp q hq:=by
  rcases e.new p hp with h1 |h1
  ·exact h.apart p h1 q hq
  ·have:=h.st.lt q hq;omega
 flt:=hlt
 fL x hx q hq:=by
  rcases hF x hx with h1 |h1
  ·exact h.fL x h1 q hq
  ·have:=h.st.lt q hq;omega
 fD:=hd
 fS x hx:=by
  rcases hF x hx with h1 |h1
  ·exact h.fS x h1
  ·exact Or.inr (Nat.le_trans h.st.size h1)
theorem Sx.obj0 (h:Sx S w0 w L D F) {w':World} {F':List Nat} (k:St F w w' []) (hF:∀x∈F',x∈F∨w.heap.size≤x) (hlt:∀x∈F',x<w'.heap.size):Sx S w0 w' L D F':=by
 have hD:Holds D w':=fun p hp=>by
  obtain⟨z,hz⟩:=h.data p hp;exact⟨z,(k.kept p.1 (lt_of_heap' hz) (fun hm=>h.fD _ hm p hp rfl)).trans hz⟩
 refine h.obj k hF hlt (Ext.refl _ _) hD (fun x hx p hp=>?_);rcases hF x hx with h1 |h1
 ·exact h.fD x h1 p hp
 ·have:=h.data.lt hp;omega
theorem St.of_below {w w':World} (hb:Below w.heap.size w w') (F:List Nat):St F w w' []:=⟨hb.os,hb.tape,hb.output,hb.size,fun k hk _=>hb.block k hk,fun p h=>by simp at h,by simp,fun p h=>by simp at h⟩
theorem Sx.below (h:Sx S w0 w L D F) {w':World} (hb:Below w.heap.size w w'):Sx S w0 w' L D F:=
 h.obj0 (St.of_below hb F) (fun x hx=>Or.inl hx) (fun x hx=>Nat.lt_of_lt_of_le (h.flt x hx) hb.size)
theorem Sx.ext (h:Sx S w0 w L D F) {w':World} {D':Dat} (hb:Below w.heap.size w w') (e:Ext w D D') (hD:Holds D' w'):Sx S w0 w' L D' F:=
 h.obj (St.of_below hb F) (fun x hx=>Or.inl hx) (fun x hx=>Nat.lt_of_lt_of_le (h.flt x hx) hb.size) e hD (fun x hx p hp=>by
  rcases e.new p hp with h1 |h1
  ·exact h.fD x hx p h1
  ·have:=h.flt x hx;omega)
theorem Sx.alloc (h:Sx S w0 w L D F) (C:Array Value) (T:TypeId):Sx S w0 (w.alloc (.cells C T)) ((w.heap.size,C,T)::L) D F where
 st:=h.st.alloc C T
 data p hp:=by
  obtain⟨z,hz⟩:=h.data p hp;exact⟨z,(Below.heap_alloc _ _ _ (lt_of_heap' hz)).trans hz⟩
 apart p hp q hq:=by
  rcases List.mem_cons.1 hq with rfl |hq
  ·have:=h.data.lt hp;simp;omega
  ·exact h.apart p hp q hq
 flt x hx:=by have:=h.flt x hx;simp;omega
 fL x hx q hq:=by
  rcases List.mem_cons.1 hq with rfl |hq
  ·have:=h.flt x hx;simp;omega
  ·exact h.fL x hx q hq
 fD:=h.fD
 fS:=h.fS
theorem Sx.upd (h:Sx S w0 w L D F) {w':World} {L':List Blk} {g:Nat} {C C':Array Value} {T:TypeId} [u:Upd L g C T C' L'] (k:St [g] w w' [(g,C',T)]):Sx S w0 w' L' D F where
 st:=h.st.upd k
 data p hp:=by
  obtain⟨z,hz⟩:=h.data p hp;exact⟨z,(k.kept p.1 (lt_of_heap' hz) (by simpa using h.apart p hp _ u.mem)).trans hz⟩
 apart p hp q hq:=by
  have:q.1∈L'.map (·.1):=List.mem_map.2 ⟨q,hq,rfl⟩;rw[u.keys] at this;obtain⟨r,hr,e⟩:=List.mem_map.1 this;rw[←e];exact h.apart p hp r hr
 flt x hx:=Nat.lt_of_lt_of_le (h.flt x hx) k.size
 fL x hx q hq:=by
  have:q.1∈L'.map (·.1):=List.mem_map.2 ⟨q,hq,rfl⟩;rw[u.keys] at this;obtain⟨r,hr,e⟩:=List.mem_map.1 this;rw[←e];exact h.fL x hx r hr
 fD:=h.fD
 fS:=h.fS
theorem Sx.sub (h:Sx S w0 w L D F) {L':List Blk} (hs:∀p∈L',p∈L) (hn:(L'.map (·.1)).Nodup):Sx S w0 w L' D F:=
 ⟨⟨h.st.os,h.st.tape,h.st.output,h.st.size,h.st.kept,fun p hp=>h.st.own p (hs p hp),hn,fun p hp=>h.st.blk p (hs p hp)⟩,h.data,fun p hp q hq=>h.apart p hp q (hs q hq),h.flt,fun x hx q hq=>h.fL x hx q (hs q hq),h.fD,h.fS⟩
theorem Sx.drop {p:Blk} (h:Sx S w0 w (p::L) D F):Sx S w0 w L D F:=h.sub (fun q hq=>by simp[hq]) (List.nodup_cons.1 h.st.nodup).2
theorem Sx.drop2 {p q:Blk} (h:Sx S w0 w (p::q::L) D F):Sx S w0 w (p::L) D F:=
 h.sub (fun r hr=>by rcases List.mem_cons.1 hr with h |h<;>simp[h]) (by have:=h.st.nodup;simp at this ⊢;exact⟨this.1.2,this.2.2⟩)
theorem Sx.swap {p q:Blk} (h:Sx S w0 w (p::q::L) D F):Sx S w0 w (q::p::L) D F:=
 h.sub (fun r hr=>by simp at hr ⊢;rcases hr with h |h |h<;>simp[h]) (by have:=h.st.nodup;simp at this ⊢;exact⟨⟨fun e=>this.1.1 e.symm,this.2.1⟩,this.1.2,this.2.2⟩)
theorem Sx.clear (h:Sx S w0 w L D F):Sx S w0 w [] D F:=h.sub (fun p hp=>by simp at hp) (by simp)
theorem Sx.dropL {L1 L2:List Blk} (h:Sx S w0 w (L1++L2) D F):Sx S w0 w L2 D F:=
 h.sub (fun p hp=>by simp[hp]) (by have:=h.st.nodup;rw[List.map_append] at this;exact(List.nodup_append.1 this).2.1)
theorem Sx.end (h:Sx [] w0 w L D F):Below w0.heap.size w0 w:=h.st.end
theorem Sx.endF (h:Sx S w0 w L D F):St S w0 w []:=h.clear.st
theorem Sx.lay {L1 L2:List Blk} (h:Sx S w0 w (L1++L2) D F):Sx S w0 w L2 (fun p=>D p∨p∈L1) F where
 st:=h.dropL.st
 data p hp:=by
  rcases hp with hp |hp
  ·exact h.data p hp
  ·exact⟨_,h.st.blk p (by simp[hp])⟩
 apart p hp q hq:=by
  rcases hp with hp |hp
  ·exact h.apart p hp q (by simp[hq])
  ·have:=h.st.nodup
   rw[List.map_append,List.nodup_append] at this;exact this.2.2 _ (List.mem_map.2 ⟨p,hp,rfl⟩) _ (List.mem_map.2 ⟨q,hq,rfl⟩)
 flt:=h.flt
 fL x hx q hq:=h.fL x hx q (by simp[hq])
 fD x hx p hp:=by
  rcases hp with hp |hp
  ·exact h.fD x hx p hp
  ·exact h.fL x hx p (by simp[hp])
 fS:=h.fS
end
class AdrIs (ad:Addr) (g off:outParam Nat):Prop where eq:ad=⟨g,off,none⟩
instance adrLit {g off:Nat}:AdrIs ⟨g,off,none⟩ g off:=⟨rfl⟩
class SumIs (a b:Nat) (c:outParam Nat):Prop where eq:a+b=c
instance (priority:=low) sumAny {a b:Nat}:SumIs a b (a+b):=⟨rfl⟩
instance sumZeroR {a:Nat}:SumIs a 0 a:=⟨rfl⟩
instance sumZero {b:Nat}:SumIs 0 b b:=⟨Nat.zero_add b⟩
instance adrAdd {ad:Addr} {g off n m:Nat} [h:AdrIs ad g off] [s:SumIs off n m]:AdrIs (ad.add n) g m:=⟨by rw[h.eq,addr_add,s.eq]⟩
class LdD (D:Dat) (T:TypeId) (ad:Addr) (v:outParam Value):Prop where run:∀w,Holds D w→(loadVar T ad).run Tryz.prog w=.ok v w
theorem LdD.one {D:Dat} {T Tb:TypeId} {g off:Nat} {C:Array Value} {v:Value} [t:OneT T] (hD:D (g,C,Tb)) (hv:C[off]? =some v):LdD D T ⟨g,off,none⟩ v:=
 ⟨fun w hw=>by obtain⟨z,hz⟩:=hw _ hD;exact run_loadVar_one (t.agg w) hz hv⟩
theorem LdD.agg {D:Dat} {T Tb:TypeId} {g off n:Nat} {C:Array Value} {cs:List Value} [t:AggT T n] (hD:D (g,C,Tb)) (hv:PartAt C off n cs):LdD D T ⟨g,off,none⟩ (.agg cs.toArray):=
 ⟨fun w hw=>by obtain⟨z,hz⟩:=hw _ hD;exact run_loadVar_agg (t.agg w) (by rw[hv.len];exact t.size) hz hv.eq⟩
theorem LdD.mono {D D':Dat} {T:TypeId} {ad:Addr} {v:Value} (h:LdD D T ad v) (hs:∀p,D p→D' p):LdD D' T ad v:=⟨fun w hw=>h.run w (fun p hp=>hw p (hs p hp))⟩
instance (priority:=low) hasApp {L1 L2:List Blk} {g:Nat} {C:Array Value} {T:TypeId} [h:Has L2 g C T]:Has (L1++L2) g C T:=⟨by simp[h.mem]⟩
instance (priority:=low) updApp {L1 L2 L2':List Blk} {g:Nat} {C C':Array Value} {T:TypeId} [h:Upd L2 g C T C' L2']:Upd (L1++L2) g C T C' (L1++L2') where
 mem:=by simp[h.mem]
 keys:=by simp[h.keys]
 upd _ hn p hp:=by
  rw[List.map_append,List.nodup_append] at hn;rcases List.mem_append.1 hp with hp |hp
  ·refine Or.inr ⟨by simp[hp],fun e=>?_⟩
   exact hn.2.2 _ (List.mem_map.2 ⟨p,hp,rfl⟩) _ (List.mem_map.2 ⟨_,h.mem,rfl⟩) e
  ·rcases h.upd rfl hn.2.1 p hp with h1 |h1
   ·exact Or.inl h1
   ·exact Or.inr ⟨by simp[h1.1],h1.2⟩
section
variable {ops:Array Oper} {rest:List Oper} {o:Oper} {a:Act} {w:World} {Q:Exit→Act→World→Prop} {S:List Nat} {w0:World} {L:List Blk} {D:Dat} {F:List Nat}
theorem x1 (hw:Region.wanted o (yielded ops a.tmps)=true) {T:TypeId} {x:Operand} (ho:o.op=.load T x) {ad:Addr} (hx:a.eval x=.pointer (some ad)) (h:Sx S w0 w L D F)
  {g off:Nat} [e:AdrIs ad g off] {C:Array Value} {Tb:TypeId} {v:Value} [t:OneT T] [k:Has L g C Tb] [c:CellAt C off v] (hk:wpList Tryz.prog ops Q rest (a.put o.dst v) w):wpList Tryz.prog ops Q (o::rest) a w:=by
 obtain rfl:=e.eq;exact wpList_ld hw T x ho g off hx h.st hk
theorem xa (hw:Region.wanted o (yielded ops a.tmps)=true) {T:TypeId} {x:Operand} (ho:o.op=.load T x) {ad:Addr} (hx:a.eval x=.pointer (some ad)) (h:Sx S w0 w L D F)
  {g off:Nat} [e:AdrIs ad g off] {C:Array Value} {Tb:TypeId} {n:Nat} {cs:List Value} [t:AggT T n] [k:Has L g C Tb] [c:PartAt C off n cs] (hk:wpList Tryz.prog ops Q rest (a.put o.dst (.agg cs.toArray)) w):wpList Tryz.prog ops Q (o::rest) a w:=by
 obtain rfl:=e.eq;exact wpList_lda hw T x ho g off hx h.st hk
theorem xd (hw:Region.wanted o (yielded ops a.tmps)=true) {T:TypeId} {x:Operand} (ho:o.op=.load T x) {ad:Addr} (hx:a.eval x=.pointer (some ad)) (h:Sx S w0 w L D F) {v:Value} [c:LdD D T ad v]
  (hk:wpList Tryz.prog ops Q rest (a.put o.dst v) w):wpList Tryz.prog ops Q (o::rest) a w:=
 BigFrame.wpList_want hw fun K hK=>by
  unfold Oper.wp execOp;simp only[ho,hx,Instr.loadAt,Instr.sureAddr,Sem.run_bind,Sem.run_pure,Result.andThen_ok,c.run w h.data];exact hK _ _ hk
theorem xs (hw:Region.wanted o (yielded ops a.tmps)=true) {T:TypeId} {x y:Operand} (ho:o.op=.store T x y) {ad:Addr} (hx:a.eval x=.pointer (some ad)) {v:Value} (hy:a.eval y=v) (h:Sx S w0 w L D F)
  {g off:Nat} [e:AdrIs ad g off] {C C':Array Value} {Tb:TypeId} {n:Nat} {L':List Blk} [t:SizeT T n] [k:Has L g C Tb] [c:WrAt C off n v C'] [u:Upd L g C Tb C' L']
  (hk:∀w',Sx S w0 w' L' D F→wpList Tryz.prog ops Q rest (a.put o.dst undef) w'):wpList Tryz.prog ops Q (o::rest) a w:=
 BigFrame.wpList_want hw fun K hK=>by
  obtain rfl:=e.eq;unfold Oper.wp execOp;simp only[ho,hx,hy,Instr.storeAt,Instr.sureAddr,Sem.run_bind,Sem.run_pure,Result.andThen_ok,run_storeVar_at t.size h.st.has c];exact hK _ _ (hk _ (h.upd (St.write1 h.st.has)))
section
variable {T:TypeId} {x y:Operand} {ad:Addr} {g off:Nat} {C C':Array Value} {Tb:TypeId} {n:Nat} {L':List Blk}
theorem xsi (hw:Region.wanted o (yielded ops a.tmps)=true) (ho:o.op=.store T x y) (hx:a.eval x=.pointer (some ad)) {k:IntKind} {z:Int} (hy:a.eval y=.int k z) (h:Sx S w0 w L D F)
  [AdrIs ad g off] [SizeT T n] [Has L g C Tb] [WrAt C off n (.int k z) C'] [Upd L g C Tb C' L'] (hk:∀w',Sx S w0 w' L' D F→wpList Tryz.prog ops Q rest (a.put o.dst undef) w'):wpList Tryz.prog ops Q (o::rest) a w:=xs hw ho hx hy h hk
theorem xss (hw:Region.wanted o (yielded ops a.tmps)=true) (ho:o.op=.store T x y) (hx:a.eval x=.pointer (some ad)) {z:ByteArray} (hy:a.eval y=.string z) (h:Sx S w0 w L D F)
  [AdrIs ad g off] [SizeT T n] [Has L g C Tb] [WrAt C off n (.string z) C'] [Upd L g C Tb C' L'] (hk:∀w',Sx S w0 w' L' D F→wpList Tryz.prog ops Q rest (a.put o.dst undef) w'):wpList Tryz.prog ops Q (o::rest) a w:=xs hw ho hx hy h hk
theorem xsb (hw:Region.wanted o (yielded ops a.tmps)=true) (ho:o.op=.store T x y) (hx:a.eval x=.pointer (some ad)) {z:Bool} (hy:a.eval y=.bool z) (h:Sx S w0 w L D F)
  [AdrIs ad g off] [SizeT T n] [Has L g C Tb] [WrAt C off n (.bool z) C'] [Upd L g C Tb C' L'] (hk:∀w',Sx S w0 w' L' D F→wpList Tryz.prog ops Q rest (a.put o.dst undef) w'):wpList Tryz.prog ops Q (o::rest) a w:=xs hw ho hx hy h hk
theorem xsl (hw:Region.wanted o (yielded ops a.tmps)=true) (ho:o.op=.store T x y) (hx:a.eval x=.pointer (some ad)) {z:Option Addr} {l c:Nat} (hy:a.eval y=.slice z l c) (h:Sx S w0 w L D F)
  [AdrIs ad g off] [SizeT T n] [Has L g C Tb] [WrAt C off n (.slice z l c) C'] [Upd L g C Tb C' L'] (hk:∀w',Sx S w0 w' L' D F→wpList Tryz.prog ops Q rest (a.put o.dst undef) w'):wpList Tryz.prog ops Q (o::rest) a w:=xs hw ho hx hy h hk
theorem xsp (hw:Region.wanted o (yielded ops a.tmps)=true) (ho:o.op=.store T x y) (hx:a.eval x=.pointer (some ad)) {z:Option Addr} (hy:a.eval y=.pointer z) (h:Sx S w0 w L D F)
  [AdrIs ad g off] [SizeT T n] [Has L g C Tb] [WrAt C off n (.pointer z) C'] [Upd L g C Tb C' L'] (hk:∀w',Sx S w0 w' L' D F→wpList Tryz.prog ops Q rest (a.put o.dst undef) w'):wpList Tryz.prog ops Q (o::rest) a w:=xs hw ho hx hy h hk
theorem xsa (hw:Region.wanted o (yielded ops a.tmps)=true) (ho:o.op=.store T x y) (hx:a.eval x=.pointer (some ad)) {z:Array Value} (hy:a.eval y=.agg z) (h:Sx S w0 w L D F)
  [AdrIs ad g off] [SizeT T n] [Has L g C Tb] [WrAt C off n (.agg z) C'] [Upd L g C Tb C' L'] (hk:∀w',Sx S w0 w' L' D F→wpList Tryz.prog ops Q rest (a.put o.dst undef) w'):wpList Tryz.prog ops Q (o::rest) a w:=xs hw ho hx hy h hk
end
theorem xnw (hw:Region.wanted o (yielded ops a.tmps)=true) {T:TypeId} (ho:o.op=.alloc T) (h:Sx S w0 w L D F) {C:Array Value} [z:ZeroT T C]
  (hk:∀(b:Nat) (w':World),Sx S w0 w' ((b,C,T)::L) D F→wpList Tryz.prog ops Q rest (a.put o.dst (.pointer (some ⟨b,0,none⟩))) w'):wpList Tryz.prog ops Q (o::rest) a w:=
 BigFrame.wpList_want hw fun K hK=>by
  obtain⟨v,hz,rfl⟩:=z.run w
  have hr:(Instr.alloc T true (.tuple #[])).run Tryz.prog w=.ok (.pointer (some ⟨w.heap.size,0,none⟩)) (w.alloc (.cells v.cells T)):=by
   unfold Instr.alloc;simp only[Sem.run_bind,hz,Result.andThen_ok,newVar_one];rfl
  unfold Oper.wp execOp;simp only[ho,Sem.run_bind,hr,Result.andThen_ok];exact hK _ _ (hk _ _ (h.alloc v.cells T))
theorem xbV (hw:Region.wanted o (yielded ops a.tmps)=true) {T:TypeId} {x:Operand} (ho:o.op=.box T x) (h:Sx S w0 w L D F) {v:Value} (hx:a.eval x=v) {C:Array Value} (hC:v.cells=C)
  (hk:∀(b:Nat) (w':World),Sx S w0 w' ((b,C,T)::L) D F→wpList Tryz.prog ops Q rest (a.put o.dst (.pointer (some ⟨b,0,none⟩))) w'):wpList Tryz.prog ops Q (o::rest) a w:=
 BigFrame.wpList_want hw fun K hK=>by
  have hr:(Instr.box T v).run Tryz.prog w=.ok (.pointer (some ⟨w.heap.size,0,none⟩)) (w.alloc (.cells v.cells T)):=by
   unfold Instr.box;simp only[Sem.run_bind,newVar_one,Result.andThen_ok];rfl
  unfold Oper.wp execOp;simp only[ho,hx,Sem.run_bind,hr,Result.andThen_ok];exact hK _ _ (hk _ _ (hC ▸ h.alloc v.cells T))
section
variable {T:TypeId} {x:Operand}
theorem xbi (hw:Region.wanted o (yielded ops a.tmps)=true) (ho:o.op=.box T x) (h:Sx S w0 w L D F) {k:IntKind} {z:Int} (hx:a.eval x=.int k z)
  (hk:∀(b:Nat) (w':World),Sx S w0 w' ((b,#[.int k z],T)::L) D F→wpList Tryz.prog ops Q rest (a.put o.dst (.pointer (some ⟨b,0,none⟩))) w'):wpList Tryz.prog ops Q (o::rest) a w:=xbV hw ho h hx rfl hk
theorem xbs (hw:Region.wanted o (yielded ops a.tmps)=true) (ho:o.op=.box T x) (h:Sx S w0 w L D F) {z:ByteArray} (hx:a.eval x=.string z)
  (hk:∀(b:Nat) (w':World),Sx S w0 w' ((b,#[.string z],T)::L) D F→wpList Tryz.prog ops Q rest (a.put o.dst (.pointer (some ⟨b,0,none⟩))) w'):wpList Tryz.prog ops Q (o::rest) a w:=xbV hw ho h hx rfl hk
theorem xbl (hw:Region.wanted o (yielded ops a.tmps)=true) (ho:o.op=.box T x) (h:Sx S w0 w L D F) {z:Option Addr} {l c:Nat} (hx:a.eval x=.slice z l c)
  (hk:∀(b:Nat) (w':World),Sx S w0 w' ((b,#[.slice z l c],T)::L) D F→wpList Tryz.prog ops Q rest (a.put o.dst (.pointer (some ⟨b,0,none⟩))) w'):wpList Tryz.prog ops Q (o::rest) a w:=xbV hw ho h hx rfl hk
theorem xbp (hw:Region.wanted o (yielded ops a.tmps)=true) (ho:o.op=.box T x) (h:Sx S w0 w L D F) {z:Option Addr} (hx:a.eval x=.pointer z)
  (hk:∀(b:Nat) (w':World),Sx S w0 w' ((b,#[.pointer z],T)::L) D F→wpList Tryz.prog ops Q rest (a.put o.dst (.pointer (some ⟨b,0,none⟩))) w'):wpList Tryz.prog ops Q (o::rest) a w:=xbV hw ho h hx rfl hk
theorem xba (hw:Region.wanted o (yielded ops a.tmps)=true) (ho:o.op=.box T x) (h:Sx S w0 w L D F) {C:Array Value} (hx:a.eval x=.agg C)
  (hk:∀(b:Nat) (w':World),Sx S w0 w' ((b,C,T)::L) D F→wpList Tryz.prog ops Q rest (a.put o.dst (.pointer (some ⟨b,0,none⟩))) w'):wpList Tryz.prog ops Q (o::rest) a w:=xbV hw ho h hx rfl hk
end
theorem xmk (hw:Region.wanted o (yielded ops a.tmps)=true) (d:Nat) (hd:o.dst=some d) (h:Sx S w0 w L D F) (C:Array Value) (T:TypeId) (f:Nat→Value) (hv:∀w,(execOp a.eval o).run Tryz.prog w=.ok (.value (f w.heap.size)) (w.alloc (.cells C T)))
  (hk:∀(b:Nat) (w':World),Sx S w0 w' ((b,C,T)::L) D F→wpList Tryz.prog ops Q rest (a.put o.dst (f b)) w'):wpList Tryz.prog ops Q (o::rest) a w:=
 BigFrame.wpList_want hw fun K hK=>by
  unfold Oper.wp;rw[hv];exact hK _ _ (hk _ _ (h.alloc C T))
theorem xval (hw:Region.wanted o (yielded ops a.tmps)=true) (d:Nat) (hd:o.dst=some d) (v:Value) (hv:∀w,(execOp a.eval o).run Tryz.prog w=.ok (.value v) w)
  (hk:wpList Tryz.prog ops Q rest (a.put o.dst v) w):wpList Tryz.prog ops Q (o::rest) a w:=
 BigFrame.wpList_want hw fun K hK=>by
  unfold Oper.wp;rw[hv];exact hK _ _ hk
end
end Go.Proofs.YtdkeiefgkgpcbaaGreatDoor
