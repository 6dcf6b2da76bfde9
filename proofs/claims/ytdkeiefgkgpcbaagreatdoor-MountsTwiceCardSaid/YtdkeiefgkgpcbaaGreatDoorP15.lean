/- Steps of the proof: ShaFin, Leaf, Pack. -/
import Derived.Lib.BufferWrite
import Derived.Test.YtdkeiefgkgpcbaaGreatDoorP14
set_option linter.unusedVariables false
set_option linter.unusedSimpArgs false
set_option maxRecDepth 100000
namespace Go.Proofs.YtdkeiefgkgpcbaaGreatDoor
open Go.RowKit
abbrev u8L (c:UInt8):List Value:=[.int .u8 (c.toNat:Int)]
instance encU8:Enc u8L 1:=⟨fun _=>rfl,fun x v hv=>by simp at hv;subst hv;rfl⟩
instance eltU8:Elt 5 1:=⟨.int .u8 0,1,by kernel_rfl,rfl,by decide,by decide⟩
instance sltU8:SlT 47 5:=⟨Tryz.underlying47⟩
instance zeroHash:ZeroT 39 (hashL []).toArray:=.agg fun w=>by kernel_rfl
instance fldW0:Fx.FldT 240 0 0:=⟨fun ad w=>by kernel_rfl⟩
instance fldW1:Fx.FldT 240 1 8:=⟨fun ad w=>by kernel_rfl⟩
instance fldW2:Fx.FldT 240 2 9:=⟨fun ad w=>by kernel_rfl⟩
instance fldW3:Fx.FldT 240 3 10:=⟨fun ad w=>by kernel_rfl⟩
theorem ByteRow.row {F:List Nat} {w:World} {p:Option Addr} {n c:Nat} {l:List UInt8} (h:ByteRow F w (.slice p n c) l) (hl:l.length≤1000000000):n=l.length∧RowAt (snap w) 5 1 u8L p c l:=by
 rcases h with⟨e,rfl⟩ |⟨g,off,cap,C,e,hg,hC,h1,h2,h3⟩
 ·injection e with e1 e2 e3
  subst e1 e2 e3;exact⟨rfl,RowAt.nil ..⟩
 ·injection e with e1 e2 e3
  subst e1 e2 e3
  exact⟨rfl,h2,hl,fun i hi=>⟨g,off,C,_,rfl,⟨_,hC⟩,fun j v hj=>by
   have:j=0:=by have:=(List.getElem?_eq_some_iff.1 hj).1;simpa using this
   subst this;simp only[List.getElem?_cons_zero,Option.some.injEq] at hj;subst hj;rw[Nat.mul_one,Nat.add_zero]
   exact h3 i hi⟩⟩
section
variable {α:Type} {enc:α→List Value} {k':Nat} {T TS:TypeId} {ops:Array Oper} {F:Fx.Flow} {Qf:List Blk→Act→Prop} {l:List Nat} {k:Nat} {o:Oper} {L:List Blk} {a:Act} {r:List (Nat×Value)}
theorem Fx.apn (h0:Fx.nthO ops.toList k=some o) (hs:F.special k=true) {x y:Operand} (ho:o.op=.call {callee:=.builtin .append,args:=#[x,y],argTypes:=#[TS,TS]}) {u:Value} {m:List α} (hx:Fx.evO r a x=.slice none 0 0) (hy:Fx.evO r a y=u) [sl:SlT TS T] [e:Elt T k'] [en:Enc enc k'] (hsrc:∀w,Sx F.S F.w0 w L F.D F.O→Src w enc u m) (hm:m.length≤1000000000)
  (hk:∀p c Lo,OwnR T k' enc Lo (.slice p m.length c) m→(m=[]→p=none)→(F.late k=true∨∀w,Sx F.S F.w0 w (Lo++L) F.D F.O→F.B w)∧Fx.wpLX ops F Qf l (Lo++L) (Fx.mkO (Fx.nxt o.dst (.slice p m.length c) r) a)):Fx.wpLX ops F Qf (k::l) L (Fx.mkO r a):=by
 refine Fx.spec h0 hs (fun L' u=>∃p c Lo,L'=Lo++L∧u=.slice p m.length c∧OwnR T k' enc Lo (.slice p m.length c) m∧(m=[]→p=none)) (fun w hw=>Or.inl ?_) ?_
 ·by_cases hm0:m=[]
  ·subst hm0
   obtain⟨pa,cu,rfl,hc⟩:=hsrc w hw;refine⟨_,w,L,?_,⟨none,0,[],rfl,rfl,OwnR.none (enc:=enc) none,fun _=>rfl⟩,hw⟩;unfold execOp;have hr:=run_append_zero (TS:=TS) o.type none pa 0 0 cu (Nat.le_refl _) w;simp only[ho,resolve,invoke,builtin,Sem.run_bind,Sem.run_pure,Result.andThen_ok,List.map_toArray,List.map_cons,List.map_nil,hx,hy,List.length_nil,hr]
  obtain⟨p',c',w',Lo',hr,h1,h2⟩:=append_row (TS:=TS) (Lo:=[]) (l:=[]) o.type hw (OwnR.none (enc:=enc) none) (hsrc w hw) (by simpa using hm);simp only[List.nil_append] at hr h1;refine⟨_,w',Lo'++L,?_,⟨p',c',Lo',rfl,rfl,h1,fun e=>absurd e hm0⟩,h2⟩;unfold execOp;simp only[ho,resolve,invoke,builtin,Sem.run_bind,Sem.run_pure,Result.andThen_ok,List.map_toArray,List.map_cons,List.map_nil,hx,hy,hr]
 ·rintro L' u ⟨p,c,Lo,rfl,rfl,h1,h2⟩
  exact hk p c Lo h1 h2
end
theorem Sx.toObj {S:List Nat} {w0 w:World} {L1 L:List Blk} {D:Dat} (h:Sx S w0 w (L1++L) D []):Sx S w0 w L D (L1.map (·.1)):=by
 have hn:=h.st.nodup;rw[List.map_append,List.nodup_append] at hn;refine⟨h.dropL.st,h.data,fun p hp r hr=>h.apart p hp r (by simp[hr]),fun x hx=>?_,fun x hx r hr=>?_,fun x hx p hp=>?_,fun x hx=>?_⟩
 ·obtain⟨p,hp,rfl⟩:=List.mem_map.1 hx
  exact h.st.lt p (by simp[hp])
 ·exact fun e=>hn.2.2 x hx _ (List.mem_map.2 ⟨r,hr,rfl⟩) e.symm
 ·obtain⟨r,hr,rfl⟩:=List.mem_map.1 hx
  exact h.apart p hp r (by simp[hr])
 ·obtain⟨p,hp,rfl⟩:=List.mem_map.1 hx
  exact(h.st.own p (by simp[hp])).symm
instance wrHash2 (p q:List UInt8):WrAt (hashL p).toArray 0 32 (.agg (hashL q).toArray) (hashL q).toArray:=wr_row _ _ _ _ _ rfl rfl (Nat.le_of_ble_eq_true rfl) (by kernel_rfl)
instance partHash2 (p:List UInt8):PartAt (hashL p).toArray 0 32 (hashL p):=⟨rfl,fun j v hj=>by rw[Nat.zero_add,List.getElem?_toArray];exact hj⟩
def w0W:W32:=⟨0,by decide⟩
instance zeroWriter:ZeroT 240 (writerC [w0W,w0W,w0W,w0W,w0W,w0W,w0W,w0W] (.slice none 0 0) 0 false):=.agg fun w=>by kernel_rfl
instance wrWriter {a0 a1 a2 a3 a4 a5 a6 a7 b0 b1 b2 b3 b4 b5 b6 b7:W32} {p q:Option Addr} {n c n2 c2:Nat} {m m2:Int} {f f2:Bool}:WrAt (writerC [a0,a1,a2,a3,a4,a5,a6,a7] (.slice p n c) m f) 0 11 (.agg (writerC [b0,b1,b2,b3,b4,b5,b6,b7] (.slice q n2 c2) m2 f2)) (writerC [b0,b1,b2,b3,b4,b5,b6,b7] (.slice q n2 c2) m2 f2):=
 wr_row _ _ _ _ [v32 b0,v32 b1,v32 b2,v32 b3,v32 b4,v32 b5,v32 b6,v32 b7,.slice q n2 c2,.int .i64 m2,.bool f2] rfl rfl (Nat.le_of_ble_eq_true rfl) (by kernel_rfl)
instance partWriter {a0 a1 a2 a3 a4 a5 a6 a7:W32} {l:Value} {m:Int} {f:Bool}:PartAt (writerC [a0,a1,a2,a3,a4,a5,a6,a7] l m f) 0 8 [v32 a0,v32 a1,v32 a2,v32 a3,v32 a4,v32 a5,v32 a6,v32 a7]:=⟨rfl,fun j v hj=>by
 have:j<8:=(List.getElem?_eq_some_iff.1 hj).1;rw[Nat.zero_add]
 match j,this with
 |0,_=>exact hj
 |1,_=>exact hj
 |2,_=>exact hj
 |3,_=>exact hj
 |4,_=>exact hj
 |5,_=>exact hj
 |6,_=>exact hj
 |7,_=>exact hj⟩
theorem run_zeros (n:Nat) (hn:n≤1000) (w:World):(Instr.makeSlice 47 (.int .i64 (n:Int)) (.int .i64 (n:Int))).run Tryz.prog w=.ok (.slice (some ⟨w.heap.size,0,none⟩) n n) (w.alloc (.cells ((List.replicate n (0:UInt8)).flatMap u8L).toArray 5)):=by
 obtain⟨i,hi,hz,hs,hb⟩:=info_parts (P:=Tryz.prog) (e:=5) (z:=.int .u8 0) (size:=1) (bytes:=1) (by kernel_rfl);have hr:=run_make (P:=Tryz.prog) w 47 5 i (.int .u8 0) Tryz.underlying47 hi hz .i64 .i64 n n (by omega) (by omega) (by rw[hb];omega) (by omega);rw[hs,show((n:Int)).toNat=n from rfl,madeRows (enc:=u8L) (by decide) (0:UInt8) (.int .u8 0) rfl] at hr;exact hr
theorem run_back {w:World} {b n c:Nat} {l:List UInt8} (hl:l.length=n) (hb:w.heap[b]? =some (.cells (l.flatMap u8L).toArray 5 (0,0))):(convert 47 9 (.slice (some ⟨b,0,none⟩) n c)).run Tryz.prog w=.ok (.string (mkS l)) w:=by
 subst hl;refine run_convert_bytes_back (P:=Tryz.prog) w 47 9 5 ⟨b,0,none⟩ c l Tryz.underlying47 Tryz.underlying5 Tryz.underlying9 (fun j hj=>?_);rw[addr_add,cell_of_row w b _ _ _ _ hb,Nat.zero_add,List.getElem?_toArray];have:=rows_at (enc:=u8L) l j hj 0 (by decide);rw[Nat.mul_one,Nat.add_zero] at this;rw[this];rfl
theorem Sx.fromObj {S:List Nat} {w0 w:World} {L:List Blk} {D:Dat} {F:List Nat} {g:Nat} {C:Array Value} {T:TypeId} (h:Sx S w0 w L D F) (hg:g∈F) (hb:w.heap[g]? =some (.cells C T (0,0))):Sx S w0 w ((g,C,T)::L) D []:=by
 refine⟨⟨h.st.os,h.st.tape,h.st.output,h.st.size,h.st.kept,fun p hp=>?_,?_,fun p hp=>?_⟩,h.data,fun p hp q hq=>?_,fun x hx=>by simp at hx,fun x hx=>by simp at hx,fun x hx=>by simp at hx,fun x hx=>by simp at hx⟩
 ·rcases List.mem_cons.1 hp with rfl |hp
  ·exact(h.fS g hg).symm
  ·exact h.st.own p hp
 ·rw[List.map_cons,List.nodup_cons]
  refine⟨fun hm=>?_,h.st.nodup⟩;obtain⟨q,hq,e⟩:=List.mem_map.1 hm;exact h.fL g hg q hq e
 ·rcases List.mem_cons.1 hp with rfl |hp
  ·exact hb
  ·exact h.st.blk p hp
 ·rcases List.mem_cons.1 hq with rfl |hq
  ·exact h.fD g hg p hp
  ·exact h.apart p hp q hq
theorem GSha.of_sx {S:List Nat} {w0 w:World} {L:List Blk} {D:Dat} {F:List Nat} (h:GSha w0) (hs:Sx S w0 w L D F) (hS:2∉S):GSha w:=
 ⟨fun i hi=>by
  have h1:=h.at_ i hi;have h2:=cell_lt h1
  exact(World.cell?_of_block (a:=⟨2,i,none⟩) (hs.st.kept _ h2 hS)).trans h1⟩
theorem take_sx {w0 w:World} {b n c:Nat} {p:Option Addr} {h:List W32} {many:Int} {made:Bool} {Lo L:List Blk} {D:Dat} {l:List UInt8} (hst:Sx [] w0 w ((b,writerC h (.slice p n c) many made,240)::(Lo++L)) D []) (hown:OwnR 5 1 u8L Lo (.slice p n c) l) (hpn:l=[]→p=none) (hh:h.length=8) (hG:GSha w0) (s:ByteArray) (hl:(l++ls s).length≤1000000):
  Calls Tryz.prog 140 #[.pointer (some ⟨b,0,none⟩),.string s] w fun e w'=>∃u L',e=.returned u∧(u=.tuple #[]∧∃p' n' c',L'=(b,writerC (absorb h (l++ls s) ((l++ls s).length / 64)) (.slice p' n' c') many made,240)::L)∧Sx [] w0 w' L' D []:=by
 have hG1:=hG.of_sx hst (by simp);have hb:=hst.st.blk (b,writerC h (.slice p n c) many made,240) (by simp);have hnd:=hst.st.nodup;have hso:=Sx.toObj (L1:=(b,writerC h (.slice p n c) many made,240)::Lo) (L:=L) hst
 have hrow:ByteRow (Lo.map (·.1)) w (.slice p n c) l:=by
  rcases hown with⟨rfl,⟨p',e⟩,rfl⟩ |⟨g,c',C,rfl,e,h1,h2,h3,h4⟩
  ·obtain rfl:=hpn rfl
   injection e with e1 e2 e3
   subst e2 e3;exact Or.inl ⟨rfl,rfl⟩
  ·injection e with e1 e2 e3
   subst e1 e2 e3;refine Or.inr ⟨g,0,c,C,rfl,by simp,hst.st.blk (g,C,5) (by simp),by omega,h1,fun j hj=>?_⟩;have:=OwnR.cells (enc:=u8L) h4 hj (j:=0) (by decide);simpa using this
 have htab:2∉b::Lo.map (·.1):=fun hm=>by
  have h1:2<w0.heap.size:=cell_lt (hG.at_ 0 (by decide));rcases hso.fS _ hm with h2 |h2
  ·simp at h2
  ·omega
 refine(take_calls b (Lo.map (·.1)) h l many s (l++ls s) rfl hl w ⟨hh,⟨p,n,c,hb,hrow⟩,?_,fun x hx=>hso.flt x (List.mem_cons_of_mem _ hx),htab⟩ hG1).mono ?_
 ·rw[List.map_cons,List.nodup_cons] at hnd
  intro hm;exact hnd.1 (by rw[List.map_append];exact List.mem_append_left _ hm)
 ·rintro e w' ⟨rfl,F',hs,⟨_,⟨p',n',c',hg',_⟩,_,hold',_⟩,hF'⟩
  have h2:=hso.obj0 (F':=b::F') hs (fun x hx=>by
   rcases List.mem_cons.1 hx with rfl |hx
   ·exact Or.inl (by simp)
   ·exact(hF' x hx).imp (fun h=>List.mem_cons_of_mem _ h) id) (fun x hx=>by
   rcases List.mem_cons.1 hx with rfl |hx
   ·exact lt_of_heap' hg'
   ·exact hold' x hx)
  exact⟨_,_,rfl,⟨rfl,p',n',c',rfl⟩,h2.fromObj (by simp) hg'⟩
theorem e_cv {ρ:Operand→Value} {o:Oper} {x:Operand} {A B:TypeId} {u v:Value} {w:World} (ho:o.op=.convert A B x) (hx:ρ x=u) (hr:(convert A B u).run Tryz.prog w=.ok v w):(execOp ρ o).run Tryz.prog w=.ok (.value v) w:=by
 unfold execOp;rw[ho];simp only[hx,Sem.run_bind,hr,Result.andThen_ok];rfl
theorem e_cat {ρ:Operand→Value} {o:Oper} {x y:Operand} {T U:TypeId} {s u:ByteArray} (ho:o.op=.binOp .add T x y U) (hx:ρ x=.string s) (hy:ρ y=.string u) (h:s.size+u.size≤1000000000) (w:World):(execOp ρ o).run Tryz.prog w=.ok (.value (.string (s++u))) w:=by
 unfold execOp;rw[ho];have hg:(eqGuard .add T x y (.string s) (.string u)).run Tryz.prog w=.ok () w:=rfl;simp only[hx,hy,Sem.run_bind,hg,Result.andThen_ok,binOp_string_add,run_string_add_sum w s u (by omega)];rfl
theorem e_idx {ρ:Operand→Value} {o:Oper} {x y:Operand} {T:TypeId} {u j v:Value} {w:World} (ho:o.op=.index T x y) (hx:ρ x=u) (hy:ρ y=j) (hr:(Instr.index T u j).run Tryz.prog w=.ok v w):(execOp ρ o).run Tryz.prog w=.ok (.value v) w:=by
 unfold execOp;rw[ho];simp only[hx,hy,Sem.run_bind,hr,Result.andThen_ok];rfl
theorem idxV8 (M:List W32) (hM:M.length=8) (i:Nat) (h:i<8) (w:World):(Instr.index 238 (.agg (M.map v32).toArray) (.int .i64 i)).run Tryz.prog w=.ok (v32 (M.getD i w0)) w:=by
 have hc:=cellU (l:=M) (i:=i) (by omega);have hp:=part_one (T:=223) (C:=u32C M) (i:=i) w;have e3:(Tryz.prog.info? 223).map (·.size)=some 1:=by kernel_rfl
 unfold Instr.index;simp only[asIntOf,Sem.run_bind,Sem.run_pure,Result.andThen_ok,run_underlying Tryz.underlying238];rw[if_pos ⟨by omega,by omega⟩];simp only[Sem.run_bind,run_size e3,Result.andThen_ok,Int.toNat_natCast,Nat.mul_one];exact hp
theorem run_conv_int (x:W32) (w:World):(convert 223 3 (v32 x)).run Tryz.prog w=.ok (.int .i64 (x.val:Int)) w:=by
 unfold v32;rw[run_convert_int w 223 3 .u32 x.val (by rw[Tryz.underlying223];rfl) Tryz.underlying3,show Tryz.prog.intKind 3=.i64 by kernel_rfl];have:=x.lt
 have e:IntKind.i64.wrap (x.val:Int)=(x.val:Int):=by
  simp only[IntKind.wrap,IntKind.signed,IntKind.bits];simp;omega
 rw[e]
theorem hash_over {l s:List UInt8} {o:Nat} (hl:l.length=o) (hs:s.length=4) (ho:o+4≤32):((hashL l).toArray.toList.take o++Lib.byteCells s++(hashL l).toArray.toList.drop (o+4)).toArray=(hashL (l++s)).toArray:=by
 subst hl;congr 1;have h32:∀l:List UInt8,(hashL l).length=32:=fun _=>rfl
 have e:∀l:List UInt8,hashL l=(List.range 32).map (hb l):=fun _=>rfl
 have hbl:(Lib.byteCells s).length=4:=by simp[Lib.byteCells,hs]
 apply List.ext_getElem
 ·simp[e,hbl];omega
 ·intro i h1 h2
  have hi:i<32:=h2
  have hbb:∀j (hj:j<(Lib.byteCells s).length),(Lib.byteCells s)[j]=hb s j:=fun j hj=>by
   have:j<s.length:=by rw[hbl] at hj;omega
   simp[Lib.byteCells,hb,this]
  have hr:∀h,(hashL (l++s))[i]'h=hb (l++s) i:=fun h=>by simp[e]
  refine Eq.trans ?_ (hr _).symm
  by_cases h3:i<l.length
  ·rw[List.getElem_append_left (by simp[e,hbl];omega),List.getElem_append_left (by simp[e];omega),List.getElem_take]
   simp[e,hb,h3,List.getElem?_append]
  ·by_cases h4:i<l.length+4
   ·rw[List.getElem_append_left (by simp[e,hbl];omega),List.getElem_append_right (by simp[e];omega),hbb]
    simp only[hb,List.length_take];have e1:min l.length (hashL l).toArray.toList.length=l.length:=by simp[e];omega
    rw[e1];simp[List.getElem?_append,h3]
   ·rw[List.getElem_append_right (by simp[e,hbl];omega),List.getElem_drop]
    simp only[e,List.getElem_map,List.getElem_range,hb];rw[List.getD_eq_getElem?_getD,List.getD_eq_getElem?_getD,List.getElem?_eq_none (by simp[hs];omega),List.getElem?_eq_none (by simp[hs,e,Lib.byteCells];omega)]
theorem Fx.cpS {ops:Array Oper} {F:Fx.Flow} {Qf:List Blk→Act→Prop} {l:List Nat} {k:Nat} {o:Oper} {L:List Blk} {a:Act} {r:List (Nat×Value)} (h0:Fx.nthO ops.toList k=some o) (hs:F.special k=true) {x y:Operand} {dT sT elem:TypeId} (ho:o.op=.call {callee:=.builtin .copy,args:=#[x,y],argTypes:=#[dT,sT]})
  {g off n c:Nat} {C C':Array Value} {Tb:TypeId} {s:ByteArray} (hx:Fx.evO r a x=.slice (some ⟨g,off,none⟩) n c) (hy:Fx.evO r a y=.string s) [h1:Has L g C Tb] (hu:Tryz.prog.underlying dT=some (.slice elem)) (hsz:(Tryz.prog.info? elem).map (·.size)=some 1) (hle:s.size≤n) (hfit:off+s.size≤C.size) (hC:(C.toList.take off++Lib.byteCells s.data.toList++C.toList.drop (off+s.size)).toArray=C') {L':List Blk} [u:Upd L g C Tb C' L'] (hl:F.late k=true)
  (hk:Fx.wpLX ops F Qf l L' (Fx.mkO (Fx.nxt o.dst (goInt s.size) r) a)):Fx.wpLX ops F Qf (k::l) L (Fx.mkO r a):=by
 refine Fx.spec h0 hs (fun L'' v=>L''=L'∧v=goInt s.size) (fun w hw=>Or.inl ?_) ?_
 ·have hg:=hw.st.has (g:=g)
  have hr:=Lib.run_copy_row_string (P:=Tryz.prog) w dT sT o.type elem g off n c s C Tb hu hsz hg hle hfit;rw[hC] at hr;refine⟨goInt s.size,w.setRow g C',L',?_,⟨rfl,rfl⟩,hw.upd (St.write1 hg)⟩;unfold execOp;simp[ho,resolve,invoke,builtin,hx,hy,hr,Result.andThen,Sem.run_bind]
 ·rintro L'' v ⟨rfl,rfl⟩
  exact⟨Or.inl hl,hk⟩
theorem put4 (x:W32):(putF (x.val:Int) 4).size=4:=by
 have hf:fitsB (x.val:Int) 4=true:=by have:=x.lt;simp[fitsB,sizeB];omega
 unfold putF;rw[if_pos hf];show(be 4 _).toArray.size=4;simp[be_length]
theorem e_sl32 {ρ:Operand→Value} {o:Oper} {x y:Operand} {b j:Nat} (ho:o.op=.slice 39 x (some y) none none) (hx:ρ x=.pointer (some ⟨b,0,none⟩)) (hy:ρ y=.int .i64 (4*(j:Int))) (hj:j<8) (w:World):(execOp ρ o).run Tryz.prog w=.ok (.value (.slice (some ⟨b,4*j,none⟩) (32-4*j) (32-4*j))) w:=by
 have e1:Tryz.prog.elem 39=5:=by kernel_rfl
 have e2:Tryz.prog.arrayLen 39=32:=by kernel_rfl
 have e3:(Tryz.prog.info? 5).map (·.size)=some 1:=by kernel_rfl
 have hr:=run_sliceAt_array_l (P:=Tryz.prog) w 39 ⟨b,0,none⟩ (by rw[e1,e2];exact Tryz.underlying39) .i64 (4*(j:Int)) (by omega) (by rw[e2];omega);rw[e1,e2,run_size e3,Result.andThen_ok] at hr;have e4:(4*(j:Int)).toNat=4*j:=by omega
 unfold execOp;rw[ho];simp only[hx,hy,Option.map_some,Option.map_none,Sem.run_bind,hr,Result.andThen_ok,e4,slicedAt];rw[if_neg (by omega),addr_add,Nat.mul_one,Nat.zero_add];rfl
def padded (l:List UInt8) (many:Nat):List UInt8:=l++(128::List.replicate ((119-l.length)%64) 0++putL (8*(many:Int)) 8)
def shaOut (h:List W32):List UInt8:=h.flatMap fun x=>putL (x.val:Int) 4
theorem shaOut_len (h:List W32):(shaOut h).length=4*h.length:=by
 unfold shaOut
 induction h with
 |nil=>rfl
 |cons x h ih=>
  have:(putL (x.val:Int) 4).length=4:=put4 x;simp only[List.flatMap_cons,List.length_append,List.length_cons,ih,this];omega
theorem shaOut_succ (h:List W32) {k:Nat} (hk:k<h.length):shaOut (h.take (k+1))=shaOut (h.take k)++putL ((h.getD k w0).val:Int) 4:=by
 unfold shaOut;rw[List.take_succ_eq_append_getElem hk,List.flatMap_append];simp[hk]
def finF (h:List W32) (l:List UInt8) (many:Nat):List UInt8:=shaOut (absorb h (padded l many) ((padded l many).length / 64))
set_option maxHeartbeats 4000000 in
theorem ssum_calls {g:Nat} {F:List Nat} {h:List W32} {l:List UInt8} {many:Nat} (hl:l.length<64) (hm:many≤1000000000) (w:World) (hI:Isw w g F h l many) (hG:GSha w):
  Calls Tryz.prog 105 #[.pointer (some ⟨g,0,none⟩)] w (Ret (.agg (hashL (finF h l many)).toArray) w):=by
 obtain⟨hh,⟨p,n,c,hg,hrow⟩,hgF,hold,htab⟩:=hI;obtain⟨rfl,hr⟩:=hrow.row (by omega);have hst:=Sx.start0 w (snap_holds w);have hD:snap w (g,writerC h (.slice p l.length c) many true,240):=⟨_,hg⟩;obtain⟨a0,a1,a2,a3,a4,a5,a6,a7,rfl⟩:=len8 hh;have e8:LdD (snap w) 47 ⟨g,8,none⟩ (.slice p l.length c):=ldC hD rfl;have e9:LdD (snap w) 3 ⟨g,9,none⟩ (.int .i64 many):=ldC hD rfl;have e10:LdD (snap w) 4 ⟨g,10,none⟩ (.bool true):=ldC hD rfl
 have e0:LdD (snap w) 238 ⟨g,0,none⟩ (.agg #[v32 a0,v32 a1,v32 a2,v32 a3,v32 a4,v32 a5,v32 a6,v32 a7]):=LdD.agg (n:=8) (cs:=[v32 a0,v32 a1,v32 a2,v32 a3,v32 a4,v32 a5,v32 a6,v32 a7]) hD ⟨rfl,fun j v hj=>by
  have:j<8:=(List.getElem?_eq_some_iff.1 hj).1;rw[Nat.zero_add]
  match j,this with
  |0,_=>exact hj
  |1,_=>exact hj
  |2,_=>exact hj
  |3,_=>exact hj
  |4,_=>exact hj
  |5,_=>exact hj
  |6,_=>exact hj
  |7,_=>exact hj⟩
 go_enter Tryz.func105,Tryz.ntmps105;go_wp2_with (first|(with_reducible first|refine xd rfl rfl rfl hst ?_|(refine xnw rfl rfl hst ?_;clear hst;intro bn w' hst))|(with_reducible refine xval rfl 8 rfl (.bool false) (fun w=>by kernel_rfl) ?_));have hsrc:∀w',Holds (snap w) w'→Src w' u8L (.slice p l.length c) l:=fun w' hw=>RowD.src ⟨_,_,rfl,hr⟩ hw (by decide)
 refine Fx.goT (fun i=>i==8||i==10||i==11) (fun i=> !(i==3||i==7)) (fun i=>i==11) (.two [0,1,2,3,4,5,6,7] 8 (.run [9,10,11]) 10 (.run [8,9,11])) rfl hst (by kernel_rfl) (by kernel_rfl) (by kernel_rfl) (by kernel_rfl) (by kernel_rfl) ?_;show Fx.wpLX _ _ _ _ _ _
 repeat(first|refine Fx.val rfl rfl rfl rfl (Fx.e_mv rfl rfl) ?_|refine Fx.val rfl rfl rfl rfl (Fx.e_nil rfl rfl) ?_|refine Fx.fa rfl rfl rfl rfl rfl rfl ?_|refine Fx.lD rfl rfl rfl rfl rfl rfl ?_)
 refine And.intro (Fx.runOf ?_) (Fx.runOf ?_)
 ·refine Fx.apn (T:=5) rfl rfl rfl rfl rfl (fun w hw=>hsrc w hw.data) (by omega) ?_
  intro p2 c2 Lo hown hpn;refine⟨Or.inr (fun w h=>h.dropL),?_⟩;refine Fx.val rfl rfl rfl rfl (v:=.agg (writerC [a0,a1,a2,a3,a4,a5,a6,a7] (.slice p2 l.length c2) 0 false)) (fun w=>by kernel_rfl) ?_;refine Fx.nw rfl rfl rfl (fun b=>Or.inr (fun w h=>h.drop.dropL)) ?_;intro b
  repeat(refine Fx.stA rfl rfl rfl rfl rfl (Or.inl rfl) ?_)
  clear hst;intro w' hst;simp only[Fx.nxt_some,Fx.nxt_none,Fx.mkO_cons,Fx.mkO_nil,Fx.evO_eq];clear hsrc e10 e0;obtain⟨Z,hZ⟩:∃Z:Nat,(119-(l.length:Int))%64=(Z:Int):=⟨(119-l.length)%64,by omega⟩;have HZN:Hid (Z=(119-l.length)%64):=Lib.hid (by omega);have hZ64:Z<64:=by omega
  have hl0:(l.length:Int)≤119:=by omega
  go_wp2_with (with_reducible refine xd rfl rfl rfl hst ?_);rw[hZ]
  have HP:Hid (l++ls ((⟨#[128]⟩++mkS (List.replicate Z 0))++putF (8*(many:Int)) 8)=padded l many):=Lib.hid (by
   unfold padded;rw[←HZN.out];simp only[ls_append,ls_mkS,putL]
   rfl)
  have HPL:Hid ((l++ls ((⟨#[128]⟩++mkS (List.replicate Z 0))++putF (8*(many:Int)) 8)).length≤1000000):=Lib.hid (by
   have:=putF_size (8*(many:Int)) 8;simp only[List.length_append,ls_length,ByteArray.size_append,size_mkS,List.length_replicate];show l.length+(1+Z+_)≤_
   omega)
  have hZI:((Z:Nat):Int).toNat=Z:=rfl;refine Fx.goD (fun i=>i==1||i==2||i==11) (fun i=> !(i==7)) (fun _=>false) [0,4,5,6,7,8,9,1,2,3,10,11] rfl hst (by kernel_rfl) (by kernel_rfl) (by kernel_rfl) (by kernel_rfl) (by kernel_rfl) ?_
  repeat(first|refine Fx.val rfl rfl rfl rfl (Fx.e_mv rfl rfl) ?_|refine Fx.val rfl rfl rfl rfl (Fx.e_nil rfl rfl) ?_|refine Fx.fa rfl rfl rfl rfl rfl rfl ?_|refine Fx.ldD rfl rfl rfl rfl rfl rfl ?_|refine Fx.val rfl rfl rfl rfl (Fx.e_mul rfl rfl rfl (by omega)) ?_)
  refine Fx.call rfl rfl (fun w=>put_any (8*(many:Int)) 8 (by omega) w) rfl rfl (fun w=>by kernel_rfl) ?_;refine Fx.mkS (T:=5) (α:=Unit) (enc:=fun _=>[]) (k':=0) rfl rfl rfl rfl rfl _ (run_zeros Z (by omega)) ?_;intro b2;refine⟨Or.inr (fun w h=>h.data),?_⟩;refine Fx.rdS rfl rfl (v:=.string (mkS (List.replicate Z 0))) (fun w h=>?_) (Or.inr (fun w h=>h.data)) ?_
  ·exact e_cv rfl rfl (run_back (b:=b2) (n:=Z) (c:=Z) (l:=List.replicate Z 0) (by simp) (h.st.blk (b2,_,_) (List.mem_cons_self ..)))
  refine Fx.val rfl rfl rfl rfl (e_cat rfl rfl rfl (by rw[size_mkS,List.length_replicate];show 1+Z≤_;omega)) ?_;refine Fx.val rfl rfl rfl rfl (e_cat rfl rfl rfl (by have:=putF_size (8*(many:Int)) 8;rw[ByteArray.size_append,size_mkS,List.length_replicate];show 1+Z+_≤_;omega)) ?_;refine Fx.callS rfl rfl _ (fun w h=>take_sx h.drop hown hpn (by rfl) hG _ HPL.out) (fun w=>by kernel_rfl) ?_;rintro L' u ⟨rfl,p5,n5,c5,rfl⟩;refine⟨Or.inr (fun w h=>h.data),?_⟩;rw[HP.out];clear hst;intro w' hst;simp only[Fx.nxt_some,Fx.nxt_none,Fx.mkO_cons,Fx.mkO_nil,Fx.evO_eq];obtain⟨c0,c1,c2',c3,c4,c5',c6,c7,hA⟩:=len8 (absorb_len [a0,a1,a2,a3,a4,a5,a6,a7] (padded l many) hh ((padded l many).length / 64));rw[hA] at hst;have HF:Hid (finF [a0,a1,a2,a3,a4,a5,a6,a7] l many=shaOut [c0,c1,c2',c3,c4,c5',c6,c7]):=Lib.hid (by unfold finF;rw[hA]);clear hA HP HPL HZN hZI;go_wp2_with (with_reducible refine xa rfl rfl rfl hst ?_);have h0:=hst;clear hst;go_loopw [48] (fun iv wr=>∃k:Nat,k≤8∧iv=.int .i64 k∧∃v5,Sx [] w wr [(b,writerC [c0,c1,c2',c3,c4,c5',c6,c7] v5 0 false,240),(bn,(hashL (shaOut ([c0,c1,c2',c3,c4,c5',c6,c7].take k))).toArray,39)] (snap w) []) (fun i _=>8-(intOf i).toNat)
  case atStart=>exact⟨0,by omega,rfl,_,h0⟩
  case round=>
   obtain⟨k,hk,rfl,v5,hst⟩:=hrel
   by_cases hlt:k<8
   ·have HI:=idxV8 [c0,c1,c2',c3,c4,c5',c6,c7] rfl k hlt
    have HN:Hid (shaOut ([c0,c1,c2',c3,c4,c5',c6,c7].take (k+1))=shaOut ([c0,c1,c2',c3,c4,c5',c6,c7].take k)++putL (([c0,c1,c2',c3,c4,c5',c6,c7].getD k w0).val:Int) 4):=Lib.hid (shaOut_succ _ hlt);have HL:Hid ((shaOut ([c0,c1,c2',c3,c4,c5',c6,c7].take k)).length=4*k):=Lib.hid (by rw[shaOut_len,List.length_take];show 4*min k 8=_;omega);generalize [c0,c1,c2',c3,c4,c5',c6,c7].getD k w0=X at*;generalize shaOut ([c0,c1,c2',c3,c4,c5',c6,c7].take k)=out at*;go_wp2_with (first|fail |(refine xval rfl 51 rfl (v32 X) (fun w=>e_idx rfl rfl rfl (HI w)) ?_));refine Fx.go (fun i=>i==6) (fun _=>true) (fun i=>i==6) [0,1,2,3,4,5,6] rfl hst (by kernel_rfl) (by kernel_rfl) (by kernel_rfl) (by kernel_rfl) (by kernel_rfl) ?_
    repeat(first|refine Fx.val rfl rfl rfl rfl (Fx.e_mv rfl rfl) ?_|refine Fx.val rfl rfl rfl rfl (Fx.e_mul rfl rfl rfl (by omega)) ?_)
    refine Fx.val rfl rfl rfl rfl (v:=.slice (some ⟨bn,4*k,none⟩) (32-4*k) (32-4*k)) (fun w=>e_sl32 rfl rfl rfl (by omega) w) ?_
    repeat(refine Fx.val rfl rfl rfl rfl (Fx.e_mv rfl rfl) ?_)
    refine Fx.val rfl rfl rfl rfl (v:=.int .i64 (X.val:Int)) (fun w=>e_cv rfl rfl (run_conv_int X w)) ?_;refine Fx.call rfl rfl (fun w=>put_any (X.val:Int) 4 (by have:=X.lt;omega) w) rfl rfl (fun w=>by kernel_rfl) ?_;have hx4:(putF (X.val:Int) 4).size=4:=put4 X;refine Fx.cpS (C':=(hashL (out++putL (X.val:Int) 4)).toArray) rfl rfl rfl rfl rfl Tryz.underlying47 (by kernel_rfl) (by omega) (by rw[hx4];show 4*k+4≤32;omega) (by rw[hx4];exact hash_over HL.out (by rw[←hx4];rfl) (by omega)) rfl ?_;clear hst;intro w' hst;simp only[Fx.nxt_some,Fx.nxt_none,Fx.mkO_cons,Fx.mkO_nil,Fx.evO_eq];go_wp2_with fail;go_roundw
    case rel=>exact⟨k+1,by omega,by go_num,v5,by rw[HN.out];exact hst⟩
    case measure=>simp[intOf];omega
   ·obtain rfl:k=8:=by omega
    go_wp2_with (with_reducible first|refine xa rfl rfl rfl hst ?_|(refine xsa rfl rfl rfl rfl hst ?_;clear hst;intro w' hst));refine bodyPost_ret (results1 rfl (res_agg rfl hst.st.has)) rfl ⟨by rw[HF.out];rfl,hst.end⟩
 ·refine Fx.nw rfl rfl rfl (fun b=>Or.inr (fun w h=>h.drop)) ?_
  intro b;refine Fx.apn (T:=5) rfl rfl rfl rfl rfl (fun w hw=>hsrc w hw.data) (by omega) ?_;intro p2 c2 Lo hown hpn;refine⟨Or.inr (fun w h=>h.dropL.drop),?_⟩;refine Fx.val rfl rfl rfl rfl (v:=.agg (writerC [a0,a1,a2,a3,a4,a5,a6,a7] (.slice p2 l.length c2) 0 false)) (fun w=>by kernel_rfl) ?_
  repeat(refine Fx.stA rfl rfl rfl rfl rfl (Or.inl rfl) ?_)
  clear hst;intro w' hst;have hst:=hst.perm List.perm_middle;simp only[Fx.nxt_some,Fx.nxt_none,Fx.mkO_cons,Fx.mkO_nil,Fx.evO_eq];clear hsrc e10 e0;obtain⟨Z,hZ⟩:∃Z:Nat,(119-(l.length:Int))%64=(Z:Int):=⟨(119-l.length)%64,by omega⟩;have HZN:Hid (Z=(119-l.length)%64):=Lib.hid (by omega);have hZ64:Z<64:=by omega
  have hl0:(l.length:Int)≤119:=by omega
  go_wp2_with (with_reducible refine xd rfl rfl rfl hst ?_);rw[hZ]
  have HP:Hid (l++ls ((⟨#[128]⟩++mkS (List.replicate Z 0))++putF (8*(many:Int)) 8)=padded l many):=Lib.hid (by
   unfold padded;rw[←HZN.out];simp only[ls_append,ls_mkS,putL]
   rfl)
  have HPL:Hid ((l++ls ((⟨#[128]⟩++mkS (List.replicate Z 0))++putF (8*(many:Int)) 8)).length≤1000000):=Lib.hid (by
   have:=putF_size (8*(many:Int)) 8;simp only[List.length_append,ls_length,ByteArray.size_append,size_mkS,List.length_replicate];show l.length+(1+Z+_)≤_
   omega)
  have hZI:((Z:Nat):Int).toNat=Z:=rfl;refine Fx.goD (fun i=>i==1||i==2||i==11) (fun i=> !(i==7)) (fun _=>false) [0,4,5,6,7,8,9,1,2,3,10,11] rfl hst (by kernel_rfl) (by kernel_rfl) (by kernel_rfl) (by kernel_rfl) (by kernel_rfl) ?_
  repeat(first|refine Fx.val rfl rfl rfl rfl (Fx.e_mv rfl rfl) ?_|refine Fx.val rfl rfl rfl rfl (Fx.e_nil rfl rfl) ?_|refine Fx.fa rfl rfl rfl rfl rfl rfl ?_|refine Fx.ldD rfl rfl rfl rfl rfl rfl ?_|refine Fx.val rfl rfl rfl rfl (Fx.e_mul rfl rfl rfl (by omega)) ?_)
  refine Fx.call rfl rfl (fun w=>put_any (8*(many:Int)) 8 (by omega) w) rfl rfl (fun w=>by kernel_rfl) ?_;refine Fx.mkS (T:=5) (α:=Unit) (enc:=fun _=>[]) (k':=0) rfl rfl rfl rfl rfl _ (run_zeros Z (by omega)) ?_;intro b2;refine⟨Or.inr (fun w h=>h.data),?_⟩;refine Fx.rdS rfl rfl (v:=.string (mkS (List.replicate Z 0))) (fun w h=>?_) (Or.inr (fun w h=>h.data)) ?_
  ·exact e_cv rfl rfl (run_back (b:=b2) (n:=Z) (c:=Z) (l:=List.replicate Z 0) (by simp) (h.st.blk (b2,_,_) (List.mem_cons_self ..)))
  refine Fx.val rfl rfl rfl rfl (e_cat rfl rfl rfl (by rw[size_mkS,List.length_replicate];show 1+Z≤_;omega)) ?_;refine Fx.val rfl rfl rfl rfl (e_cat rfl rfl rfl (by have:=putF_size (8*(many:Int)) 8;rw[ByteArray.size_append,size_mkS,List.length_replicate];show 1+Z+_≤_;omega)) ?_;refine Fx.callS rfl rfl _ (fun w h=>take_sx h.drop hown hpn (by rfl) hG _ HPL.out) (fun w=>by kernel_rfl) ?_;rintro L' u ⟨rfl,p5,n5,c5,rfl⟩;refine⟨Or.inr (fun w h=>h.data),?_⟩;rw[HP.out];clear hst;intro w' hst;simp only[Fx.nxt_some,Fx.nxt_none,Fx.mkO_cons,Fx.mkO_nil,Fx.evO_eq];obtain⟨c0,c1,c2',c3,c4,c5',c6,c7,hA⟩:=len8 (absorb_len [a0,a1,a2,a3,a4,a5,a6,a7] (padded l many) hh ((padded l many).length / 64));rw[hA] at hst;have HF:Hid (finF [a0,a1,a2,a3,a4,a5,a6,a7] l many=shaOut [c0,c1,c2',c3,c4,c5',c6,c7]):=Lib.hid (by unfold finF;rw[hA]);clear hA HP HPL HZN hZI;go_wp2_with (with_reducible refine xa rfl rfl rfl hst ?_);have h0:=hst;clear hst;go_loopw [48] (fun iv wr=>∃k:Nat,k≤8∧iv=.int .i64 k∧∃v5,Sx [] w wr [(b,writerC [c0,c1,c2',c3,c4,c5',c6,c7] v5 0 false,240),(bn,(hashL (shaOut ([c0,c1,c2',c3,c4,c5',c6,c7].take k))).toArray,39)] (snap w) []) (fun i _=>8-(intOf i).toNat)
  case atStart=>exact⟨0,by omega,rfl,_,h0⟩
  case round=>
   obtain⟨k,hk,rfl,v5,hst⟩:=hrel
   by_cases hlt:k<8
   ·have HI:=idxV8 [c0,c1,c2',c3,c4,c5',c6,c7] rfl k hlt
    have HN:Hid (shaOut ([c0,c1,c2',c3,c4,c5',c6,c7].take (k+1))=shaOut ([c0,c1,c2',c3,c4,c5',c6,c7].take k)++putL (([c0,c1,c2',c3,c4,c5',c6,c7].getD k w0).val:Int) 4):=Lib.hid (shaOut_succ _ hlt);have HL:Hid ((shaOut ([c0,c1,c2',c3,c4,c5',c6,c7].take k)).length=4*k):=Lib.hid (by rw[shaOut_len,List.length_take];show 4*min k 8=_;omega);generalize [c0,c1,c2',c3,c4,c5',c6,c7].getD k w0=X at*;generalize shaOut ([c0,c1,c2',c3,c4,c5',c6,c7].take k)=out at*;go_wp2_with (first|fail |(refine xval rfl 51 rfl (v32 X) (fun w=>e_idx rfl rfl rfl (HI w)) ?_));refine Fx.go (fun i=>i==6) (fun _=>true) (fun i=>i==6) [0,1,2,3,4,5,6] rfl hst (by kernel_rfl) (by kernel_rfl) (by kernel_rfl) (by kernel_rfl) (by kernel_rfl) ?_
    repeat(first|refine Fx.val rfl rfl rfl rfl (Fx.e_mv rfl rfl) ?_|refine Fx.val rfl rfl rfl rfl (Fx.e_mul rfl rfl rfl (by omega)) ?_)
    refine Fx.val rfl rfl rfl rfl (v:=.slice (some ⟨bn,4*k,none⟩) (32-4*k) (32-4*k)) (fun w=>e_sl32 rfl rfl rfl (by omega) w) ?_
    repeat(refine Fx.val rfl rfl rfl rfl (Fx.e_mv rfl rfl) ?_)
    refine Fx.val rfl rfl rfl rfl (v:=.int .i64 (X.val:Int)) (fun w=>e_cv rfl rfl (run_conv_int X w)) ?_;refine Fx.call rfl rfl (fun w=>put_any (X.val:Int) 4 (by have:=X.lt;omega) w) rfl rfl (fun w=>by kernel_rfl) ?_;have hx4:(putF (X.val:Int) 4).size=4:=put4 X;refine Fx.cpS (C':=(hashL (out++putL (X.val:Int) 4)).toArray) rfl rfl rfl rfl rfl Tryz.underlying47 (by kernel_rfl) (by omega) (by rw[hx4];show 4*k+4≤32;omega) (by rw[hx4];exact hash_over HL.out (by rw[←hx4];rfl) (by omega)) rfl ?_;clear hst;intro w' hst;simp only[Fx.nxt_some,Fx.nxt_none,Fx.mkO_cons,Fx.mkO_nil,Fx.evO_eq];go_wp2_with fail;go_roundw
    case rel=>exact⟨k+1,by omega,by go_num,v5,by rw[HN.out];exact hst⟩
    case measure=>simp[intOf];omega
   ·obtain rfl:k=8:=by omega
    go_wp2_with (with_reducible first|refine xa rfl rfl rfl hst ?_|(refine xsa rfl rfl rfl rfl hst ?_;clear hst;intro w' hst));refine bodyPost_ret (results1 rfl (res_agg rfl hst.st.has)) rfl ⟨by rw[HF.out];rfl,hst.end⟩
def shaF (s:List UInt8):List UInt8:=finF (absorb shaB s (s.length / 64)) (s.drop (64*(s.length / 64))) s.length
set_option maxHeartbeats 1000000 in
theorem sha_calls (s:ByteArray) (hs:s.size≤1000000) (w:World) (hB:GBegin w) (hG:GSha w):Calls Tryz.prog 58 #[.string s] w (Ret (.agg (hashL (shaF (ls s))).toArray) w):=by
 have hst:=Sx.startN w;go_enter Tryz.func58,Tryz.ntmps58;go_wp2_with (with_reducible (refine xnw rfl rfl hst ?_;clear hst;intro bn w' hst));refine(snew_calls _ (hB.below hst.end)).mono ?_;rintro e w2 ⟨g,rfl,hs2⟩;have hst:=hst.take hs2;go_wp2_with fail;have ho:=Sx.toObj (L1:=[(g,writerC shaB (.slice none 0 0) 0 true,240)]) hst;have hg:=hst.st.blk (g,_,_) (List.mem_cons_self ..)
 have htab:2∉[g]:=fun hm=>by
  have h1:2<w.heap.size:=cell_lt (hG.at_ 0 (by decide));rcases ho.fS _ hm with h2 |h2
  ·simp at h2
  ·omega
 refine(swrite_calls g [] shaB [] 0 s (ls s) rfl (by rw[ls_length];exact hs) (by omega) _ ⟨rfl,⟨none,0,0,hg,Or.inl ⟨rfl,rfl⟩⟩,by simp,by simp,htab⟩ (hG.of_sx hst (by simp))).mono ?_;rintro e w3 ⟨rfl,F',hs3,hI,hF'⟩
 have ho:=ho.obj0 (F':=g::F') hs3 (fun x hx=>by
  rcases List.mem_cons.1 hx with rfl |hx
  ·exact Or.inl (by simp)
  ·exact Or.inr ((hF' x hx).resolve_left (by simp))) (fun x hx=>by
  obtain⟨_,⟨p',n',c',hg',_⟩,_,hold',_⟩:=hI;rcases List.mem_cons.1 hx with rfl |hx
  ·exact lt_of_heap' hg'
  ·exact hold' x hx)
 have hG3:=hG.of_sx ho (by simp);have HS:=Lib.hid (ssum_calls (by rw[List.length_drop];omega) (by omega) w3 hI hG3);clear hst hg hI;have hst:=ho;go_wp2_with (first|(with_reducible (refine xsa rfl rfl rfl rfl hst ?_;clear hst;intro w' hst))|(with_reducible (refine callB HS.out hst ?_;clear hst;intro w' hst)));refine bodyPost_ret (results1 rfl (res_agg rfl hst.st.has)) rfl ⟨by unfold shaF;simp only[ls_length,Nat.zero_add],hst.end⟩
end Go.Proofs.YtdkeiefgkgpcbaaGreatDoor
namespace Go.Proofs.YtdkeiefgkgpcbaaGreatDoor
open Go.RowKit
abbrev strL (s:ByteArray):List Value:=[.string s]
instance encStr:Enc strL 1:=⟨fun _=>rfl,fun x v hv=>by simp at hv;subst hv;rfl⟩
instance eltStr:Elt 9 1:=⟨.string ⟨#[]⟩,16,by kernel_rfl,rfl,by decide,by decide⟩
instance sltStr:SlT 37 9:=⟨Tryz.underlying37⟩
theorem absorb_pre {h:List W32} {s t:List UInt8}:∀ {k:Nat},64*k≤s.length→absorb h (s++t) k=absorb h s k
 |0,_=>by simp[absorb]
 |k+1,hk=>by
  rw[absorb_succ,absorb_succ,absorb_pre (by omega)];congr 1;rw[List.drop_append_of_le_length (by omega),List.take_append_of_le_length (by rw[List.length_drop];omega)]
theorem absorb_add (h:List W32) (l:List UInt8) (a:Nat):∀b:Nat,absorb h l (a+b)=absorb (absorb h l a) (l.drop (64*a)) b
 |0=>by simp[absorb]
 |b+1=>by
  rw[←Nat.add_assoc,absorb_succ,absorb_succ,absorb_add h l a b,List.drop_drop];congr 3;omega
theorem absorb_next (h:List W32) (s t:List UInt8):absorb (absorb h s (s.length / 64)) (s.drop (64*(s.length / 64))++t) ((s.drop (64*(s.length / 64))++t).length / 64)=absorb h (s++t) ((s++t).length / 64)∧
  (s.drop (64*(s.length / 64))++t).drop (64*((s.drop (64*(s.length / 64))++t).length / 64))=(s++t).drop (64*((s++t).length / 64)):=by
 have e1:s.drop (64*(s.length / 64))++t=(s++t).drop (64*(s.length / 64)):=by rw[List.drop_append_of_le_length (by omega)]
 have e2:(s++t).length / 64=s.length / 64+((s++t).drop (64*(s.length / 64))).length / 64:=by rw[List.length_drop,List.length_append];omega
 rw[e1];constructor
 ·conv=>rhs;rw[e2]
  rw[absorb_add,absorb_pre (by omega)]
 ·rw[List.drop_drop]
  congr 1;omega
def allB (l:List ByteArray):List UInt8:=l.flatMap ls
set_option maxHeartbeats 1000000 in
theorem all_calls {p:Option Addr} {c:Nat} {l:List ByteArray} (w:World) (hr:RowAt (snap w) 9 1 strL p c l) (hl:(allB l).length≤1000000) (hB:GBegin w) (hG:GSha w):Calls Tryz.prog 134 #[.slice p l.length c] w (Ret (.agg (hashL (shaF (allB l))).toArray) w):=by
 have hst:=Sx.start0 w (snap_holds w);have hbig:=hr.big;go_enter Tryz.func134,Tryz.ntmps134;go_wp2_with (with_reducible (refine xnw rfl rfl hst ?_;clear hst;intro bn w' hst));refine(snew_calls _ (hB.below hst.end)).mono ?_;rintro e w2 ⟨g,rfl,hs2⟩;have hst:=hst.take hs2;go_wp2_with fail;have ho:=Sx.toObj (L1:=[(g,writerC shaB (.slice none 0 0) 0 true,240)]) hst;have hg:=hst.st.blk (g,_,_) (List.mem_cons_self ..);have htl:2<w.heap.size:=cell_lt (hG.at_ 0 (by decide))
 have htab:2∉[g]:=fun hm=>by
  rcases ho.fS _ hm with h2 |h2
  ·simp at h2
  ·omega
 have hI:Isw w2 g [] shaB [] 0:=⟨rfl,⟨none,0,0,hg,Or.inl ⟨rfl,rfl⟩⟩,by simp,by simp,htab⟩;clear hst hg htab;go_loopw [9] (fun iv wr=>∃(k:Nat) (F':List Nat),k≤l.length∧iv=.int .i64 k∧Sx [] w wr [(bn,(hashL []).toArray,39)] (snap w) (g::F')∧Hid (Isw wr g F' (absorb shaB (allB (l.take k)) ((allB (l.take k)).length / 64)) ((allB (l.take k)).drop (64*((allB (l.take k)).length / 64))) (allB (l.take k)).length)) (fun iv _=>l.length-(intOf iv).toNat)
 case atStart=>exact⟨0,[],by omega,rfl,ho,Lib.hid (by simpa[allB,absorb] using hI)⟩
 case round=>
  obtain⟨k,F',hk,rfl,hst,HI⟩:=hrel
  by_cases hlt:k<l.length
  ·obtain⟨ga,off,rfl⟩:=hr.at_some hlt
   have hld:=hr.ld1 hlt rfl
   have HT:Hid (allB (l.take (k+1))=allB (l.take k)++ls l[k]∧(allB (l.take (k+1))).length≤1000000):=Lib.hid (by
    have e:allB (l.take (k+1))=allB (l.take k)++ls l[k]:=by unfold allB;rw[List.take_succ_eq_append_getElem hlt,List.flatMap_append];simp
    refine⟨e,?_⟩;have:allB l=allB (l.take (k+1))++allB (l.drop (k+1)):=by unfold allB;rw[←List.flatMap_append,List.take_append_drop]
    rw[this,List.length_append] at hl
    omega)
   have HW:=Lib.hid (fun(wx:World) (hx:Isw wx g F' (absorb shaB (allB (l.take k)) ((allB (l.take k)).length / 64)) ((allB (l.take k)).drop (64*((allB (l.take k)).length / 64))) (allB (l.take k)).length) (hGx:GSha wx)=>swrite_calls g F' _ _ (allB (l.take k)).length l[k] _ rfl (by
    have:=HT.out.2;rw[HT.out.1,List.length_append] at this;rw[List.length_append,List.length_drop];omega) (by
    have:=HT.out.2;rw[HT.out.1,List.length_append,ls_length] at this
    omega) wx hx hGx)
   generalize l[k]=t at*;go_wp2_with (first|(with_reducible refine xd rfl rfl rfl hst ?_));refine(HW.out _ (HI.out) (hG.of_sx hst (by simp))).mono ?_;rintro e w3 ⟨rfl,F'',hs3,hI3,hF'⟩
   have ho:=hst.obj0 (F':=g::F'') hs3 (fun x hx=>by
    rcases List.mem_cons.1 hx with rfl |hx
    ·exact Or.inl (by simp)
    ·exact(hF' x hx).imp (fun h=>List.mem_cons_of_mem _ h) id) (fun x hx=>by
    obtain⟨_,⟨p',n',c',hg',_⟩,_,hold',_⟩:=hI3;rcases List.mem_cons.1 hx with rfl |hx
    ·exact lt_of_heap' hg'
    ·exact hold' x hx)
   rw[(absorb_next _ _ _).1,(absorb_next shaB _ _).2,←HT.out.1] at hI3;have HI3:=Lib.hid hI3;clear hst HI hI3 HW;have hst:=ho;go_wp2_with (first|fail);go_roundw
   case rel=>exact⟨k+1,F'',by omega,by go_num,hst,Lib.hid (by
    have e:(allB (l.take (k+1))).length=(allB (l.take k)).length+t.size:=by rw[HT.out.1,List.length_append,ls_length]
    rw[e];rw[e] at HI3;exact HI3.out)⟩
   case measure=>simp[intOf];omega
  ·obtain rfl:k=l.length:=by omega
   rw[List.take_length] at HI;have HS:=Lib.hid (fun(wx:World) hx hGx=>ssum_calls (g:=g) (F:=F') (h:=absorb shaB (allB l) ((allB l).length / 64)) (l:=(allB l).drop (64*((allB l).length / 64))) (many:=(allB l).length) (by rw[List.length_drop];omega) (by omega) wx hx hGx);go_wp2_with (first|(with_reducible (refine xsa rfl rfl rfl rfl hst ?_;clear hst;intro w' hst))|(with_reducible (refine callB (HS.out _ HI.out (hG.of_sx hst (by simp))) hst ?_;clear hst;intro w' hst)));refine bodyPost_ret (results1 rfl (res_agg rfl hst.st.has)) rfl ⟨rfl,hst.end⟩
def leafF (s:List UInt8):List UInt8:=shaF (0::s)
set_option maxHeartbeats 1000000 in
theorem leaf_calls (s:ByteArray) (hs:s.size≤999999) (w:World) (hB:GBegin w) (hG:GSha w):Calls Tryz.prog 98 #[.string s] w (Ret (.agg (hashL (leafF (ls s))).toArray) w):=by
 have hst:=Sx.startN w;go_enter Tryz.func98,Tryz.ntmps98;go_wp2_with (first|(with_reducible (refine xnw rfl rfl hst ?_;clear hst;intro bn w' hst))|(with_reducible refine xmk rfl 4 rfl hst #[.string ⟨#[0]⟩,.string s] 9 (fun b=>.slice (some ⟨b,0,none⟩) 2 2) (fun w=>by kernel_rfl) ?_;clear hst;intro b w' hst));have HC:=Lib.hid (all_calls (l:=[⟨#[0]⟩,s]) w' (RowAt.ofBlock (g:=b) (C:=#[.string ⟨#[0]⟩,.string s]) (c:=2) ⟨_,hst.st.blk (b,_,_) (List.mem_cons_self ..)⟩ (by simp) (by simp) rfl) (by simp[allB,ls_length];show 1+_≤_;omega) (hB.below hst.end) (hG.below hst.end));go_wp2_with (first|(with_reducible (refine xsa rfl rfl rfl rfl hst ?_;clear hst;intro w' hst))|(with_reducible (refine callB HC.out hst ?_;clear hst;intro w' hst)));refine bodyPost_ret (results1 rfl (res_agg rfl hst.st.has)) rfl ⟨by simp[allB,leafF];rfl,hst.end⟩
theorem count_calls (n:Int) (hn: -9223372036854775808≤n∧n≤9223372036854775807) (w:World):Calls Tryz.prog 57 #[.int .i64 n] w (Ret (.int .i64 (pkCount n)) w):=by
 have hst:=Sx.startN w;go_enter Tryz.func57,Tryz.ntmps57;go_wp2_with fail
 ·go_ret
  exact⟨by unfold pkCount;rw[if_pos ‹n<0›];rfl,hst.end⟩
 ·go_ret
  exact⟨by unfold pkCount;rw[if_neg (by omega)];rfl,hst.end⟩
end Go.Proofs.YtdkeiefgkgpcbaaGreatDoor
namespace Go.Proofs.YtdkeiefgkgpcbaaGreatDoor
open Go.RowKit
theorem GSums.of_sx {S:List Nat} {w0 w:World} {L:List Blk} {D:Dat} {F:List Nat} (h:GSums w0) (hs:Sx S w0 w L D F) (hS:1∉S):GSums w:=
 ⟨fun i hi=>by
  have h1:=h.at_ i hi;have h2:=cell_lt h1
  exact(World.cell?_of_block (a:=⟨1,i,none⟩) (hs.st.kept _ h2 hS)).trans h1⟩
def packC (kind ep:Int) (v:Value):Array Value:=#[.int .u8 kind,.int .i64 ep,v]
instance fldP0:Fx.FldT 203 0 0:=⟨fun ad w=>by kernel_rfl⟩
instance fldP1:Fx.FldT 203 1 1:=⟨fun ad w=>by kernel_rfl⟩
instance fldP2:Fx.FldT 203 2 2:=⟨fun ad w=>by kernel_rfl⟩
instance pk0 (kind ep:Int) (v:Value):CellAt (packC kind ep v) 0 (.int .u8 kind):=⟨rfl⟩
instance pk1 (kind ep:Int) (v:Value):CellAt (packC kind ep v) 1 (.int .i64 ep):=⟨rfl⟩
instance pk2 (kind ep:Int) (v:Value):CellAt (packC kind ep v) 2 v:=⟨rfl⟩
instance pkw (kind ep:Int) (v:Value) (p:Option Addr) (n c:Nat):WrAt (packC kind ep v) 2 1 (.slice p n c) (packC kind ep (.slice p n c)):=⟨rfl,Nat.le_of_ble_eq_true rfl,fun x hx=>by simp[Value.cells] at hx;subst hx;rfl,by kernel_rfl⟩
instance oneStrs:OneT 37:=⟨fun w=>by kernel_rfl,by kernel_rfl⟩
section
variable {S:List Nat} {w0 w:World} {g:Nat} {kind ep:Int} {v:Value} {Lo L:List Blk} {D:Dat} {F:List Nat} {l:List ByteArray}
def AddPost (S:List Nat) (w0:World) (g:Nat) (kind ep:Int) (L:List Blk) (D:Dat) (F:List Nat) (l:List ByteArray) (r:List UInt8×Int) (e:Ending) (w':World):Prop:=
 ∃v' Lo',e=.returned (.int .i64 r.2)∧OwnR 9 1 strL Lo' v' (if r.2=0 then l++[mkS r.1] else l)∧Sx S w0 w' ((g,packC kind ep v',203)::(Lo'++L)) D F
set_option maxHeartbeats 1000000 in
theorem add_calls (hst:Sx S w0 w ((g,packC kind ep v,203)::(Lo++L)) D F) (hown:OwnR 9 1 strL Lo v l) (hl:l.length≤1000000) (hk:0≤kind∧kind<256) (he:ep≤9223372036854775807) (hG:GSums w0) (hS:1∉S) (part:ByteArray):
  Calls Tryz.prog 108 #[.pointer (some ⟨g,0,none⟩),.string part] w (AddPost S w0 g kind ep L D F l (frEnc ⟨kind,ep,l.length,part⟩)):=by
 obtain⟨p,c,rfl⟩:=hown.slice;have hst:=hst.perm List.perm_middle.symm;have HE:=Lib.hid (fun wx (hx:Sx S w0 wx (Lo++(g,packC kind ep (.slice p l.length c),203)::L) D F)=>frEnc_calls ⟨kind,ep,l.length,part⟩ hk he (by show(l.length:Int)≤_;omega) wx (hG.of_sx hx hS));generalize frEnc ⟨kind,ep,l.length,part⟩=r at*;go_enter Tryz.func108,Tryz.ntmps108;go_wp2_with fail;refine Fx.go (fun _=>false) (fun i=> !(i==3||i==7||i==11||i==15)) (fun _=>false) (List.range 21) rfl hst (by kernel_rfl) (by kernel_rfl) (by kernel_rfl) (by kernel_rfl) (by kernel_rfl) ?_;show Fx.wpLX _ _ _ [0,1,2,3,4,5,6,7,8,9,10,11,12,13,14,15,16,17,18,19,20] _ _
 repeat(first|refine Fx.val rfl rfl rfl rfl (Fx.e_mv rfl rfl) ?_|refine Fx.val rfl rfl rfl rfl (Fx.e_nil rfl rfl) ?_|refine Fx.fa rfl rfl rfl rfl rfl rfl ?_|refine Fx.l1 rfl rfl rfl rfl rfl rfl ?_|refine Fx.ln rfl rfl rfl rfl rfl rfl ?_)
 refine Fx.val rfl rfl rfl rfl (v:=.agg (frC ⟨kind,ep,l.length,part⟩)) (fun w=>by kernel_rfl) ?_;refine Fx.callB rfl rfl (fun w h=>h) (fun w h=>HE.out w h) rfl rfl (fun w=>by kernel_rfl) ?_
 repeat(refine Fx.val rfl rfl rfl rfl (Fx.e_mv rfl rfl) ?_)
 refine Fx.val rfl rfl rfl rfl (v:=.string (mkS r.1)) (fun w=>by kernel_rfl) ?_;refine Fx.val rfl rfl rfl rfl (v:=.int .i64 r.2) (fun w=>by kernel_rfl) ?_
 repeat(refine Fx.val rfl rfl rfl rfl (Fx.e_as rfl rfl) ?_)
 clear hst;intro w' hst;simp only[Fx.nxt_some,Fx.nxt_none,Fx.mkO_cons,Fx.mkO_nil,Fx.evO_eq];clear HE;go_wp2_with (first|(with_reducible first|refine x1 rfl rfl rfl hst ?_|(refine xsl rfl rfl rfl rfl hst ?_;clear hst;intro w' hst))|(with_reducible refine xmk rfl 34 rfl hst #[.string (mkS r.1)] 9 (fun b=>.slice (some ⟨b,0,none⟩) 1 1) (fun w=>by kernel_rfl) ?_;clear hst;intro b w' hst)|(with_reducible refine xap1 (T:=9) rfl _ _ rfl (mkS r.1) rfl rfl rfl hst hown rfl (by omega) ?_;clear hst;intro p4 c4 w4 Lo4 hown4 hst))
 ·go_ret
  exact⟨_,Lo4,rfl,by rw[if_pos (by simp_all)];simpa using hown4,hst.perm List.perm_middle⟩
 ·go_ret
  exact⟨_,Lo,rfl,by rw[if_neg (by simp_all)];exact hown,hst.perm List.perm_middle⟩
def partB (s:List UInt8) (i:Nat):List UInt8:=(s.drop (112*i)).take 112
def splB (kind ep:Int) (s:List UInt8) (i:Nat):ByteArray:=mkS (frEnc ⟨kind,ep,i,mkS (partB s i)⟩).1
def frErr (kind ep:Int):Int:=if kind=68∨kind=80∨kind=83 then if ep<1∨1073741824<ep then 2 else 0 else 2
theorem frEnc_err {kind ep:Int} {i:Nat} {d:ByteArray} (hi:i≤65535) (hd:d.size≤112):(frEnc ⟨kind,ep,i,d⟩).2=frErr kind ep:=by
 have:frCheck ⟨kind,ep,i,d⟩=frErr kind ep:=by
  unfold frCheck frErr;simp only;split
  ·have h1:(ep<1∨1073741824<ep∨(i:Int)<0∨65535<(i:Int))↔(ep<1∨1073741824<ep):=by omega
   have h2:¬((112:Int)<d.size):=by omega
   simp[h1,h2]
  ·rfl
 unfold frEnc;rw[this];split
 ·simp[*]
 ·rfl
def EachPost (S:List Nat) (w0:World) (g:Nat) (kind ep:Int) (L:List Blk) (D:Dat) (F:List Nat) (s:List UInt8) (e:Ending) (w':World):Prop:=
 ∃v' Lo',e=.returned (.int .i64 (frErr kind ep))∧(frErr kind ep=0→OwnR 9 1 strL Lo' v' ((List.range (pkCount s.length).toNat).map (splB kind ep s)))∧Sx S w0 w' ((g,packC kind ep v',203)::(Lo'++L)) D F
set_option maxHeartbeats 1000000 in
theorem each_calls (s:ByteArray) (hs:(pkCount s.size)≤65536) (hst:Sx S w0 w ((g,packC kind ep (.slice none 0 0),203)::L) D F) (hk:0≤kind∧kind<256) (he:ep≤9223372036854775807) (hG:GSums w0) (hS:1∉S):
  Calls Tryz.prog 107 #[.string s,.func (.func 108) #[.pointer (some ⟨g,0,none⟩)] #[]] w (EachPost S w0 g kind ep L D F (ls s)):=by
 go_enter Tryz.func107,Tryz.ntmps107;go_wp2_with fail;go_loopw [0] (fun tv wr=>∃(k:Nat) (t:ByteArray) (v':Value) (Lo':List Blk),tv=.string t∧Hid (k<(pkCount s.size).toNat∧ls t=(ls s).drop (112*k)∧OwnR 9 1 strL Lo' v' ((List.range k).map (splB kind ep (ls s))))∧Sx S w0 wr ((g,packC kind ep v',203)::(Lo'++L)) D F) (fun tv _=>match tv with | .string t=>t.size |_=>0)
 case atStart=>exact⟨0,s,_,[],rfl,Lib.hid ⟨by unfold pkCount;rw[if_neg (by omega)];omega,by simp,OwnR.none _⟩,hst⟩
 case round=>
  obtain⟨k,t,v',Lo',rfl,HO,hst⟩:=hrel;obtain⟨hkc,ht,hown⟩:=HO.out;clear HO;have hts:t.size=s.size-112*k:=by rw[←ls_length,ht,List.length_drop,ls_length]
  have hc0:pkCount (s.size:Int)=max 1 ((s.size:Int) / 112+min 1 ((s.size:Int)%112)):=by unfold pkCount;rw[if_neg (by omega)]
  have hk2:112*k≤s.size:=by omega
  by_cases hlt:t.size≤112
  ·have hmin:min (t.size:Int) 112=(t.size:Int):=by omega
   have hcount:(pkCount (s.size:Int)).toNat=k+1:=by omega
   have hpart:splB kind ep (ls s) k=mkS (frEnc ⟨kind,ep,k,t⟩).1:=by
    unfold splB partB;rw[←ht,List.take_of_length_le (by rw[ls_length];exact hlt)];rfl
   have HA:=Lib.hid (add_calls hst hown (by simp;omega) hk he hG hS t);have HE:=Lib.hid (frEnc_err (kind:=kind) (ep:=ep) (i:=k) (d:=t) (by omega) hlt);have HP:=Lib.hid hpart;have HC:=Lib.hid hcount;clear hpart hcount hc0 hts ht hown hk2 hst hkc;go_wp2_with fail;simp only[List.length_map,List.length_range] at HA;refine HA.out.mono ?_;rintro e w2 ⟨v2,Lo2,rfl,hown2,hst⟩;rw[HE.out] at hown2 ⊢;rw[←HP.out] at hown2;have HR:=Lib.hid hown2;clear hown2 HA HP HE;generalize hfe:frErr kind ep=fe at*
   by_cases hfz:fe=0
   ·subst hfz
    go_wp2_with fail;go_ret;refine⟨v2,Lo2,by rw[hfe];rfl,fun _=>?_,hst⟩;have:=HR.out;simp only[if_true] at this;rw[ls_length,HC.out,List.range_succ,List.map_append];exact this
   ·go_wp2_with fail
    go_ret;exact⟨v2,Lo2,by rw[hfe];rfl,fun h=>absurd (hfe.symm.trans h) hfz,hst⟩
  ·have hmin:min (t.size:Int) 112=112:=by omega
   have hpart:splB kind ep (ls s) k=mkS (frEnc ⟨kind,ep,k,t.extract 0 112⟩).1:=by
    unfold splB partB;rw[←ht,show t.extract 0 112=t.extract 0 (0+112) from rfl,text_extract];rfl
   have HA:=Lib.hid (add_calls hst hown (by simp;omega) hk he hG hS (t.extract 0 112));have HE:=Lib.hid (frEnc_err (kind:=kind) (ep:=ep) (i:=k) (d:=t.extract 0 112) (by omega) (by rw[ByteArray.size_extract];omega));have HP:=Lib.hid hpart
   have HN:Hid (k+1<(pkCount (s.size:Int)).toNat∧ls (t.extract 112 t.size)=(ls s).drop (112*(k+1))):=Lib.hid ⟨by omega,by
    rw[show t.size=112+(t.size-112) by omega,text_extract,ls_mkS];unfold sub;rw[List.take_of_length_le (by rw[List.length_drop,ls_length];omega),ht,List.drop_drop]
    congr 1⟩
   have HZ:Hid ((t.extract 112 t.size).size<t.size):=Lib.hid (by rw[ByteArray.size_extract];omega);clear hpart hc0 hts ht hown hk2 hst hkc;go_wp2_with fail;simp only[List.length_map,List.length_range] at HA;refine HA.out.mono ?_;rintro e w2 ⟨v2,Lo2,rfl,hown2,hst⟩;rw[HE.out] at hown2 ⊢;rw[←HP.out] at hown2;have HR:=Lib.hid hown2;clear hown2 HA HP HE;generalize hfe:frErr kind ep=fe at*
   by_cases hfz:fe=0
   ·subst hfz
    have hne:¬((112:Int)=t.size):=by omega
    go_wp2_with fail;go_roundw
    case rel=>exact⟨k+1,_,v2,Lo2,rfl,Lib.hid ⟨HN.out.1,HN.out.2,by
     have:=HR.out;simp only[if_true] at this;rw[List.range_succ,List.map_append]
     exact this⟩,hst⟩
    case measure=>exact HZ.out
   ·go_wp2_with fail
    go_ret;exact⟨v2,Lo2,by rw[hfe];rfl,fun h=>absurd (hfe.symm.trans h) hfz,hst⟩
def splE (kind ep:Int) (n:Int):Int:=if 65536<pkCount n then 3 else frErr kind ep
def SplitPost (w:World) (kind ep:Int) (s:List UInt8) (e:Ending) (w':World):Prop:=
 ∃v Lo,e=.returned (.tuple #[v,.int .i64 (splE kind ep s.length)])∧(∃p n c,v=.slice p n c)∧(splE kind ep s.length=0→OwnR 9 1 strL Lo v ((List.range (pkCount s.length).toNat).map (splB kind ep s)))∧St [] w w' Lo
instance zeroPack:ZeroT 203 (packC 0 0 (.slice none 0 0)):=.agg fun w=>by kernel_rfl
set_option maxHeartbeats 1000000 in
theorem split_calls (s:ByteArray) (hs:s.size≤1000000000) (hk:0≤kind∧kind<256) (he:ep≤9223372036854775807) (hG:GSums w):
  Calls Tryz.prog 62 #[.int .u8 kind,.int .i64 ep,.string s] w (SplitPost w kind ep (ls s)):=by
 have hst:=Sx.startN w;have HC:=Lib.hid (count_calls (s.size:Int) (by omega));generalize hn:pkCount (s.size:Int)=n at*;go_enter Tryz.func62,Tryz.ntmps62;go_wp2_with (first|(with_reducible (refine xba rfl rfl hst rfl ?_;clear hst;intro bb w' hst))|(with_reducible (refine callB (HC.out _) hst ?_;clear hst;intro w' hst)))
 ·go_ret2
  have h1:splE kind ep (ls s).length=3:=by unfold splE;rw[ls_length,hn,if_pos (by assumption)]
  refine⟨_,[],by rw[h1];rfl,⟨_,_,_,rfl⟩,fun h=>?_,hst.endF⟩;rw[h1] at h
  cases h
 ·have h1:splE kind ep (ls s).length=frErr kind ep:=by unfold splE;rw[ls_length,hn,if_neg (by omega)]
  refine(each_calls (L:=[]) s (by rw[hn];assumption) hst hk he hG (by simp)).mono ?_;rintro e w2 ⟨v2,Lo2,rfl,hown2,hst⟩;have HR:=Lib.hid hown2;have H1:=Lib.hid h1;clear hown2 h1 HC;generalize hfe:frErr kind ep=fe at*
  by_cases hfz:fe=0
  ·subst hfz
   have hown:=HR.out rfl;obtain⟨p,c,rfl⟩:=hown.slice;simp only[List.length_map,List.length_range] at hown hst ⊢;have HO:=Lib.hid hown;clear hown HR;go_wp2_with (with_reducible refine x1 rfl rfl rfl hst ?_);go_ret2;exact⟨_,Lo2,by rw[H1.out];rfl,⟨_,_,_,rfl⟩,fun _=>HO.out,by simpa using hst.drop.st⟩
  ·go_wp2_with fail
   go_ret2;exact⟨_,[],by rw[H1.out];rfl,⟨_,_,_,rfl⟩,fun h=>absurd (H1.out.symm.trans h) hfz,hst.endF⟩
end
end Go.Proofs.YtdkeiefgkgpcbaaGreatDoor
