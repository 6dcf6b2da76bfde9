/- Steps of the proof: Sums, Mem2, Frame, FrameText, FrameEnc. -/
import Derived.Laws.BitsAllLaws
import Derived.Lib.ConvBytes
import Derived.Deep.Cut
import Derived.Test.YtdkeiefgkgpcbaaGreatDoorP05
set_option linter.unusedVariables false
set_option linter.unusedSimpArgs false
set_option maxRecDepth 100000
set_option maxRecDepth 1000000
namespace Go.Proofs.YtdkeiefgkgpcbaaGreatDoor
open Go.RowKit Go.Shelf Go.Lib
def sumsT:List Nat:=[0,498536548,997073096,651767980,1994146192,1802195444,1303535960,1342533948,3988292384,4027552580,3604390888,3412177804,2607071920,2262029012,2685067896,3183342108]
theorem sumsT_lt (i:Nat):sumsT.getD i 0<4294967296:=by
 by_cases h:i<16
 ·have:∀i<16,sumsT.getD i 0<4294967296:=by decide
  exact this i h
 ·simp[sumsT,show 16≤i by omega]
def crc4 (r:Nat):Nat:=(r / 16) ^^^ sumsT.getD (r&&& 15) 0
def crcB (r:Nat) (c:UInt8):Nat:=crc4 (crc4 (r ^^^ c.toNat))
def crc (l:List UInt8):Nat:=4294967295 ^^^ l.foldl crcB 4294967295
theorem cell_lt {w:World} {a:Addr} {u:Value} (h:w.cell? a=some u):a.block<w.heap.size:=by
 exact World.block_lt_of_cell? _ _ h
structure GSums (w:World):Prop where
 at_:∀i,i<16→w.cell? ⟨1,i,none⟩=some (.int .u32 (sumsT.getD i 0:Nat))
theorem GSums.below {w w':World} (h:GSums w) (hb:Below w.heap.size w w'):GSums w':=
 ⟨fun i hi=>(hb.cell (p:=⟨_,i,none⟩) (by have:=h.at_ i hi;exact cell_lt this)).trans (h.at_ i hi)⟩
section
variable {ops:Array Oper} {rest:List Oper} {o:Oper} {a:Act} {w:World} {Q:Exit→Act→World→Prop}
theorem bytesWorld_below (w:World) (e:TypeId) (s:ByteArray):Below w.heap.size w (Lib.bytesWorld w e s):=
 ⟨rfl,rfl,rfl,by rw[Lib.bytesWorld_size];omega,fun k hk=>Lib.bytesWorld_at_old w e s k hk⟩
theorem wpList_s2b (hw:Region.wanted o (yielded ops a.tmps)=true) (x:Operand) (ho:o.op=.convert 9 47 x) (s:ByteArray) (hx:a.eval x=.string s)
  (hk:∀(b cap:Nat) (w':World),Below w.heap.size w w'→w.heap.size≤b→(∀j,j<s.size→w'.cell? ⟨b,j,none⟩=some (.int .u8 ((ls s).getD j 0).toNat))→
   wpList Tryz.prog ops Q rest (a.put o.dst (.slice (some ⟨b,0,none⟩) s.size cap)) w'):wpList Tryz.prog ops Q (o::rest) a w:=
 BigFrame.wpList_want hw fun K hK=>by
  unfold Oper.wp execOp;simp only[ho,hx,Sem.run_bind,Lib.run_convert_string_bytes w _ _ _ s Tryz.underlying9 Tryz.underlying47 Tryz.underlying5,Result.andThen_ok];exact hK _ _ (hk _ _ _ (bytesWorld_below w _ s) (Nat.le_refl _) (fun j hj=>Lib.bytesWorld_cell w _ s j hj))
end
set_option maxHeartbeats 4000000 in
theorem more_calls (s:ByteArray) (w:World) (hs:s.size≤1000000) (hG:GSums w):
  Calls Tryz.prog 153 #[.int .u32 0,.string s] w fun e w'=>e=.returned (.int .u32 (crc (ls s):Nat))∧Below w.heap.size w w':=by
 have e0:bits .xor .u32 IntKind.u32.max 0=4294967295:=by decide
 have sg:IntKind.u32.signed=false:=rfl;go_enter Tryz.func153,Tryz.ntmps153;go_wp2_with (with_reducible refine wpList_s2b rfl _ rfl _ rfl ?_;intro bb cap w1 hb1 hbb hcells);have hG1:=hG.below hb1;clear hG e0;have HL:Hid (∀j,j<s.size→w1.cell? ⟨bb,j,none⟩=some (.int .u8 ((ls s).getD j 0).toNat)):=Lib.hid hcells;clear hcells;go_loopw [5,13] (fun r iv wr=>∃(k x:Nat),k≤s.size∧iv=.int .i64 k∧r=.int .u32 x∧x<4294967296∧wr=w1∧x=((ls s).take k).foldl crcB 4294967295) (fun _ i _=>s.size-(RowKit.intOf i).toNat)
 case atStart=>exact⟨0,4294967295,by omega,rfl,rfl,by omega,rfl,rfl⟩
 case round=>
  obtain⟨k,x,hk,rfl,rfl,hx,rfl,hfold⟩:=hrel
  by_cases hlt:k<s.size
  ·have hc:=HL.out k hlt
   have HF:=Lib.hid hfold;have hlen:k<(ls s).length:=hlt;have hcg:(ls s).getD k 0=(ls s)[k]:=by simp[List.getD,hlen]
   clear hfold;rw[hcg] at hc;generalize hcc:(ls s)[k]=c at*;have hcl:c.toNat<256:=c.toNat_lt;have e1:bits .xor .u32 (x:Int) (c.toNat:Int)=((x ^^^ c.toNat:Nat):Int):=u32_xor_nat x c.toNat hx (by omega);obtain⟨x1,hx1⟩:∃x1,x ^^^ c.toNat=x1:=⟨_,rfl⟩;have hl1:x1<4294967296:=by rw[←hx1];exact Nat.xor_lt_two_pow (n:=32) hx (by omega)
   rw[hx1] at e1;obtain⟨i1,hi1⟩:∃i1,x1&&& 15=i1:=⟨_,rfl⟩;have hil1:i1<16:=by rw[←hi1];exact Nat.lt_of_le_of_lt Nat.and_le_right (by omega)
   have a1:bits .and .u32 (x1:Int) 15=(i1:Int):=by rw[←hi1];exact u32_and_nat x1 15 hl1 (by omega)
   have g1:=hG1.at_ i1 hil1;have ht1:=sumsT_lt i1;obtain⟨t1,htt1⟩:∃t1,sumsT.getD i1 0=t1:=⟨_,rfl⟩;rw[htt1] at g1 ht1;obtain⟨x2,hx2⟩:∃x2,x1 / 16 ^^^ t1=x2:=⟨_,rfl⟩;have hl2:x2<4294967296:=by rw[←hx2];exact Nat.xor_lt_two_pow (n:=32) (by omega) (by omega)
   have b1:bits .xor .u32 ((x1:Int) / 16) (t1:Int)=(x2:Int):=by rw[←hx2];exact u32_xor_nat (x1 / 16) t1 (by omega) ht1
   obtain⟨i2,hi2⟩:∃i2,x2&&& 15=i2:=⟨_,rfl⟩;have hil2:i2<16:=by rw[←hi2];exact Nat.lt_of_le_of_lt Nat.and_le_right (by omega)
   have a2:bits .and .u32 (x2:Int) 15=(i2:Int):=by rw[←hi2];exact u32_and_nat x2 15 hl2 (by omega)
   have g2:=hG1.at_ i2 hil2;have ht2:=sumsT_lt i2;obtain⟨t2,htt2⟩:∃t2,sumsT.getD i2 0=t2:=⟨_,rfl⟩;rw[htt2] at g2 ht2;obtain⟨x3,hx3⟩:∃x3,x2 / 16 ^^^ t2=x3:=⟨_,rfl⟩;have hl3:x3<4294967296:=by rw[←hx3];exact Nat.xor_lt_two_pow (n:=32) (by omega) (by omega)
   have b2:bits .xor .u32 ((x2:Int) / 16) (t2:Int)=(x3:Int):=by rw[←hx3];exact u32_xor_nat (x2 / 16) t2 (by omega) ht2
   have HS:Hid (x3=((ls s).take (k+1)).foldl crcB 4294967295):=Lib.hid (by
    rw[List.take_add_one,List.foldl_append,←HF.out,List.getElem?_eq_getElem hlen,hcc]
    simp only[Option.toList,List.foldl_cons,List.foldl_nil,crcB,crc4,hx1,hi1,htt1,hx2,hi2,htt2,hx3])
   clear hx1 hi1 htt1 hx2 hi2 htt2 hx3 hcc hcg hlen HF hx;go_wp2;go_roundw
   case rel=>exact⟨k+1,x3,by omega,by first|rfl |simp,rfl,hl3,trivial,HS.out⟩
   case measure=>simp[RowKit.intOf];omega
  ·obtain rfl:k=s.size:=by omega
   have ha:bits .xor .u32 IntKind.u32.max (x:Int)=((4294967295 ^^^ x:Nat):Int):=u32_xor_nat 4294967295 x (by omega) hx
   have HS:Hid (crc (ls s)=4294967295 ^^^ x):=Lib.hid (by
    rw[hfold,List.take_of_length_le (by rw[ls_length];omega)];rfl)
   clear hfold hx;go_wp2;go_ret;exact⟨by rw[HS.out];rfl,hb1⟩
theorem sum_calls (s:ByteArray) (w:World) (hs:s.size≤1000000) (hG:GSums w):
  Calls Tryz.prog 124 #[.string s] w fun e w'=>e=.returned (.int .u32 (crc (ls s):Nat))∧Below w.heap.size w w':=by
 go_enter Tryz.func124,Tryz.ntmps124;go_wp2_with fail;refine(more_calls s w hs hG).mono ?_;rintro e w' ⟨rfl,hb⟩;go_wp2_with fail;go_ret;exact⟨rfl,hb⟩
end Go.Proofs.YtdkeiefgkgpcbaaGreatDoor
namespace Go.Proofs.YtdkeiefgkgpcbaaGreatDoor
open Go.RowKit
class OneC (v:Value):Prop where
 cells:v.cells=#[v]
 one:v.oneCell'=true
instance (k:IntKind) (x:Int):OneC (.int k x):=⟨rfl,rfl⟩
instance (x:ByteArray):OneC (.string x):=⟨rfl,rfl⟩
instance (x:Bool):OneC (.bool x):=⟨rfl,rfl⟩
instance (a:Option Addr) (l c:Nat):OneC (.slice a l c):=⟨rfl,rfl⟩
instance (a:Option Addr):OneC (.pointer a):=⟨rfl,rfl⟩
class ZeroT (T:TypeId) (C:outParam (Array Value)):Prop where run:∀w:World,∃v:Value,(zeroValue T).run Tryz.prog w=.ok v w∧v.cells=C
theorem ZeroT.agg {T:TypeId} {C:Array Value} (h:∀w:World,(zeroValue T).run Tryz.prog w=.ok (.agg C) w):ZeroT T C:=⟨fun w=>⟨_,h w,rfl⟩⟩
theorem ZeroT.one {T:TypeId} {v:Value} [o:OneC v] (h:∀w:World,(zeroValue T).run Tryz.prog w=.ok v w):ZeroT T #[v]:=⟨fun w=>⟨_,h w,o.cells⟩⟩
theorem newVar_one (T:TypeId) (v:Value) (w:World):(newVar T v).run Tryz.prog w=.ok ⟨w.heap.size,0,none⟩ (w.alloc (.cells v.cells T)):=by
 cases v<;>rfl
section
variable {ops:Array Oper} {rest:List Oper} {o:Oper} {a:Act} {w:World} {Q:Exit→Act→World→Prop} {S:List Nat} {w0:World} {L:List Blk}
theorem l1 (hw:Region.wanted o (yielded ops a.tmps)=true) {T:TypeId} {x:Operand} (ho:o.op=.load T x) {g off:Nat} (hx:a.eval x=.pointer (some ⟨g,off,none⟩)) (h:St S w0 w L)
  {C:Array Value} {Tb:TypeId} {v:Value} [OneT T] [Has L g C Tb] [CellAt C off v] (hk:wpList Tryz.prog ops Q rest (a.put o.dst v) w):wpList Tryz.prog ops Q (o::rest) a w:=wpList_ld hw _ _ ho _ _ hx h hk
theorem la (hw:Region.wanted o (yielded ops a.tmps)=true) {T:TypeId} {x:Operand} (ho:o.op=.load T x) {g off:Nat} (hx:a.eval x=.pointer (some ⟨g,off,none⟩)) (h:St S w0 w L)
  {C:Array Value} {Tb:TypeId} {n:Nat} {cs:List Value} [AggT T n] [Has L g C Tb] [PartAt C off n cs] (hk:wpList Tryz.prog ops Q rest (a.put o.dst (.agg cs.toArray)) w):wpList Tryz.prog ops Q (o::rest) a w:=wpList_lda hw _ _ ho _ _ hx h hk
section
variable {T:TypeId} {x y:Operand} {g off:Nat} {C C':Array Value} {Tb:TypeId} {n:Nat} {L':List Blk}
theorem si (hw:Region.wanted o (yielded ops a.tmps)=true) (ho:o.op=.store T x y) (hx:a.eval x=.pointer (some ⟨g,off,none⟩)) {k:IntKind} {z:Int} (hy:a.eval y=.int k z) (h:St S w0 w L)
  [SizeT T n] [Has L g C Tb] [WrAt C off n (.int k z) C'] [Upd L g C Tb C' L'] (hk:∀w',St S w0 w' L'→wpList Tryz.prog ops Q rest (a.put o.dst undef) w'):wpList Tryz.prog ops Q (o::rest) a w:=wpList_st hw T x y ho g off hx _ hy h hk
theorem ss (hw:Region.wanted o (yielded ops a.tmps)=true) (ho:o.op=.store T x y) (hx:a.eval x=.pointer (some ⟨g,off,none⟩)) {z:ByteArray} (hy:a.eval y=.string z) (h:St S w0 w L)
  [SizeT T n] [Has L g C Tb] [WrAt C off n (.string z) C'] [Upd L g C Tb C' L'] (hk:∀w',St S w0 w' L'→wpList Tryz.prog ops Q rest (a.put o.dst undef) w'):wpList Tryz.prog ops Q (o::rest) a w:=wpList_st hw T x y ho g off hx _ hy h hk
theorem sb (hw:Region.wanted o (yielded ops a.tmps)=true) (ho:o.op=.store T x y) (hx:a.eval x=.pointer (some ⟨g,off,none⟩)) {z:Bool} (hy:a.eval y=.bool z) (h:St S w0 w L)
  [SizeT T n] [Has L g C Tb] [WrAt C off n (.bool z) C'] [Upd L g C Tb C' L'] (hk:∀w',St S w0 w' L'→wpList Tryz.prog ops Q rest (a.put o.dst undef) w'):wpList Tryz.prog ops Q (o::rest) a w:=wpList_st hw T x y ho g off hx _ hy h hk
theorem sl (hw:Region.wanted o (yielded ops a.tmps)=true) (ho:o.op=.store T x y) (hx:a.eval x=.pointer (some ⟨g,off,none⟩)) {z:Option Addr} {l c:Nat} (hy:a.eval y=.slice z l c) (h:St S w0 w L)
  [SizeT T n] [Has L g C Tb] [WrAt C off n (.slice z l c) C'] [Upd L g C Tb C' L'] (hk:∀w',St S w0 w' L'→wpList Tryz.prog ops Q rest (a.put o.dst undef) w'):wpList Tryz.prog ops Q (o::rest) a w:=wpList_st hw T x y ho g off hx _ hy h hk
theorem sp (hw:Region.wanted o (yielded ops a.tmps)=true) (ho:o.op=.store T x y) (hx:a.eval x=.pointer (some ⟨g,off,none⟩)) {z:Option Addr} (hy:a.eval y=.pointer z) (h:St S w0 w L)
  [SizeT T n] [Has L g C Tb] [WrAt C off n (.pointer z) C'] [Upd L g C Tb C' L'] (hk:∀w',St S w0 w' L'→wpList Tryz.prog ops Q rest (a.put o.dst undef) w'):wpList Tryz.prog ops Q (o::rest) a w:=wpList_st hw T x y ho g off hx _ hy h hk
theorem sa (hw:Region.wanted o (yielded ops a.tmps)=true) (ho:o.op=.store T x y) (hx:a.eval x=.pointer (some ⟨g,off,none⟩)) {z:Array Value} (hy:a.eval y=.agg z) (h:St S w0 w L)
  [SizeT T n] [Has L g C Tb] [WrAt C off n (.agg z) C'] [Upd L g C Tb C' L'] (hk:∀w',St S w0 w' L'→wpList Tryz.prog ops Q rest (a.put o.dst undef) w'):wpList Tryz.prog ops Q (o::rest) a w:=wpList_st hw T x y ho g off hx _ hy h hk
end
theorem nw (hw:Region.wanted o (yielded ops a.tmps)=true) {T:TypeId} (ho:o.op=.alloc T) (h:St S w0 w L) {C:Array Value} [z:ZeroT T C]
  (hk:∀(b:Nat) (w':World),St S w0 w' ((b,C,T)::L)→wpList Tryz.prog ops Q rest (a.put o.dst (.pointer (some ⟨b,0,none⟩))) w'):wpList Tryz.prog ops Q (o::rest) a w:=
 BigFrame.wpList_want hw fun K hK=>by
  obtain⟨v,hz,rfl⟩:=z.run w
  have hr:(Instr.alloc T true (.tuple #[])).run Tryz.prog w=.ok (.pointer (some ⟨w.heap.size,0,none⟩)) (w.alloc (.cells v.cells T)):=by
   unfold Instr.alloc;simp only[Sem.run_bind,hz,Result.andThen_ok,newVar_one];rfl
  unfold Oper.wp execOp;simp only[ho,Sem.run_bind,hr,Result.andThen_ok];exact hK _ _ (hk _ _ (h.alloc v.cells T))
theorem boxV (hw:Region.wanted o (yielded ops a.tmps)=true) {T:TypeId} {x:Operand} (ho:o.op=.box T x) (h:St S w0 w L) {v:Value} (hx:a.eval x=v) {C:Array Value} (hC:v.cells=C)
  (hk:∀(b:Nat) (w':World),St S w0 w' ((b,C,T)::L)→wpList Tryz.prog ops Q rest (a.put o.dst (.pointer (some ⟨b,0,none⟩))) w'):wpList Tryz.prog ops Q (o::rest) a w:=
 BigFrame.wpList_want hw fun K hK=>by
  have hr:(Instr.box T v).run Tryz.prog w=.ok (.pointer (some ⟨w.heap.size,0,none⟩)) (w.alloc (.cells v.cells T)):=by
   unfold Instr.box;simp only[Sem.run_bind,newVar_one,Result.andThen_ok];rfl
  unfold Oper.wp execOp;simp only[ho,hx,Sem.run_bind,hr,Result.andThen_ok];exact hK _ _ (hk _ _ (hC ▸ h.alloc v.cells T))
section
variable {T:TypeId} {x:Operand}
theorem bs (hw:Region.wanted o (yielded ops a.tmps)=true) (ho:o.op=.box T x) (h:St S w0 w L) {z:ByteArray} (hx:a.eval x=.string z)
  (hk:∀(b:Nat) (w':World),St S w0 w' ((b,#[.string z],T)::L)→wpList Tryz.prog ops Q rest (a.put o.dst (.pointer (some ⟨b,0,none⟩))) w'):wpList Tryz.prog ops Q (o::rest) a w:=boxV hw ho h hx rfl hk
theorem bl (hw:Region.wanted o (yielded ops a.tmps)=true) (ho:o.op=.box T x) (h:St S w0 w L) {z:Option Addr} {l c:Nat} (hx:a.eval x=.slice z l c)
  (hk:∀(b:Nat) (w':World),St S w0 w' ((b,#[.slice z l c],T)::L)→wpList Tryz.prog ops Q rest (a.put o.dst (.pointer (some ⟨b,0,none⟩))) w'):wpList Tryz.prog ops Q (o::rest) a w:=boxV hw ho h hx rfl hk
theorem ba (hw:Region.wanted o (yielded ops a.tmps)=true) (ho:o.op=.box T x) (h:St S w0 w L) {C:Array Value} (hx:a.eval x=.agg C)
  (hk:∀(b:Nat) (w':World),St S w0 w' ((b,C,T)::L)→wpList Tryz.prog ops Q rest (a.put o.dst (.pointer (some ⟨b,0,none⟩))) w'):wpList Tryz.prog ops Q (o::rest) a w:=boxV hw ho h hx rfl hk
end
end
section
variable {ops:Array Oper} {rest:List Oper} {o:Oper} {a:Act} {C:World→Prop} {Q:Act→Prop} {S:List Nat} {w0:World} {L:List Blk}
theorem q1 (hw:Region.wanted o (yielded ops a.tmps)=true) {T:TypeId} {x:Operand} (ho:o.op=.load T x) {g off:Nat} (hx:a.eval x=.pointer (some ⟨g,off,none⟩)) (h:∀w,C w→St S w0 w L)
  {D:Array Value} {Tb:TypeId} {v:Value} [OneT T] [Has L g D Tb] [CellAt D off v] (hk:wpQuiet Tryz.prog ops C Q rest (a.put o.dst v)):wpQuiet Tryz.prog ops C Q (o::rest) a:=wpQuiet_ld hw _ _ ho _ _ hx h hk
end
def ResRun (w:World) (tmps:Array Value):ResultVar→Value→Prop
 | .tmp t,v=>v=tmps.getD t undef
 | .cell p T,v=>∃g,tmps[p]?.getD undef=.pointer (some g)∧(loadVar T g).run Tryz.prog w=.ok v w
theorem res_tmp {w:World} {tmps:Array Value} {t:Tmp}:ResRun w tmps (.tmp t) (tmps.getD t undef):=rfl
theorem res_one {w:World} {tmps:Array Value} {p:Tmp} {T Tb:TypeId} {g:Nat} {C:Array Value} {v:Value} {z:Nat×Nat} (hp:tmps.getD p undef=.pointer (some ⟨g,0,none⟩)) (hg:w.heap[g]? =some (.cells C Tb z)) [t:OneT T] [c:CellAt C 0 v]:ResRun w tmps (.cell p T) v:=
 ⟨_,(by simpa using hp),run_loadVar_one (t.agg w) hg c.eq⟩
theorem res_agg {w:World} {tmps:Array Value} {p:Tmp} {T Tb:TypeId} {g n:Nat} {C:Array Value} {cs:List Value} {z:Nat×Nat} (hp:tmps.getD p undef=.pointer (some ⟨g,0,none⟩)) (hg:w.heap[g]? =some (.cells C Tb z)) [t:AggT T n] [c:PartAt C 0 n cs]:ResRun w tmps (.cell p T) (.agg cs.toArray):=
 ⟨_,(by simpa using hp),run_loadVar_agg (t.agg w) (by rw[c.len];exact t.size) hg c.eq⟩
theorem results1 {fn:Func} {w:World} {tmps:Array Value} {r1:ResultVar} {v1:Value} (hf:fn.results=#[r1]) (h1:ResRun w tmps r1 v1):(results fn tmps).run Tryz.prog w=.ok v1 w:=by
 unfold results;rw[hf]
 cases r1<;>simp only[ResRun] at h1<;>(try obtain⟨g1,p1,q1⟩:=h1)<;>simp[asAddr, *]
theorem results2 {fn:Func} {w:World} {tmps:Array Value} {r1 r2:ResultVar} {v1 v2:Value} (hf:fn.results=#[r1,r2]) (h1:ResRun w tmps r1 v1) (h2:ResRun w tmps r2 v2):(results fn tmps).run Tryz.prog w=.ok (.tuple #[v1,v2]) w:=by
 unfold results;rw[hf]
 cases r1<;>cases r2<;>simp only[ResRun] at h1 h2<;>(try obtain⟨g1,p1,q1⟩:=h1)<;>(try obtain⟨g2,p2,q2⟩:=h2)<;>simp[asAddr, *]
theorem results3 {fn:Func} {w:World} {tmps:Array Value} {r1 r2 r3:ResultVar} {v1 v2 v3:Value} (hf:fn.results=#[r1,r2,r3]) (h1:ResRun w tmps r1 v1) (h2:ResRun w tmps r2 v2) (h3:ResRun w tmps r3 v3):(results fn tmps).run Tryz.prog w=.ok (.tuple #[v1,v2,v3]) w:=by
 unfold results;rw[hf]
 cases r1<;>cases r2<;>cases r3<;>simp only[ResRun] at h1 h2 h3<;>(try obtain⟨g1,p1,q1⟩:=h1)<;>(try obtain⟨g2,p2,q2⟩:=h2)<;>(try obtain⟨g3,p3,q3⟩:=h3)<;>simp[asAddr, *]
instance {a:Value}:CellAt #[a] 0 a:=⟨rfl⟩
instance {a b:Value}:CellAt #[a,b] 0 a:=⟨rfl⟩
instance {a b:Value}:CellAt #[a,b] 1 b:=⟨rfl⟩
instance {a b c:Value}:CellAt #[a,b,c] 0 a:=⟨rfl⟩
instance {a b c:Value}:CellAt #[a,b,c] 1 b:=⟨rfl⟩
instance {a b c:Value}:CellAt #[a,b,c] 2 c:=⟨rfl⟩
instance {a b c d:Value}:CellAt #[a,b,c,d] 0 a:=⟨rfl⟩
instance {a b c d:Value}:CellAt #[a,b,c,d] 1 b:=⟨rfl⟩
instance {a b c d:Value}:CellAt #[a,b,c,d] 2 c:=⟨rfl⟩
instance {a b c d:Value}:CellAt #[a,b,c,d] 3 d:=⟨rfl⟩
theorem wrOne {C C':Array Value} {off:Nat} {v:Value} [o:OneC v] (hf:off+1≤C.size) (he:C.setIfInBounds off v=C'):WrAt C off 1 v C':=wr_one _ _ _ _ o.one o.cells hf he
instance {a v:Value} [OneC v]:WrAt #[a] 0 1 v #[v]:=wrOne (Nat.le_refl _) rfl
instance {a b v:Value} [OneC v]:WrAt #[a,b] 0 1 v #[v,b]:=wrOne (Nat.le_of_ble_eq_true rfl) rfl
instance {a b v:Value} [OneC v]:WrAt #[a,b] 1 1 v #[a,v]:=wrOne (Nat.le_of_ble_eq_true rfl) rfl
instance {a b c v:Value} [OneC v]:WrAt #[a,b,c] 0 1 v #[v,b,c]:=wrOne (Nat.le_of_ble_eq_true rfl) rfl
instance {a b c v:Value} [OneC v]:WrAt #[a,b,c] 1 1 v #[a,v,c]:=wrOne (Nat.le_of_ble_eq_true rfl) rfl
instance {a b c v:Value} [OneC v]:WrAt #[a,b,c] 2 1 v #[a,b,v]:=wrOne (Nat.le_of_ble_eq_true rfl) rfl
instance {a b c d v:Value} [OneC v]:WrAt #[a,b,c,d] 0 1 v #[v,b,c,d]:=wrOne (Nat.le_of_ble_eq_true rfl) rfl
instance {a b c d v:Value} [OneC v]:WrAt #[a,b,c,d] 1 1 v #[a,v,c,d]:=wrOne (Nat.le_of_ble_eq_true rfl) rfl
instance {a b c d v:Value} [OneC v]:WrAt #[a,b,c,d] 2 1 v #[a,b,v,d]:=wrOne (Nat.le_of_ble_eq_true rfl) rfl
instance {a b c d v:Value} [OneC v]:WrAt #[a,b,c,d] 3 1 v #[a,b,c,v]:=wrOne (Nat.le_of_ble_eq_true rfl) rfl
theorem partAll {l:List Value}:PartAt l.toArray 0 l.length l:=⟨rfl,fun j v h=>by simpa using h⟩
instance {a b:Value}:PartAt #[a,b] 0 2 [a,b]:=partAll (l:=[a,b])
instance {a b c:Value}:PartAt #[a,b,c] 0 3 [a,b,c]:=partAll (l:=[a,b,c])
instance {a b c d:Value}:PartAt #[a,b,c,d] 0 4 [a,b,c,d]:=partAll (l:=[a,b,c,d])
instance oneByte:OneT 5:=⟨fun w=>by kernel_rfl,by kernel_rfl⟩
instance zeroInt:ZeroT 3 #[.int .i64 0]:=.one fun w=>by kernel_rfl
instance zeroBool:ZeroT 4 #[.bool false]:=.one fun w=>by kernel_rfl
instance zeroStr:ZeroT 9 #[.string ⟨#[]⟩]:=.one fun w=>by kernel_rfl
end Go.Proofs.YtdkeiefgkgpcbaaGreatDoor
namespace Go.Proofs.YtdkeiefgkgpcbaaGreatDoor
open Go.RowKit
structure Fr where
 kind:Int
 epoch:Int
 index:Int
 data:ByteArray
def frC (f:Fr):Array Value:=#[.int .u8 f.kind,.int .i64 f.epoch,.int .i64 f.index,.string f.data]
instance aggFrame:AggT 94 4:=⟨fun w=>by kernel_rfl,by kernel_rfl⟩
instance (f:Fr):CellAt (frC f) 0 (.int .u8 f.kind):=⟨rfl⟩
instance (f:Fr):CellAt (frC f) 1 (.int .i64 f.epoch):=⟨rfl⟩
instance (f:Fr):CellAt (frC f) 2 (.int .i64 f.index):=⟨rfl⟩
instance (f:Fr):CellAt (frC f) 3 (.string f.data):=⟨rfl⟩
instance (f:Fr):PartAt (frC f) 0 4 [.int .u8 f.kind,.int .i64 f.epoch,.int .i64 f.index,.string f.data]:=partAll (l:=[.int .u8 f.kind,.int .i64 f.epoch,.int .i64 f.index,.string f.data])
def frCheck (f:Fr):Int:=
 if f.kind=68∨f.kind=80∨f.kind=83 then
  if f.epoch<1∨1073741824<f.epoch∨f.index<0∨65535<f.index then 2 else if(112:Int)<f.data.size then 3 else 0
 else 2
set_option maxHeartbeats 8000000 in
theorem frCheck_calls (f:Fr) (w:World):
  Calls Tryz.prog 73 #[.agg (frC f)] w fun e w'=>e=.returned (.int .i64 (frCheck f))∧Below w.heap.size w w':=by
 have hst:=St.start w;have key:∀(r:Int),Hid (frCheck f=r)→∀(k1 k2 k3 e1 e2 e3 e4 e5:Bool),(f.kind==68)=k1→(f.kind==80)=k2→(f.kind==83)=k3→decide (f.epoch<1)=e1→decide (1073741824<f.epoch)=e2→decide (f.index<0)=e3→decide (65535<f.index)=e4→
   decide (112<(f.data.size:Int))=e5→Hid (r=if k1||k2||k3 then if e1||e2||e3||e4 then 2 else if e5 then 3 else 0 else 2)→
   Calls Tryz.prog 73 #[.agg (frC f)] w fun e w'=>e=.returned (.int .i64 r)∧Below w.heap.size w w':=by
  intro r _ k1 k2 k3 e1 e2 e3 e4 e5 h1 h2 h3 g1 g2 g3 g4 g5 HR;have hk:(k1=false∧k2=false∧k3=false)∨(k1=true)∨(k1=false∧k2=true)∨(k1=false∧k2=false∧k3=true):=by cases k1<;>cases k2<;>cases k3<;>simp
  go_enter Tryz.func73,Tryz.ntmps73;rcases hk with⟨rfl,rfl,rfl⟩ |rfl |⟨rfl,rfl⟩ |⟨rfl,rfl,rfl⟩
  ·go_wp2_with (with_reducible first|refine l1 rfl rfl rfl ‹_› ?_|(refine ba rfl rfl ‹_› rfl ?_;intro bb w' hst))
   go_ret;refine⟨?_,hst.end⟩;rw[HR.out];rfl
  all_goals
   cases e1
   ·cases e2
    ·cases e3
     ·cases e4
      ·cases e5
       ·go_wp2_with (with_reducible first|refine l1 rfl rfl rfl ‹_› ?_|(refine ba rfl rfl ‹_› rfl ?_;intro bb w' hst))
        go_ret;refine⟨?_,hst.end⟩;rw[HR.out];rfl
       ·go_wp2_with (with_reducible first|refine l1 rfl rfl rfl ‹_› ?_|(refine ba rfl rfl ‹_› rfl ?_;intro bb w' hst))
        go_ret;refine⟨?_,hst.end⟩;rw[HR.out];rfl
      ·go_wp2_with (with_reducible first|refine l1 rfl rfl rfl ‹_› ?_|(refine ba rfl rfl ‹_› rfl ?_;intro bb w' hst))
       go_ret;refine⟨?_,hst.end⟩;rw[HR.out];rfl
     ·go_wp2_with (with_reducible first|refine l1 rfl rfl rfl ‹_› ?_|(refine ba rfl rfl ‹_› rfl ?_;intro bb w' hst))
      go_ret;refine⟨?_,hst.end⟩;rw[HR.out];rfl
    ·go_wp2_with (with_reducible first|refine l1 rfl rfl rfl ‹_› ?_|(refine ba rfl rfl ‹_› rfl ?_;intro bb w' hst))
     go_ret;refine⟨?_,hst.end⟩;rw[HR.out];rfl
   ·go_wp2_with (with_reducible first|refine l1 rfl rfl rfl ‹_› ?_|(refine ba rfl rfl ‹_› rfl ?_;intro bb w' hst))
    go_ret;refine⟨?_,hst.end⟩;rw[HR.out];rfl
 exact key _ (Lib.hid rfl) _ _ _ _ _ _ _ _ rfl rfl rfl rfl rfl rfl rfl rfl (Lib.hid (by unfold frCheck;simp only[Bool.or_eq_true,beq_iff_eq,decide_eq_true_eq,or_assoc]))
end Go.Proofs.YtdkeiefgkgpcbaaGreatDoor
namespace Go.Proofs.YtdkeiefgkgpcbaaGreatDoor
open Go.RowKit
section
variable {ops:Array Oper} {F:Flow} {Qf:List Blk→Act→Prop} {l:List Nat} {k:Nat} {o:Oper} {L:List Blk} {a:Act}
theorem run_bsb (x:Int) (w:World):(Instr.buildSlice 47 1 #[(0,.int .u8 x)]).run Tryz.prog w=.ok (.slice (some ⟨w.heap.size,0,none⟩) 1 1) (w.alloc (.cells #[.int .u8 x] 5)):=by kernel_rfl
theorem fl_bsb (h0:ops[k]? =some o) (hs:F.special k=true) (y:Operand) (ho:o.op=.buildSlice 47 1 #[(0,y)]) (x:Int) (hx:a.eval y=.int .u8 x)
  (hB:∀b w,St F.S F.w0 w ((b,#[.int .u8 x],5)::L)→F.B w) (hk:∀b,wpLX ops F Qf l ((b,#[.int .u8 x],5)::L) (a.put o.dst (.slice (some ⟨b,0,none⟩) 1 1))):wpLX ops F Qf (k::l) L a:=by
 show xstep _ _ _ _ _ _;unfold xstep;rw[h0];show xdo _ _ _ _ _ _ _;unfold xdo;rw[if_pos hs];refine⟨fun L' u=>∃b,L'=(b,#[.int .u8 x],5)::L∧u=.slice (some ⟨b,0,none⟩) 1 1,fun w hw=>Or.inl ?_,?_⟩
 ·refine⟨.slice (some ⟨w.heap.size,0,none⟩) 1 1,_,(w.heap.size,#[.int .u8 x],5)::L,?_,⟨_,rfl,rfl⟩,hw.alloc #[.int .u8 x] _⟩
  have hm:(#[(0,y)].map fun p=>(p.1,a.eval p.2))=#[(0,.int .u8 x)]:=by simp[hx]
  unfold execOp;simp only[ho];rw[show((#[(0,y)]:Array (Nat×Operand)).map fun(i,x)=>(i,a.eval x))=#[(0,.int .u8 x)] from hm];simp only[Sem.run_bind,run_bsb,Result.andThen_ok];rfl
 ·rintro L' u ⟨b,rfl,rfl⟩
  exact⟨Or.inr (fun w hw=>hB b w hw),hk b⟩
theorem fl_b2s (h0:ops[k]? =some o) (hs:F.special k=true) (y:Operand) (ho:o.op=.convert 47 9 y) (g cap:Nat) (bs:List UInt8) (hx:a.eval y=.slice (some ⟨g,0,none⟩) bs.length cap)
  {C:Array Value} {Tb:TypeId} [kk:Has L g C Tb] (hc:∀j (hj:j<bs.length),C[j]? =some (.int .u8 (bs[j].toNat:Int)))
  (A:ByteArray) (hA:mkS bs=A) (hB:∀w,St F.S F.w0 w L→F.B w) (hk:wpLX ops F Qf l L (a.put o.dst (.string A))):wpLX ops F Qf (k::l) L a:=by
 subst hA;show xstep _ _ _ _ _ _;unfold xstep;rw[h0];show xdo _ _ _ _ _ _ _;unfold xdo;rw[if_pos hs];refine⟨fun L' u=>L'=L∧u=.string (mkS bs),fun w hw=>Or.inl ?_,?_⟩
 ·refine⟨.string (mkS bs),w,L,?_,⟨rfl,rfl⟩,hw⟩
  have hr:=run_convert_bytes_back (P:=Tryz.prog) w 47 9 5 ⟨g,0,none⟩ cap bs Tryz.underlying47 Tryz.underlying5 Tryz.underlying9 (fun j hj=>by
   rw[addr_add,cell_of_row w g _ _ _ _ hw.has,Nat.zero_add]
   exact hc j hj)
  unfold execOp;simp only[ho,hx,Sem.run_bind,hr,Result.andThen_ok];rfl
 ·rintro L' u ⟨rfl,rfl⟩
  exact⟨Or.inr hB,hk⟩
theorem fl_cat (h0:ops[k]? =some o) (hs:F.special k=false) (hp:F.pure k=true) (x y:Operand) (r:TypeId) (ho:o.op=.binOp .add 9 x y r) (A B:ByteArray) (hx:a.eval x=.string A) (hy:a.eval y=.string B)
  (hw:Region.wanted o (yielded ops a.tmps)=true) (hl:A.size+B.size≤9223372036854775807) (hk:wpLX ops F Qf l L (a.put o.dst (.string (A++B)))):wpLX ops F Qf (k::l) L a:=
 fl_pure h0 hs hp (.string (A++B)) hw (fun w=>by
  unfold execOp
  simp only[ho,hx,hy,Sem.run_bind,eqGuard_add,Sem.run_pure,Result.andThen_ok,binOp_string_add,run_string_add_sum w A B (by omega)]) hk
end
def frHead (f:Fr):List UInt8:=UInt8.ofNat f.kind.toNat::(putL f.epoch 4++(putL f.index 2++putL f.data.size 1))
def frBody (f:Fr):List UInt8:=frHead f++(putL (crc (frHead f++ls f.data):Nat) 4++ls f.data)
def frText (f:Fr):List UInt8:=frBody f++List.replicate (124-(frBody f).length) 0
theorem frHead_s (f:Fr):mkS [UInt8.ofNat f.kind.toNat]++putF f.epoch 4++putF f.index 2++putF f.data.size 1=mkS (frHead f):=by
 apply eq_mkS;simp[ls_append,ls_mkS,frHead,putL]
theorem be_length':∀(b n:Nat),(be b n).length=b
 |0,_=>rfl
 |b+1,n=>by simp[be,be_length' b]
theorem putL_le (n:Int) (b:Nat):(putL n b).length≤b:=by
 have h:putL n b=(putF n b).toList:=by rw[ByteArray.toList_eq];rfl
 rw[h,putF_list];split
 ·rw[be_length'];exact Nat.le_refl _
 ·simp
theorem crc4_lt {r:Nat} (h:r<4294967296):crc4 r<4294967296:=by
 unfold crc4;exact Nat.xor_lt_two_pow (n:=32) (by omega) (sumsT_lt _)
theorem crcB_lt {r:Nat} (h:r<4294967296) (c:UInt8):crcB r c<4294967296:=by
 have:=c.toNat_lt;exact crc4_lt (crc4_lt (Nat.xor_lt_two_pow (n:=32) h (by omega)))
theorem crc_fold_lt:∀(l:List UInt8) (r:Nat),r<4294967296→l.foldl crcB r<4294967296
 | [],_,h=>h
 |c::l,_,h=>crc_fold_lt l _ (crcB_lt h c)
theorem crc_lt (l:List UInt8):crc l<4294967296:=Nat.xor_lt_two_pow (n:=32) (by omega) (crc_fold_lt l _ (by omega))
theorem frHead_len (f:Fr):(frHead f).length≤8:=by
 have h1:(putL f.epoch 4).length≤4:=putL_le f.epoch 4;have h2:(putL f.index 2).length≤2:=putL_le f.index 2;have h3:(putL f.data.size 1).length≤1:=putL_le f.data.size 1;simp[frHead];omega
theorem frBody_len (f:Fr) (hd:f.data.size≤112):(frBody f).length≤124:=by
 have h1:=frHead_len f;have h2:(putL (crc (frHead f++ls f.data):Nat) 4).length≤4:=putL_le _ 4;simp only[frBody,List.length_append,ls_length];omega
set_option maxHeartbeats 4000000 in
theorem frText_calls (f:Fr) (hk:0≤f.kind∧f.kind<256) (he:f.epoch≤9223372036854775807) (hi:f.index≤9223372036854775807) (hd:f.data.size≤112) (w:World) (hG:GSums w):
  Calls Tryz.prog 75 #[.agg (frC f)] w fun e w'=>e=.returned (.string (mkS (frText f)))∧Below w.heap.size w w':=by
 have hst:=St.start w;have C1:=Lib.hid (put_any f.epoch 4 he);have C2:=Lib.hid (put_any f.index 2 hi);have C3:=Lib.hid (put_any f.data.size 1 (by omega))
 have HK:Hid (∀j (hj:j<[UInt8.ofNat f.kind.toNat].length),#[Value.int .u8 f.kind][j]? =some (.int .u8 ([UInt8.ofNat f.kind.toNat][j].toNat:Int))):=Lib.hid (by
  intro j hj;obtain rfl:j=0:=by simpa using hj
  have:f.kind.toNat%2 ^ 8=f.kind.toNat:=Nat.mod_eq_of_lt (by omega);simp only[List.getElem_cons_zero,UInt8.toNat_ofNat',this,List.getElem?_toArray,List.getElem?_cons_zero]
  rw[Int.toNat_of_nonneg hk.1])
 have HS:=Lib.hid (frHead_s f);have s0:(mkS [UInt8.ofNat f.kind.toNat]).size=1:=rfl;have s1:=putF_size f.epoch 4;have s2:=putF_size f.index 2;have s3:=putF_size f.data.size 1;go_enter Tryz.func75,Tryz.ntmps75;go_wp2_with (with_reducible (refine ba rfl rfl ‹_› rfl ?_;intro bb w' hst));generalize hS1:putF f.epoch 4=S1 at*;generalize hS2:putF f.index 2=S2 at*;generalize hS3:putF f.data.size 1=S3 at*;generalize hS0:mkS [UInt8.ofNat f.kind.toNat]=S0 at*;have K1:Hid (S0.size+S1.size≤9223372036854775807):=Lib.hid (by omega);have K2:Hid ((S0++S1).size+S2.size≤9223372036854775807):=Lib.hid (by rw[ByteArray.size_append];omega);have K3:Hid ((S0++S1++S2).size+S3.size≤9223372036854775807):=Lib.hid (by rw[ByteArray.size_append,ByteArray.size_append];omega);refine wp_region_flow ⟨[],w,fun x=>x.heap[bb]? =some (.cells (frC f) 94 (0,0)),fun i=>i==2||i==3,fun i=> !(i==1||i==5||i==9||i==13),fun _=>false⟩ [0,1,4,5,6,8,9,10,12,13,14,15,2,3,7,11,16,17] rfl (by assumption) (by kernel_rfl) (by kernel_rfl) (by kernel_rfl) (by kernel_rfl) (by kernel_rfl) ?_;refine fl_pure rfl rfl rfl (Value.pointer (some ⟨bb,0,none⟩)) (by kernel_rfl) (fun w=>by kernel_rfl) ?_;refine fl_ld rfl rfl rfl _ _ rfl bb 0 (by kernel_rfl) (by kernel_rfl) (fun x hx=>St.has hx) (fun x hx=>hx) ?_;refine fl_pure rfl rfl rfl (Value.pointer (some ⟨bb,1,none⟩)) (by kernel_rfl) (fun w=>by kernel_rfl) ?_;refine fl_ld rfl rfl rfl _ _ rfl bb 1 (by kernel_rfl) (by kernel_rfl) (fun x hx=>St.has hx) (fun x hx=>hx) ?_;refine fl_call rfl rfl rfl 100 #[.int .i64 f.epoch,.int .i64 4] (.string S1) (by kernel_rfl) (fun w=>by kernel_rfl) C1.out ?_;refine fl_pure rfl rfl rfl (Value.pointer (some ⟨bb,2,none⟩)) (by kernel_rfl) (fun w=>by kernel_rfl) ?_;refine fl_ld rfl rfl rfl _ _ rfl bb 2 (by kernel_rfl) (by kernel_rfl) (fun x hx=>St.has hx) (fun x hx=>hx) ?_;refine fl_call rfl rfl rfl 100 #[.int .i64 f.index,.int .i64 2] (.string S2) (by kernel_rfl) (fun w=>by kernel_rfl) C2.out ?_;refine fl_pure rfl rfl rfl (Value.pointer (some ⟨bb,3,none⟩)) (by kernel_rfl) (fun w=>by kernel_rfl) ?_;refine fl_ld rfl rfl rfl _ _ rfl bb 3 (by kernel_rfl) (by kernel_rfl) (fun x hx=>St.has hx) (fun x hx=>hx) ?_;refine fl_pure rfl rfl rfl (Value.int .i64 f.data.size) (by kernel_rfl) (fun w=>by kernel_rfl) ?_;refine fl_call rfl rfl rfl 100 #[.int .i64 f.data.size,.int .i64 1] (.string S3) (by kernel_rfl) (fun w=>by kernel_rfl) C3.out ?_;refine fl_bsb rfl rfl _ rfl f.kind (by kernel_rfl) (fun b x hx=>St.has hx) ?_;intro b;refine fl_b2s rfl rfl _ rfl b 1 [UInt8.ofNat f.kind.toNat] (by kernel_rfl) (C:=#[.int .u8 f.kind]) HK.out S0 hS0 (fun x hx=>St.has hx) ?_;refine fl_cat rfl rfl rfl _ _ _ rfl S0 S1 (by kernel_rfl) (by kernel_rfl) (by kernel_rfl) K1.out ?_;refine fl_cat rfl rfl rfl _ _ _ rfl (S0++S1) S2 (by kernel_rfl) (by kernel_rfl) (by kernel_rfl) K2.out ?_;refine fl_cat rfl rfl rfl _ _ _ rfl (S0++S1++S2) S3 (by kernel_rfl) (by kernel_rfl) (by kernel_rfl) K3.out ?_;refine fl_pure rfl rfl rfl (Value.string (S0++S1++S2++S3)) (by kernel_rfl) (fun w=>by kernel_rfl) ?_;intro w2 hst2;have hG2:GSums w2:=hG.below hst2.drop.end;rw[HS.out];have hst2':=hst2.drop
 have hbody:Hid (mkS (frBody f)=mkS (frHead f)++(putF (crc (ls (mkS (frHead f)++f.data)):Nat) 4++f.data)):=Lib.hid (by
  symm;apply eq_mkS
  simp[ls_append,ls_mkS,frBody,putL])
 have hlenb:(mkS (frBody f)).size≤124:=by rw[size_mkS];exact frBody_len f hd
 have hlenh:(mkS (frHead f)).size≤8:=by rw[size_mkS];exact frHead_len f
 have HT:Hid (mkS (frText f)=mkS (frBody f)++mkS (List.replicate (124-(mkS (frBody f)).size) 0)):=Lib.hid (by
  symm;apply eq_mkS
  simp[ls_append,ls_mkS,frText,size_mkS])
 clear HS hS0 hS1 hS2 hS3 C1 C2 C3 K1 K2 K3 s0 s1 s2 s3 HK hst2 hst;generalize hT:mkS (frText f)=T at*;generalize mkS (frBody f)=B at*;generalize mkS (frHead f)=H at*;have hcrc:=crc_lt (ls (H++f.data));have s4:=putF_size (crc (ls (H++f.data)):Nat) 4;have C4:=Lib.hid (put_any (crc (ls (H++f.data)):Nat) 4 (by omega));have hq:=hst2'.quiet;have CS:Hid (∀(x:Ix w2),Calls Tryz.prog 124 #[.string (H++f.data)] x.1 fun e w'=>e=.returned (.int .u32 (crc (ls (H++f.data)):Nat))∧Below x.1.heap.size x.1 w'):=Lib.hid (fun x=>sum_calls _ _ (by rw[ByteArray.size_append];omega) (hG2.below x.2));generalize (crc (ls (H++f.data)))=c at*;generalize putF (c:Nat) 4=S4 at*;have k1:¬9223372036854775807<H.size+f.data.size:=by omega
 have k2:¬9223372036854775807<S4.size+f.data.size:=by omega
 have k3:¬9223372036854775807<H.size+(S4++f.data).size:=by rw[ByteArray.size_append];omega
 go_wp2_with fail;refine wp_region_below_lit (by kernel_rfl) (by kernel_rfl) ?_
 repeat(first
  |(with_reducible refine q1 rfl rfl rfl hq ?_;simp only[Act.put,List.setIfInBounds_toArray,List.set_cons_succ,List.set_cons_zero])
  |go_big_quiet_step ((first|(go_at_call 100;with_reducible exact Calls.below_of (C4.out _))|(go_at_call 124;with_reducible exact Calls.below_of (CS.out _)))))
 refine wpQuiet_nil ?_;intro wq hwq;have h1:=hq wq hwq;rw[←hbody.out];clear hq hwq CS C4 k1 k2 k3 hst2';have hsub:(124:Int)-(B.size:Int)=((124-B.size:Nat):Int):=by omega
 have hrep:=repeat_calls (124-B.size) (by omega);have hz:(mkS (List.replicate (124-B.size) (0:UInt8))).size=124-B.size:=by rw[size_mkS,List.length_replicate]
 have HR:=Lib.hid hrep;clear hrep;generalize mkS (List.replicate (124-B.size) 0)=Z at*;have k4:¬9223372036854775807<B.size+Z.size:=by omega
 go_wp2_with fail;refine(HR.out _).mono ?_;rintro e w3 ⟨rfl,hb3⟩;have h3:=h1.below hb3;go_wp2_with fail;go_ret;exact⟨by rw[hT,HT.out];rfl,h3.end⟩
end Go.Proofs.YtdkeiefgkgpcbaaGreatDoor
namespace Go.Proofs.YtdkeiefgkgpcbaaGreatDoor
open Go.RowKit Go.Shelf
attribute [local go_sem] Oper.semAt_some
theorem calls_marks {f:FuncId} {fn:Func} {c:Code} {args:Array Value} {w:World} {R:Ending→World→Prop} (hf:Tryz.prog.funcs[f]? =some fn) (hb:fn.body=some c)
  (h:c.wp Tryz.prog (bodyPostM Fence.wide 9 Tryz.prog fn R) {tmps:=args++Array.replicate (fn.ntmps-args.size) undef,defers:=[]} w):Calls Tryz.prog f args w R:=
 (callsIn_wide (n:=9)).1 (callsIn_of_wp_marks hf hb trivial (wpIn_wide.2 h) rfl)
theorem marks_ret {fn:Func} {R:Ending→World→Prop} {a:Act} {w:World} {v:Value} (hd:a.defers=[]) (hr:(results fn a.tmps).run Tryz.prog w=.ok v w) (h:R (.returned v) w):bodyPostM Fence.wide 9 Tryz.prog fn R .ret a w:=by
 show LeavesInM _ _ _ _ _ _ _ _ _;rw[hd];exact⟨v,hr,h⟩
theorem marks_ret1 {fn:Func} {R:Ending→World→Prop} {a:Act} {w:World} {v:Value} {D:Nat} (hd:a.defers=[{target:=.collected D,args:=#[]}]) (hD:w.heap[D]? =some (.deferred (some [])))
  (hr:(results fn a.tmps).run Tryz.prog (w.putObj D (.deferred none))=.ok v (w.putObj D (.deferred none))) (h:R (.returned v) (w.putObj D (.deferred none))):bodyPostM Fence.wide 9 Tryz.prog fn R .ret a w:=by
 show LeavesInM _ _ _ _ _ _ _ _ _;rw[hd];exact⟨by simp,.inl ⟨_,_,rfl,run_takeDeferred hD,v,hr,h⟩⟩
instance zeroBld:ZeroT 159 #[.pointer none,.slice none 0 0]:=.agg zero_builder
theorem IsB.new {w0 w:World} {b:Nat} {L:List Blk} (h:St [] w0 w ((b,#[.pointer none,.slice none 0 0],159)::L)):IsB w0.heap.size b (Lib.byteCells []) w:=
 Or.inl ⟨by rcases h.own _ (List.mem_cons_self) with h1 |h1<;>simp at h1;exact h1,.slice none 0 0,h.blk _ (List.mem_cons_self),World.ownsRowF_nil _ _ _ _,by simp[Value.ownBlock]⟩
theorem frCheck_data {f:Fr} (h:frCheck f=0):f.data.size≤112:=by
 unfold frCheck at h;split at h
 ·split at h
  ·omega
  ·split at h<;>omega
 ·omega
theorem IsB.aside {B b n:Nat} {bs:List Value} {w w':World} (h:IsB B b bs w) (ha:Aside n w w'):IsB B b bs w':=by
 have key:∀p,Lib.BuilderAtF 159 5 B b p bs w→Lib.BuilderAtF 159 5 B b p bs w':=by
  rintro p ⟨hB,v,hbk,⟨hl,hown⟩,hne⟩;refine⟨hB,v,ha.cells _ _ _ _ hbk,⟨hl,?_⟩,hne⟩;rcases hown with h1 |⟨g,cap,cur,fz,h1,h2,h3,h4⟩
  ·exact Or.inl h1
  ·exact Or.inr ⟨g,cap,cur,fz,h1,h2,ha.cells _ _ _ _ h3,h4⟩
 rcases h with h |h
 ·exact Or.inl (key _ h)
 ·exact Or.inr (key _ h)
theorem IsB.setRow {B b g:Nat} {bs:List Value} {w:World} (h:IsB B b bs w) {C C':Array Value} {T:TypeId} {z:Nat×Nat} (hg:w.heap[g]? =some (.cells C T z)) (h1:T≠159) (h2:T≠5):IsB B b bs (w.setRow g C'):=by
 have ne:∀(k:Nat) (D:Array Value) (U:TypeId) (y:Nat×Nat),U=159∨U=5→w.heap[k]? =some (.cells D U y)→(w.setRow g C').heap[k]? =some (.cells D U y):=by
  intro k D U y hU hk;rw[heap_setRow_other]
  ·exact hk
  ·rintro rfl
   rw[hg] at hk
   cases hk
   rcases hU with hU |hU
   ·exact h1 hU
   ·exact h2 hU
 have key:∀p,Lib.BuilderAtF 159 5 B b p bs w→Lib.BuilderAtF 159 5 B b p bs (w.setRow g C'):=by
  rintro p ⟨hB,v,hbk,⟨hl,hown⟩,hne⟩;refine⟨hB,v,ne _ _ _ _ (Or.inl rfl) hbk,⟨hl,?_⟩,hne⟩;rcases hown with h1 |⟨g,cap,cur,fz,h1,h2,h3,h4⟩
  ·exact Or.inl h1
  ·exact Or.inr ⟨g,cap,cur,fz,h1,h2,ne _ _ _ _ (Or.inr rfl) h3,h4⟩
 rcases h with h |h
 ·exact Or.inl (key _ h)
 ·exact Or.inr (key _ h)
theorem Below.setRow' {n g:Nat} (w:World) (C:Array Value) (hg:n≤g):Below n w (w.setRow g C):=
 ⟨rfl,rfl,rfl,by rw[size_setRow];exact Nat.le_refl _,fun k hk=>heap_setRow_other w g k C (by omega)⟩
def frEnc (f:Fr):List UInt8×Int:=if frCheck f=0 then(((List.range 4).flatMap fun k=>((frText f).drop (k*31)).take 31++[165]),0) else([],frCheck f)
theorem restS_drop (t:List UInt8) (n:Nat):∀k,restS (mkS t) n k=mkS (t.drop (k*n))
 |0=>by simp[restS]
 |k+1=>by
  have h:=text_extract (mkS (t.drop (k*n))) n ((t.drop (k*n)).length-n);rw[restS,restS_drop t n k,size_mkS]
  by_cases hle:n≤(t.drop (k*n)).length
  ·rw[show n+((t.drop (k*n)).length-n)=(t.drop (k*n)).length by omega] at h
   rw[h];congr 1;simp only[sub,ls_mkS,Int.toNat_natCast,List.drop_drop];rw[Nat.add_mul,Nat.one_mul,List.take_of_length_le (by simp[List.length_drop];omega)]
  ·have h1:(t.drop ((k+1)*n))=[]:=List.drop_eq_nil_of_le (by rw[List.length_drop] at hle;rw[Nat.add_mul,Nat.one_mul];omega)
   rw[h1];apply ByteArray.ext;simp only[ByteArray.data_extract,mkS];rw[Array.extract_empty_of_stop_le_start (by omega)]
theorem restS_part (t:List UInt8) (n k:Nat):ls ((restS (mkS t) n k).extract 0 n)=(t.drop (k*n)).take n:=by
 have h:=text_extract (mkS (t.drop (k*n))) 0 n;rw[Nat.zero_add] at h;rw[restS_drop,h,ls_mkS];simp[sub,ls_mkS]
theorem frText_len (f:Fr) (hd:f.data.size≤112):(frText f).length=124:=by
 have:=frBody_len f hd;simp only[frText,List.length_append,List.length_replicate];omega
theorem frEnc_out (f:Fr) (hc:frCheck f=0):(List.flatMap (fun j=>ls ((restS (mkS (frText f)) 31 j).extract 0 31)++[165]) (List.range ((mkS (frText f)).size / 31)))=(frEnc f).1∧(frEnc f).2=0:=by
 unfold frEnc;rw[if_pos hc,size_mkS,frText_len f (frCheck_data hc)];simp only[restS_part];refine⟨?_,?_⟩<;>first|rfl |trivial
theorem flat_succ {α:Type} (g:Nat→List α) (k:Nat):(List.range (k+1)).flatMap g=(List.range k).flatMap g++g k:=by
 rw[List.range_succ,List.flatMap_append];simp
theorem part_len (s:ByteArray) (k:Nat):(ls ((restS s 31 k).extract 0 31)).length≤31:=by
 rw[ls_length,ByteArray.size_extract];omega
theorem out_len (s:ByteArray):∀k,((List.range k).flatMap fun j=>ls ((restS s 31 j).extract 0 31)++[165]).length≤k*32
 |0=>by simp
 |k+1=>by
  have h:=out_len s k;have h2:=part_len s k;rw[flat_succ,List.length_append,List.length_append];simp only[List.length_cons,List.length_nil];omega
structure EncI (w:World) (sb gb bn:Nat) (s:ByteArray) (long:Nat) (j:Nat) (bs:List UInt8) (W:World):Prop where
 below:Below w.heap.size w W
 csb:W.heap[sb]? =some (.cells #[.string (restS s long j)] 9 (0,0))
 cgb:W.heap[gb]? =some (.cells #[.int .i64 long] 3 (0,0))
 isb:IsB w.heap.size bn (Lib.byteCells bs) W
theorem EncI.aside {w W W':World} {sb gb bn:Nat} {s:ByteArray} {long j n:Nat} {bs:List UInt8} (h:EncI w sb gb bn s long j bs W) (ha:Aside n W W') (hn:w.heap.size≤n):EncI w sb gb bn s long j bs W':=
 ⟨h.below.trans (ha.below.mono hn),ha.cells _ _ _ _ h.csb,ha.cells _ _ _ _ h.cgb,h.isb.aside ha⟩
theorem EncI.step {w W:World} {sb gb bn:Nat} {s:ByteArray} {long j:Nat} {bs:List UInt8} (h:EncI w sb gb bn s long j bs W) (hs:w.heap.size≤sb) (hne:sb≠gb):
  EncI w sb gb bn s long (j+1) bs (W.setRow sb #[.string (restS s long (j+1))]):=
 ⟨h.below.trans (Below.setRow' W _ hs),setRow_heap W sb _ _ _ _ h.csb,by rw[heap_setRow_other _ _ _ _ (Ne.symm hne)];exact h.cgb,h.isb.setRow h.csb (by decide) (by decide)⟩
theorem EncI.write {w W W':World} {sb gb bn:Nat} {s:ByteArray} {long j:Nat} {bs bs':List UInt8} (h:EncI w sb gb bn s long j bs W) (hi:IsB w.heap.size bn (Lib.byteCells bs') W') (hk:KeptB w.heap.size bn W W'):
  EncI w sb gb bn s long j bs' W'∧KeepsOthers W W':=by
 obtain⟨cs,hcs⟩:=h.isb.block
 have ne:∀(k:Nat) (o:Obj),W.heap[k]? =some o→(∀c t z,o=.cells c t z→t≠159∧t≠5)→W'.heap[k]? =some o:=fun k o hk' ho=>by
  refine hk.2 k o hk' ?_ ?_
  ·intro e
   obtain rfl:k=bn:=Option.some.inj e;rw[hcs] at hk';exact(ho _ _ _ (Option.some.inj hk').symm).1 rfl
  ·intro c fz e
   exact(ho _ _ _ e).2 rfl
 refine⟨⟨h.below.trans hk.1,ne _ _ h.csb (fun c t z e=>by injection e with _ e;subst e;exact⟨by decide,by decide⟩),ne _ _ h.cgb (fun c t z e=>by injection e with _ e;subst e;exact⟨by decide,by decide⟩),hi⟩,hk.1.size,?_⟩;intro k o hk' ho;exact ne k o hk' (fun c t z e=>by subst e;simp[Obj.isCells] at ho)
set_option maxHeartbeats 4000000 in
theorem frEnc_calls (f:Fr) (hk:0≤f.kind∧f.kind<256) (he:f.epoch≤9223372036854775807) (hi:f.index≤9223372036854775807) (w:World) (hG:GSums w):
  Calls Tryz.prog 34 #[.agg (frC f)] w fun e w'=>e=.returned (.tuple #[.string (mkS (frEnc f).1),.int .i64 (frEnc f).2])∧Below w.heap.size w w':=by
 have hst:=St.start w;have HC:=Lib.hid (frCheck_calls f)
 by_cases hc:frCheck f=0
 case neg=>
  have HR:Hid (frEnc f=([],frCheck f)):=Lib.hid (by unfold frEnc;rw[if_neg hc]);have hne:(frCheck f !=0)=true:=by simpa using hc
  generalize frCheck f=r at*;clear hc;refine calls_marks Tryz.func34 rfl ?_;simp only[Tryz.ntmps34,List.size_toArray,List.length_cons,List.length_nil,Nat.reduceAdd,Nat.reduceSub,Array.replicate_succ,Array.replicate_zero,List.push_toArray,List.append_toArray,List.nil_append,List.cons_append];go_wp2_with (with_reducible first|refine la rfl rfl rfl ‹_› ?_|(refine ba rfl rfl ‹_› rfl ?_;intro bb w' hst));refine(HC.out _).mono ?_;rintro e w1 ⟨rfl,hb⟩;have h1:=hst.below hb;go_wp2_with fail;refine marks_ret rfl (results_tmp2 rfl _ _ _) ⟨?_,h1.end⟩;rw[HR.out];rfl
 case pos=>
  rw[hc] at HC;refine calls_marks Tryz.func34 rfl ?_;simp only[Tryz.ntmps34,List.size_toArray,List.length_cons,List.length_nil,Nat.reduceAdd,Nat.reduceSub,Array.replicate_succ,Array.replicate_zero,List.push_toArray,List.append_toArray,List.nil_append,List.cons_append];go_wp2_with (with_reducible first|refine la rfl rfl rfl ‹_› ?_|(refine ba rfl rfl ‹_› rfl ?_;intro bb w' hst));refine(HC.out _).mono ?_;rintro e w1 ⟨rfl,hb⟩;have h1:=hst.below hb;have hd:=frCheck_data hc;clear hst hb;go_wp2_with (with_reducible first|refine la rfl rfl rfl ‹_› ?_|(refine nw rfl rfl ‹_› ?_;intro bn w' hst));have hib:=IsB.new hst;have h2:=hst.drop;have HT:=Lib.hid (frText_calls f hk he hi hd);have hG2:GSums _:=hG.below h2.end;refine(HT.out _ hG2).mono ?_;rintro e w2 ⟨rfl,hb2⟩;have hib2:=hib.old hb2;have h3:=h2.below hb2;clear h1 h2 hib HT hG2 hb2 HC hst;go_wp2_with fail;refine(sectors_calls _ _ _).mono ?_;rintro e w3 ⟨sb,gb,rfl,hs3⟩;go_wp2_with fail;have hsz:(mkS (frText f)).size≤1000000:=by rw[size_mkS,frText_len f hd];omega
  have HO:=Lib.hid (frEnc_out f hc);have hgs:gb≠sb:=by have:=hs3.nodup;simpa using this
  have hsb:w.heap.size≤sb:=Nat.le_trans h3.size (by rcases hs3.own (sb,#[.string (mkS (frText f))],9) (by simp) with h |h<;>simp at h;exact h);have hE:EncI w sb gb bn (mkS (frText f)) 31 0 [] w3:=⟨h3.end.trans (hs3.end.mono h3.size),hs3.blk (sb,#[.string (mkS (frText f))],9) (by simp),hs3.blk (gb,#[.int .i64 31],3) (by simp),hib2.old hs3.end⟩;have hw3:w.heap.size≤w3.heap.size:=hE.below.size;clear hst h3 hs3 hib2;generalize mkS (frText f)=s at*
  refine wpIn_wide.1 (wp_range (n:=9) (by omega) rfl (enters_of Tryz.func123 (by kernel_rfl) rfl) (sectors1_in 8 (by omega) s 31 (by omega) hsz (by omega) sb gb) (fun _=>rfl)
   (fun k W=>EncI w sb gb bn s 31 k ((List.range k).flatMap fun j=>ls ((restS s 31 j).extract 0 31)++[165]) W) (fun k W=>EncI w sb gb bn s 31 (k-1) ((List.range k).flatMap fun j=>ls ((restS s 31 j).extract 0 31)++[165]) W) (fun _ _=>False)
   (fun k W W' h ha=>h.aside ha hw3) (fun _ _ _ h _=>h) (fun k W W' h ha=>h.aside ha hw3)
   (fun k W h=>⟨h.csb,h.cgb⟩) (fun k W _ h=>⟨⟨h.csb,h.cgb⟩,h.step hsb (Ne.symm hgs)⟩) hE _ (by intro l k W K hK;gi_wp2;exact hK) ?body ?done ?stop)
  case stop=>exact fun D k W _ h=>h.elim
  case done=>
   intro D W hI hD hwD;have hW:=hI.below.size;have hstr:=builder_string_calls w.heap.size bn _ W hI.isb hW;have HS:=Lib.hid hstr
   have HD:Hid (∀W',KeptB w.heap.size bn W W'→Below w.heap.size w W'∧W'.heap[D]? =some (.deferred (some []))):=Lib.hid (fun W' hk'=>⟨hI.below.trans hk'.1,by
    obtain⟨cs,hcs⟩:=hI.isb.block;refine hk'.2 D _ hD ?_ (fun c fz e=>by cases e);intro e;obtain rfl:D=bn:=Option.some.inj e;rw[hcs] at hD
    cases hD⟩)
   clear hstr hI hE hD;generalize hout:(List.flatMap (fun j=>ls ((restS s 31 j).extract 0 31)++[165]) (List.range (s.size / 31)))=out at*;go_wp2_with fail;refine HS.out.mono ?_;rintro e W2 ⟨rfl,_,hk2⟩;obtain⟨hb2,hd2⟩:=HD.out W2 hk2;go_wp2_with fail;refine marks_ret1 rfl hd2 (results_tmp2 rfl _ _ _) ⟨?_,hb2.trans (Aside.putObj W2 D _ _ (by omega) hd2 rfl).below⟩;rw[←HO.out.1,HO.out.2];rfl
  case body=>
   intro l k W hlt hI;have hk31:k≤1000000:=Nat.le_trans (Nat.le_of_lt hlt) (Nat.le_trans (Nat.div_le_self _ _) hsz);have ho:=out_len s k;have hp:=part_len s k;have HF:=Lib.hid (flat_succ (fun j=>ls ((restS s 31 j).extract 0 31)++[165]) k);generalize hout:((List.range k).flatMap fun j=>ls ((restS s 31 j).extract 0 31)++[165])=out at*;have hW:=hI.below.size;have hpn:1≤9-1-1:=by omega
   have HW:=Lib.hid (write_calls w.heap.size bn out ((restS s 31 k).extract 0 31) W hI.isb (by rw[ls_length] at hp;omega) hW)
   gi_wp2
   refine⟨trivial,?_⟩;refine(CallsIn.inRound l (callsIn_wide.2 HW.out)).mono ?_;rintro e W2 ⟨rfl,hi2,hk2⟩;obtain⟨hI2,ko2⟩:=hI.write hi2 hk2;have hW2:=hI2.below.size;have HW2:=Lib.hid (write_calls w.heap.size bn _ ⟨#[165]⟩ W2 hI2.isb (by rw[List.length_append];have:(ByteArray.mk #[165]).size=1:=rfl;omega) hW2)
   gi_wp2
   refine⟨trivial,?_⟩;refine(CallsIn.inRound l (callsIn_wide.2 HW2.out)).mono ?_;rintro e W3 ⟨rfl,hi3,hk3⟩;obtain⟨hI3,ko3⟩:=hI2.write hi3 hk3
   gi_wp2
   refine⟨ko2.trans ko3,?_⟩;show EncI w sb gb bn s 31 (k+1-1) ((List.range (k+1)).flatMap fun j=>ls ((restS s 31 j).extract 0 31)++[165]) W3;rw[HF.out];rw[List.append_assoc] at hI3;exact hI3
end Go.Proofs.YtdkeiefgkgpcbaaGreatDoor
