/- Steps of the proof: ShaBlock. -/
import Derived.Test.YtdkeiefgkgpcbaaGreatDoorP07
set_option linter.unusedVariables false
set_option linter.unusedSimpArgs false
set_option maxRecDepth 100000
namespace Go.Proofs.YtdkeiefgkgpcbaaGreatDoor
open Go.RowKit
attribute [local go_sem] w32_xor w32_and w32_or w32_add w32_shr w32_shl
def w0:W32:=⟨0,by decide⟩
def u32C (l:List W32):Array Value:=(l.map v32).toArray
theorem cellU {l:List W32} {i:Nat} (h:i<l.length):CellAt (u32C l) i (v32 (l.getD i w0)):=⟨by
 simp[u32C,List.getD,h]⟩
theorem wrU {l:List W32} {i:Nat} {x:W32} (h:i<l.length):WrAt (u32C l) i 1 (v32 x) (u32C (l.set i x)):=
 wrOne (by simp[u32C];omega) (by simp[u32C,List.map_set])
def writerC (h:List W32) (left:Value) (many:Int) (made:Bool):Array Value:=(h.map v32++[left,.int .i64 many,.bool made]).toArray
instance one32:OneT 223:=⟨fun w=>by kernel_rfl,by kernel_rfl⟩
instance agg64:AggT 298 64:=⟨fun w=>by kernel_rfl,by kernel_rfl⟩
instance agg8:AggT 238 8:=⟨fun w=>by kernel_rfl,by kernel_rfl⟩
instance aggWriter:AggT 240 11:=⟨fun w=>by kernel_rfl,by kernel_rfl⟩
instance zero64:ZeroT 298 (u32C (List.replicate 64 w0)):=.agg fun w=>by kernel_rfl
instance zero8:ZeroT 238 (u32C (List.replicate 8 w0)):=.agg fun w=>by kernel_rfl
def word (b:List UInt8) (i:Nat):W32:=((((wb (b.getD i 0)).shl 24).or ((wb (b.getD (i+1) 0)).shl 16)).or ((wb (b.getD (i+2) 0)).shl 8)).or (wb (b.getD (i+3) 0))
theorem idxS (x:Addr) (len cap i:Nat) (h:i<len) (w:World):(Instr.indexAt 47 (.slice (some x) len cap) (.int .i64 i)).run Tryz.prog w=.ok (.pointer (some (x.add i))) w:=by
 have e1:Tryz.prog.elem 47=5:=by kernel_rfl
 have e2:(Tryz.prog.info? 5).map (·.size)=some 1:=by kernel_rfl
 rw[run_indexAt_slice w 47 x len cap .i64 i (by rw[e1];exact Tryz.underlying47),if_pos ⟨by omega,by omega⟩,e1,run_size e2,Result.andThen_ok,Int.toNat_natCast,Nat.mul_one]
theorem idxA64 (g i:Nat) (h:i<64) (w:World):(Instr.indexAt 298 (.pointer (some ⟨g,0,none⟩)) (.int .i64 i)).run Tryz.prog w=.ok (.pointer (some ⟨g,i,none⟩)) w:=by
 have e1:Tryz.prog.elem 298=223:=by kernel_rfl
 have e2:Tryz.prog.arrayLen 298=64:=by kernel_rfl
 have e3:(Tryz.prog.info? 223).map (·.size)=some 1:=by kernel_rfl
 rw[run_indexAt_array w 298 ⟨g,0,none⟩ .i64 i (by rw[e1,e2];exact Tryz.underlying298),e2,if_pos ⟨by omega,by omega⟩,e1,run_size e3,Result.andThen_ok,Int.toNat_natCast,Nat.mul_one,addr_add,Nat.zero_add]
section
variable {ops:Array Oper} {F:Flow} {Qf:List Blk→Act→Prop} {l:List Nat} {k:Nat} {o:Oper} {L:List Blk} {a:Act}
theorem fl_ldc (h0:ops[k]? =some o) (hs:F.special k=false) (hp:F.pure k=false) (T:TypeId) (x:Operand) (ho:o.op=.load T x) (ad:Addr) (hx:a.eval x=.pointer (some ad)) (hw:Region.wanted o (yielded ops a.tmps)=true) (hB:∀w,St F.S F.w0 w L→F.B w)
  (v:Value) [t:OneT T] (hc:∀w,F.B w→w.cell? ad=some v) (hk:wpLX ops F Qf l L (a.put o.dst v)):wpLX ops F Qf (k::l) L a:=
 fl_read h0 hs hp v hw hB (fun w hw'=>by
  have hl:(loadVar T ad).run Tryz.prog w=.ok v w:=by simp[loadVar,Sem.run_bind,t.agg w,hc w hw']
  unfold execOp
  simp only[ho,hx,Instr.loadAt,Instr.sureAddr,Sem.run_bind,Sem.run_pure,Result.andThen_ok,hl]) hk
end
theorem idxA8 (g i:Nat) (h:i<8) (w:World):(Instr.indexAt 238 (.pointer (some ⟨g,0,none⟩)) (.int .i64 i)).run Tryz.prog w=.ok (.pointer (some ⟨g,i,none⟩)) w:=by
 have e1:Tryz.prog.elem 238=223:=by kernel_rfl
 have e2:Tryz.prog.arrayLen 238=8:=by kernel_rfl
 have e3:(Tryz.prog.info? 223).map (·.size)=some 1:=by kernel_rfl
 rw[run_indexAt_array w 238 ⟨g,0,none⟩ .i64 i (by rw[e1,e2];exact Tryz.underlying238),e2,if_pos ⟨by omega,by omega⟩,e1,run_size e3,Result.andThen_ok,Int.toNat_natCast,Nat.mul_one,addr_add,Nat.zero_add]
theorem idxV64 (M:List W32) (hM:M.length=64) (i:Nat) (h:i<64) (w:World):(Instr.index 298 (.agg (M.map v32).toArray) (.int .i64 i)).run Tryz.prog w=.ok (v32 (M.getD i w0)) w:=by
 have hc:=cellU (l:=M) (i:=i) (by omega)
 have hp:=part_one (T:=223) (C:=u32C M) (i:=i) w
 have e3:(Tryz.prog.info? 223).map (·.size)=some 1:=by kernel_rfl
 unfold Instr.index
 simp only[asIntOf,Sem.run_bind,Sem.run_pure,Result.andThen_ok,run_underlying Tryz.underlying298]
 rw[if_pos ⟨by omega,by omega⟩]
 simp only[Sem.run_bind,run_size e3,Result.andThen_ok,Int.toNat_natCast,Nat.mul_one]
 exact hp
instance cell8_0 {a0 a1 a2 a3 a4 a5 a6 a7:W32}:CellAt (u32C [a0,a1,a2,a3,a4,a5,a6,a7]) 0 (v32 a0):=⟨rfl⟩
instance cell8_1 {a0 a1 a2 a3 a4 a5 a6 a7:W32}:CellAt (u32C [a0,a1,a2,a3,a4,a5,a6,a7]) 1 (v32 a1):=⟨rfl⟩
instance cell8_2 {a0 a1 a2 a3 a4 a5 a6 a7:W32}:CellAt (u32C [a0,a1,a2,a3,a4,a5,a6,a7]) 2 (v32 a2):=⟨rfl⟩
instance cell8_3 {a0 a1 a2 a3 a4 a5 a6 a7:W32}:CellAt (u32C [a0,a1,a2,a3,a4,a5,a6,a7]) 3 (v32 a3):=⟨rfl⟩
instance cell8_4 {a0 a1 a2 a3 a4 a5 a6 a7:W32}:CellAt (u32C [a0,a1,a2,a3,a4,a5,a6,a7]) 4 (v32 a4):=⟨rfl⟩
instance cell8_5 {a0 a1 a2 a3 a4 a5 a6 a7:W32}:CellAt (u32C [a0,a1,a2,a3,a4,a5,a6,a7]) 5 (v32 a5):=⟨rfl⟩
instance cell8_6 {a0 a1 a2 a3 a4 a5 a6 a7:W32}:CellAt (u32C [a0,a1,a2,a3,a4,a5,a6,a7]) 6 (v32 a6):=⟨rfl⟩
instance cell8_7 {a0 a1 a2 a3 a4 a5 a6 a7:W32}:CellAt (u32C [a0,a1,a2,a3,a4,a5,a6,a7]) 7 (v32 a7):=⟨rfl⟩
instance wr8_0 {a0 a1 a2 a3 a4 a5 a6 a7 x:W32}:WrAt (u32C [a0,a1,a2,a3,a4,a5,a6,a7]) 0 1 (v32 x) (u32C [x,a1,a2,a3,a4,a5,a6,a7]):=wrOne (Nat.le_of_ble_eq_true rfl) rfl
instance wr8_4 {a0 a1 a2 a3 a4 a5 a6 a7 x:W32}:WrAt (u32C [a0,a1,a2,a3,a4,a5,a6,a7]) 4 1 (v32 x) (u32C [a0,a1,a2,a3,x,a5,a6,a7]):=wrOne (Nat.le_of_ble_eq_true rfl) rfl
section
variable {ops:Array Oper} {F:Flow} {Qf:List Blk→Act→Prop} {l:List Nat} {k:Nat} {o:Oper} {L:List Blk} {a:Act}
theorem fl_copy (h0:ops[k]? =some o) (hs:F.special k=true) (x y:Operand) (dT sT elem:TypeId) (ho:o.op=.call {callee:=.builtin .copy,args:=#[x,y],argTypes:=#[dT,sT]}) (hu:Tryz.prog.underlying dT=some (.slice elem)) (hsz:(Tryz.prog.info? elem).map (·.size)=some 1)
  (g off dLen dCap:Nat) (ad:Addr) (sLen sCap:Nat) (hx:a.eval x=.slice (some ⟨g,off,none⟩) dLen dCap) (hy:a.eval y=.slice (some ad) sLen sCap) {C C':Array Value} {Tb:TypeId} {L':List Blk} [kk:Has L g C Tb] (cs:List Value) (hn:cs.length=Nat.min sLen dLen)
  (hsrc:∀w,St F.S F.w0 w L→∀j v,cs[j]? =some v→w.cell? (ad.add j)=some v) (hfit:off+cs.length≤C.size) (h1:∀v∈cs,v.oneCell'=true) (hC:(C.toList.take off++cs++C.toList.drop (off+cs.length)).toArray=C') [u:Upd L g C Tb C' L']
  (hB:F.late k=true∨∀w,St F.S F.w0 w L'→F.B w) (hk:wpLX ops F Qf l L' (a.put o.dst (goInt cs.length))):wpLX ops F Qf (k::l) L a:=by
 show xstep _ _ _ _ _ _
 unfold xstep
 rw[h0]
 show xdo _ _ _ _ _ _ _
 unfold xdo
 rw[if_pos hs]
 refine⟨fun L'' v=>L''=L'∧v=goInt cs.length,fun w hw=>Or.inl ⟨goInt cs.length,w.setRow g C',L',?_,⟨rfl,rfl⟩,hw.upd (St.write1 hw.has)⟩,?_⟩
 ·have hrun:=run_copy_row (P:=Tryz.prog) w dT sT o.type elem g off dLen dCap ad sLen sCap C Tb cs hu hsz hw.has hn (hsrc w hw) hfit h1
  rw[hC] at hrun
  unfold execOp
  simp[ho,resolve,invoke,builtin,hx,hy,hrun,Result.andThen,Sem.run_bind]
 ·rintro L'' v ⟨rfl,rfl⟩
  exact⟨hB,hk⟩
end
theorem part7 {a0 a1 a2 a3 a4 a5 a6 a7:W32}:PartAt (u32C [a0,a1,a2,a3,a4,a5,a6,a7]) 0 7 [v32 a0,v32 a1,v32 a2,v32 a3,v32 a4,v32 a5,v32 a6]:=⟨rfl,fun j v hv=>by
 match j with
 |0=>exact hv
 |1=>exact hv
 |2=>exact hv
 |3=>exact hv
 |4=>exact hv
 |5=>exact hv
 |6=>exact hv
 |j+7=>simp at hv⟩
theorem turn_below (x:W32) (n:Nat) (hn:n∈turnsL) (w:World):Calls Tryz.prog 188 #[v32 x,.int .i64 n] w fun e w'=>e=.returned (v32 (x.rotr n))∧Below w.heap.size w w':=
 (turn_calls x n hn w).mono fun e w' ⟨he,hw⟩=>⟨he,hw ▸ Below.refl _ _⟩
theorem run_sub_nat (T:TypeId) {a b c:Nat} (h:a=c+b) (hb:a<9223372036854775808:=by omega) (w:World):(binOp .sub T (.int .i64 a) (.int .i64 b)).run Tryz.prog w=.ok (.int .i64 (c:Nat)) w:=by
 rw[binOp_sub]
 unfold Op.intArith
 have e:(a:Int)-(b:Int)=(c:Int):=by omega
 simp only[e,wrap_i64 (x:=(c:Int)) (by omega) (by omega)]
 rfl
theorem St.only {S:List Nat} {w0 w:World} {L:List Blk} (h:St S w0 w L) {g:Nat} {C:Array Value} {T:TypeId} [k:Has L g C T]:St S w0 w [(g,C,T)]:=
 ⟨h.os,h.tape,h.output,h.size,h.kept,fun p hp=>by simp at hp;subst hp;exact h.own _ k.mem,by simp,fun p hp=>by simp at hp;subst hp;exact h.has⟩
theorem St.cell {S:List Nat} {w0 w:World} {L:List Blk} (h:St S w0 w L) {a:Addr} (hlt:a.block<w0.heap.size) (hn:a.block∉S):w.cell? a=w0.cell? a:=by
 unfold World.cell?
 rw[h.kept _ hlt hn]
def schedV (m:List W32) (t:Nat):W32:=
 (((m.getD (t-16) w0).add ((((m.getD (t-15) w0).rotr 7).xor ((m.getD (t-15) w0).rotr 18)).xor ((m.getD (t-15) w0).shr 3))).add (m.getD (t-7) w0)).add ((((m.getD (t-2) w0).rotr 17).xor ((m.getD (t-2) w0).rotr 19)).xor ((m.getD (t-2) w0).shr 10))
def schedStep (b:List UInt8) (m:List W32) (t:Nat):List W32:=if t<16 then m.set t (word b (4*t)) else m.set t (schedV m t)
def sched (b:List UInt8) (k:Nat):List W32:=(List.range k).foldl (schedStep b) (List.replicate 64 w0)
theorem sched_succ (b:List UInt8) (k:Nat):sched b (k+1)=schedStep b (sched b k) k:=by simp[sched,List.range_succ]
theorem schedStep_len (b:List UInt8) (m:List W32) (t:Nat):(schedStep b m t).length=m.length:=by
 unfold schedStep
 split<;>simp
theorem sched_len (b:List UInt8):∀k,(sched b k).length=64
 |0=>by simp[sched]
 |k+1=>by rw[sched_succ,schedStep_len,sched_len b k]
def compV (v:List W32) (X KT:W32):List W32:=
 match v with
 | [a0,a1,a2,a3,a4,a5,a6,a7]=>
  let x:=W32.add X (W32.add (W32.add (W32.add a7 (W32.xor (W32.xor (W32.rotr a4 6) (W32.rotr a4 11)) (W32.rotr a4 25))) (W32.xor a6 (W32.and a4 (W32.xor a5 a6)))) KT)
  let y:=W32.add (W32.xor (W32.xor (W32.rotr a0 2) (W32.rotr a0 13)) (W32.rotr a0 22)) (W32.or (W32.and a0 (W32.or a1 a2)) (W32.and a1 a2))
  [W32.add x y,a0,a1,a2,W32.add a3 x,a4,a5,a6]
 |_=>v
def shaT:List Nat:=[0x428a2f98,0x71374491,0xb5c0fbcf,0xe9b5dba5,0x3956c25b,0x59f111f1,0x923f82a4,0xab1c5ed5,0xd807aa98,0x12835b01,0x243185be,0x550c7dc3,0x72be5d74,0x80deb1fe,0x9bdc06a7,0xc19bf174,0xe49b69c1,0xefbe4786,0x0fc19dc6,0x240ca1cc,0x2de92c6f,0x4a7484aa,0x5cb0a9dc,0x76f988da,0x983e5152,0xa831c66d,0xb00327c8,0xbf597fc7,0xc6e00bf3,0xd5a79147,0x06ca6351,0x14292967,0x27b70a85,0x2e1b2138,0x4d2c6dfc,0x53380d13,0x650a7354,0x766a0abb,0x81c2c92e,0x92722c85,0xa2bfe8a1,0xa81a664b,0xc24b8b70,0xc76c51a3,0xd192e819,0xd6990624,0xf40e3585,0x106aa070,0x19a4c116,0x1e376c08,0x2748774c,0x34b0bcb5,0x391c0cb3,0x4ed8aa4a,0x5b9cca4f,0x682e6ff3,0x748f82ee,0x78a5636f,0x84c87814,0x8cc70208,0x90befffa,0xa4506ceb,0xbef9a3f7,0xc67178f2]
def mk32 (n:Nat):W32:=⟨n%4294967296,Nat.mod_lt _ (by decide)⟩
def comp (m:List W32) (h:List W32) (k:Nat):List W32:=(List.range k).foldl (fun v t=>compV v (m.getD t w0) (mk32 (shaT.getD t 0))) h
theorem comp_succ (m h:List W32) (k:Nat):comp m h (k+1)=compV (comp m h k) (m.getD k w0) (mk32 (shaT.getD k 0)):=by simp[comp,List.range_succ]
theorem len8 {v:List W32} (h:v.length=8):∃a0 a1 a2 a3 a4 a5 a6 a7,v=[a0,a1,a2,a3,a4,a5,a6,a7]:=by
 match v,h with
 | [a,b,c,d,e,f,g,i],_=>exact⟨_,_,_,_,_,_,_,_,rfl⟩
theorem comp_len (m h:List W32) (hh:h.length=8):∀k,(comp m h k).length=8
 |0=>by simpa[comp] using hh
 |k+1=>by
  obtain⟨a0,a1,a2,a3,a4,a5,a6,a7,e⟩:=len8 (comp_len m h hh k)
  rw[comp_succ,e];rfl
structure GSha (w:World):Prop where
 at_:∀i,i<64→w.cell? ⟨2,i,none⟩=some (v32 (mk32 (shaT.getD i 0)))
theorem GSha.below {w w':World} (h:GSha w) (hb:Below w.heap.size w w'):GSha w':=
 ⟨fun i hi=>(hb.cell (p:=⟨_,i,none⟩) (cell_lt (h.at_ i hi))).trans (h.at_ i hi)⟩
theorem writer_cell {h:List W32} (hh:h.length=8) {left:Value} {many:Int} {made:Bool} {i:Nat} (hi:i<8):CellAt (writerC h left many made) i (v32 (h.getD i w0)):=⟨by
 simp only[writerC,List.getElem?_toArray]
 rw[List.getElem?_append_left (by simpa[hh] using hi)]
 simp[List.getD,hh,hi]⟩
theorem writer_wr {h:List W32} (hh:h.length=8) {left:Value} {many:Int} {made:Bool} {i:Nat} {x:W32} (hi:i<8):WrAt (writerC h left many made) i 1 (v32 x) (writerC (h.set i x) left many made):=
 wrOne (by simp[writerC,hh];omega) (by
  simp only[writerC,List.setIfInBounds_toArray,List.map_set]
  rw[List.set_append_left _ _ (by simpa[hh] using hi)])
def addUp (h v:List W32) (k:Nat):List W32:=(List.range k).foldl (fun s i=>s.set i ((s.getD i w0).add (v.getD i w0))) h
theorem addUp_succ (h v:List W32) (k:Nat):addUp h v (k+1)=(addUp h v k).set k (((addUp h v k).getD k w0).add (v.getD k w0)):=by simp[addUp,List.range_succ]
theorem addUp_len (h v:List W32) (hh:h.length=8):∀k,(addUp h v k).length=8
 |0=>by simpa[addUp] using hh
 |k+1=>by rw[addUp_succ,List.length_set,addUp_len h v hh k]
def blockF (h:List W32) (b:List UInt8):List W32:=addUp h (comp (sched b 64) h 64) 8
theorem blockF_len (h:List W32) (b:List UInt8) (hh:h.length=8):(blockF h b).length=8:=addUp_len _ _ hh 8
set_option maxHeartbeats 4000000 in
theorem block_calls (g:Nat) (h:List W32) (hh:h.length=8) (left:Value) (many:Int) (made:Bool) (x:Addr) (cap:Nat) (b:List UInt8) (hb:b.length=64) (w:World)
  (hg:w.heap[g]? =some (.cells (writerC h left many made) 240 (0,0))) (hc:∀j,j<64→w.cell? (x.add j)=some (.int .u8 (b.getD j 0).toNat)) (hx0:x.block<w.heap.size) (hx:x.block≠g) (hcap:64≤cap) (hS:GSha w) (hgt:2≠g):
  Calls Tryz.prog 170 #[.pointer (some ⟨g,0,none⟩),.slice (some x) 64 cap] w fun e w'=>e=.returned (.tuple #[])∧St [g] w w' [(g,writerC (blockF h b) left many made,240)]:=by
 have hst:St [g] w w [(g,writerC h left many made,240)]:=⟨rfl,rfl,rfl,Nat.le_refl _,fun _ _ _=>rfl,fun p hp=>by simp at hp;subst hp;exact Or.inr (by simp),by simp,fun p hp=>by simp at hp;subst hp;exact hg⟩
 have HC:=Lib.hid hc
 clear hc hg
 go_enter Tryz.func170,Tryz.ntmps170
 go_wp2_with (with_reducible (refine nw rfl rfl ‹_› ?_;intro bn w' hst))
 go_loopw [16] (fun iv wr=>∃k:Nat,k≤64∧iv=.int .i64 k∧St [g] w wr [(bn,u32C (sched b k),298),(g,writerC h left many made,240)]) (fun i _=>64-(intOf i).toNat)
 case atStart=>exact⟨0,by omega,rfl,hst⟩
 case round=>
  obtain⟨k,hk,rfl,hst⟩:=hrel
  by_cases hlt:k<64
  ·by_cases h16:k<16
   ·have hl:=sched_len b k
    have wI:WrAt (u32C (sched b k)) k 1 (v32 (word b (4*k))) (u32C (schedStep b (sched b k) k)):=by
     have:=wrU (l:=sched b k) (i:=k) (x:=word b (4*k)) (by omega)
     unfold schedStep
     rw[if_pos h16]
     exact this
    rw[←sched_succ] at wI
    generalize hM1:sched b (k+1)=M1 at wI
    generalize sched b k=M at*
    have hne:¬cap=4*k:=by omega
    go_wp2_with fail
    have hY:∀x',St [g] w x' [(bn,u32C M,298),(g,writerC h left many made,240)]→∀j,j<4→x'.cell? ((x.add (4*k)).add j)=some (.int .u8 (b.getD (4*k+j) 0).toNat):=fun x' hx' j hj=>by
     rw[add_add2,hx'.cell (by rw[add_block];exact hx0) (by rw[add_block];simpa using hx)]
     exact HC.out _ (by omega)
    have HB:Hid (∀x',St [g] w x' [(bn,u32C M,298),(g,writerC h left many made,240)]→x'.cell? ((x.add (4*k)).add 0)=some (.int .u8 (b.getD (4*k) 0).toNat)∧x'.cell? ((x.add (4*k)).add 1)=some (.int .u8 (b.getD (4*k+1) 0).toNat)∧
     x'.cell? ((x.add (4*k)).add 2)=some (.int .u8 (b.getD (4*k+2) 0).toNat)∧x'.cell? ((x.add (4*k)).add 3)=some (.int .u8 (b.getD (4*k+3) 0).toNat)):=Lib.hid (fun x' hx'=>⟨hY x' hx' 0 (by omega),hY x' hx' 1 (by omega),hY x' hx' 2 (by omega),hY x' hx' 3 (by omega)⟩)
    have hn4:4≤64-4*k:=by omega
    unfold word at wI
    clear hY HC
    generalize b.getD (4*k) 0=B0 at*
    generalize b.getD (4*k+1) 0=B1 at*
    generalize b.getD (4*k+2) 0=B2 at*
    generalize b.getD (4*k+3) 0=B3 at*
    generalize x.add (4*k)=y at*
    generalize 64-4*k=n at*
    generalize cap-4*k=q at*
    refine wp_region_flow ⟨[g],w,fun x'=>x'.cell? (y.add 0)=some (.int .u8 B0.toNat)∧x'.cell? (y.add 1)=some (.int .u8 B1.toNat)∧x'.cell? (y.add 2)=some (.int .u8 B2.toNat)∧x'.cell? (y.add 3)=some (.int .u8 B3.toNat),fun i=>i==24,fun i=> !(i==3||i==8||i==14||i==20),fun i=>i==24⟩ (List.range 25) rfl hst (by kernel_rfl) (by kernel_rfl) (by kernel_rfl) (by kernel_rfl) (by kernel_rfl) ?_
    refine fl_pure rfl rfl rfl (Value.int .i64 k) (by kernel_rfl) (fun w=>by kernel_rfl) ?_
    refine fl_pure rfl rfl rfl (Value.slice (some y) n q) (by kernel_rfl) (fun w=>by kernel_rfl) ?_
    refine fl_sem rfl rfl rfl (Instr.indexAt 47 (.slice (some y) n q) (.int .i64 (0:Nat))) (by kernel_rfl) (Value.pointer (some (y.add 0))) (idxS y n q 0 (by omega)) (by kernel_rfl) ?_
    refine fl_ldc rfl rfl rfl _ _ rfl (y.add 0) (by kernel_rfl) (by kernel_rfl) HB.out (Value.int .u8 B0.toNat) (fun w hw=>hw.1) ?_
    refine fl_sem rfl rfl rfl (convert 5 223 (.int .u8 B0.toNat)) (by kernel_rfl) (v32 (wb B0)) (run_conv32 B0) (by kernel_rfl) ?_
    refine fl_sem rfl rfl rfl (binOp .shl 223 (v32 (wb B0)) (.int .u64 (24:Nat))) (by kernel_rfl) (v32 (W32.shl (wb B0) 24)) (run_shl32 _ (wb B0) 24 (by decide)) (by kernel_rfl) ?_
    refine fl_pure rfl rfl rfl (Value.slice (some y) n q) (by kernel_rfl) (fun w=>by kernel_rfl) ?_
    refine fl_sem rfl rfl rfl (Instr.indexAt 47 (.slice (some y) n q) (.int .i64 (1:Nat))) (by kernel_rfl) (Value.pointer (some (y.add 1))) (idxS y n q 1 (by omega)) (by kernel_rfl) ?_
    refine fl_ldc rfl rfl rfl _ _ rfl (y.add 1) (by kernel_rfl) (by kernel_rfl) HB.out (Value.int .u8 B1.toNat) (fun w hw=>hw.2.1) ?_
    refine fl_sem rfl rfl rfl (convert 5 223 (.int .u8 B1.toNat)) (by kernel_rfl) (v32 (wb B1)) (run_conv32 B1) (by kernel_rfl) ?_
    refine fl_sem rfl rfl rfl (binOp .shl 223 (v32 (wb B1)) (.int .u64 (16:Nat))) (by kernel_rfl) (v32 (W32.shl (wb B1) 16)) (run_shl32 _ (wb B1) 16 (by decide)) (by kernel_rfl) ?_
    refine fl_sem rfl rfl rfl (binOp .or 223 (v32 (W32.shl (wb B0) 24)) (v32 (W32.shl (wb B1) 16))) (by kernel_rfl) (v32 (W32.or (W32.shl (wb B0) 24) (W32.shl (wb B1) 16))) (run_or32 _ (W32.shl (wb B0) 24) (W32.shl (wb B1) 16)) (by kernel_rfl) ?_
    refine fl_pure rfl rfl rfl (Value.slice (some y) n q) (by kernel_rfl) (fun w=>by kernel_rfl) ?_
    refine fl_sem rfl rfl rfl (Instr.indexAt 47 (.slice (some y) n q) (.int .i64 (2:Nat))) (by kernel_rfl) (Value.pointer (some (y.add 2))) (idxS y n q 2 (by omega)) (by kernel_rfl) ?_
    refine fl_ldc rfl rfl rfl _ _ rfl (y.add 2) (by kernel_rfl) (by kernel_rfl) HB.out (Value.int .u8 B2.toNat) (fun w hw=>hw.2.2.1) ?_
    refine fl_sem rfl rfl rfl (convert 5 223 (.int .u8 B2.toNat)) (by kernel_rfl) (v32 (wb B2)) (run_conv32 B2) (by kernel_rfl) ?_
    refine fl_sem rfl rfl rfl (binOp .shl 223 (v32 (wb B2)) (.int .u64 (8:Nat))) (by kernel_rfl) (v32 (W32.shl (wb B2) 8)) (run_shl32 _ (wb B2) 8 (by decide)) (by kernel_rfl) ?_
    refine fl_sem rfl rfl rfl (binOp .or 223 (v32 (W32.or (W32.shl (wb B0) 24) (W32.shl (wb B1) 16))) (v32 (W32.shl (wb B2) 8))) (by kernel_rfl) (v32 (W32.or (W32.or (W32.shl (wb B0) 24) (W32.shl (wb B1) 16)) (W32.shl (wb B2) 8))) (run_or32 _ (W32.or (W32.shl (wb B0) 24) (W32.shl (wb B1) 16)) (W32.shl (wb B2) 8)) (by kernel_rfl) ?_
    refine fl_pure rfl rfl rfl (Value.slice (some y) n q) (by kernel_rfl) (fun w=>by kernel_rfl) ?_
    refine fl_sem rfl rfl rfl (Instr.indexAt 47 (.slice (some y) n q) (.int .i64 (3:Nat))) (by kernel_rfl) (Value.pointer (some (y.add 3))) (idxS y n q 3 (by omega)) (by kernel_rfl) ?_
    refine fl_ldc rfl rfl rfl _ _ rfl (y.add 3) (by kernel_rfl) (by kernel_rfl) HB.out (Value.int .u8 B3.toNat) (fun w hw=>hw.2.2.2) ?_
    refine fl_sem rfl rfl rfl (convert 5 223 (.int .u8 B3.toNat)) (by kernel_rfl) (v32 (wb B3)) (run_conv32 B3) (by kernel_rfl) ?_
    refine fl_sem rfl rfl rfl (binOp .or 223 (v32 (W32.or (W32.or (W32.shl (wb B0) 24) (W32.shl (wb B1) 16)) (W32.shl (wb B2) 8))) (v32 (wb B3))) (by kernel_rfl) (v32 (W32.or (W32.or (W32.or (W32.shl (wb B0) 24) (W32.shl (wb B1) 16)) (W32.shl (wb B2) 8)) (wb B3))) (run_or32 _ (W32.or (W32.or (W32.shl (wb B0) 24) (W32.shl (wb B1) 16)) (W32.shl (wb B2) 8)) (wb B3)) (by kernel_rfl) ?_
    refine fl_sem rfl rfl rfl (Instr.indexAt 298 (.pointer (some ⟨bn,0,none⟩)) (.int .i64 k)) (by kernel_rfl) (Value.pointer (some ⟨bn,k,none⟩)) (idxA64 bn k hlt) (by kernel_rfl) ?_
    refine fl_store rfl rfl _ _ _ rfl bn k (by kernel_rfl) (v32 (W32.or (W32.or (W32.or (W32.shl (wb B0) 24) (W32.shl (wb B1) 16)) (W32.shl (wb B2) 8)) (wb B3))) (by kernel_rfl) (Or.inl rfl) ?_
    intro w2 hst2
    go_wp2_with fail
    go_roundw
    case rel=>exact⟨k+1,by omega,by first|rfl |simp,by rw[hM1];exact hst2⟩
    case measure=>simp[intOf];omega
   ·have hl:=sched_len b k
    have hs1:=sched_succ b k
    have wI:=wrU (l:=sched b k) (i:=k) (x:=schedV (sched b k) k) (by omega)
    have e:schedStep b (sched b k) k=(sched b k).set k (schedV (sched b k) k):=by unfold schedStep;rw[if_neg h16]
    rw[←e,←hs1] at wI
    unfold schedV at wI
    clear e hs1
    have cX:=cellU (l:=sched b k) (i:=k-15) (by omega)
    have cY:=cellU (l:=sched b k) (i:=k-2) (by omega)
    have cA:=cellU (l:=sched b k) (i:=k-16) (by omega)
    have cZ:=cellU (l:=sched b k) (i:=k-7) (by omega)
    generalize hM1:sched b (k+1)=M1 at wI
    generalize sched b k=M at*
    generalize M.getD (k-15) w0=X at*
    generalize M.getD (k-2) w0=Y at*
    generalize M.getD (k-16) w0=A at*
    generalize M.getD (k-7) w0=Z at*
    have HBB:Hid (∀x',St [g] w x' [(bn,u32C M,298),(g,writerC h left many made,240)]→x'.heap[bn]? =some (.cells (u32C M) 298 (0,0))):=Lib.hid (fun x' hx'=>hx'.has)
    go_wp2_with fail
    refine wp_region_flow ⟨[g],w,fun x'=>x'.heap[bn]? =some (.cells (u32C M) 298 (0,0)),fun _=>false,fun i=> !(i==3||i==7),fun _=>false⟩ (List.range 10) rfl hst (by kernel_rfl) (by kernel_rfl) (by kernel_rfl) (by kernel_rfl) (by kernel_rfl) ?_
    refine fl_pure rfl rfl rfl (Value.int .i64 k) (by kernel_rfl) (fun w=>by kernel_rfl) ?_
    refine fl_sem rfl rfl rfl (binOp .sub 3 (.int .i64 (k:Nat)) (.int .i64 (15:Nat))) (by kernel_rfl) (Value.int .i64 (k-15:Nat)) (run_sub_nat _ (by omega)) (by kernel_rfl) ?_
    refine fl_sem rfl rfl rfl (Instr.indexAt 298 (.pointer (some ⟨bn,0,none⟩)) (.int .i64 (k-15:Nat))) (by kernel_rfl) (Value.pointer (some ⟨bn,k-15,none⟩)) (idxA64 bn (k-15) (by omega)) (by kernel_rfl) ?_
    refine fl_ld rfl rfl rfl _ _ rfl bn (k-15) (by kernel_rfl) (by kernel_rfl) HBB.out (fun x hx=>hx) (v:=v32 X) ?_
    refine fl_pure rfl rfl rfl (Value.int .i64 k) (by kernel_rfl) (fun w=>by kernel_rfl) ?_
    refine fl_sem rfl rfl rfl (binOp .sub 3 (.int .i64 (k:Nat)) (.int .i64 (2:Nat))) (by kernel_rfl) (Value.int .i64 (k-2:Nat)) (run_sub_nat _ (by omega)) (by kernel_rfl) ?_
    refine fl_sem rfl rfl rfl (Instr.indexAt 298 (.pointer (some ⟨bn,0,none⟩)) (.int .i64 (k-2:Nat))) (by kernel_rfl) (Value.pointer (some ⟨bn,k-2,none⟩)) (idxA64 bn (k-2) (by omega)) (by kernel_rfl) ?_
    refine fl_ld rfl rfl rfl _ _ rfl bn (k-2) (by kernel_rfl) (by kernel_rfl) HBB.out (fun x hx=>hx) (v:=v32 Y) ?_
    refine fl_pure rfl rfl rfl (v32 X) (by kernel_rfl) (fun w=>by kernel_rfl) ?_
    refine fl_pure rfl rfl rfl (v32 Y) (by kernel_rfl) (fun w=>by kernel_rfl) ?_
    intro w2 hst2
    go_wp2_with fail
    refine wp_region_flow ⟨[g],w,fun x'=>x'.heap[bn]? =some (.cells (u32C M) 298 (0,0)),fun i=>i==29,fun i=> !(i==4||i==17),fun i=>i==29⟩ (List.range 30) rfl hst2 (by kernel_rfl) (by kernel_rfl) (by kernel_rfl) (by kernel_rfl) (by kernel_rfl) ?_
    refine fl_pure rfl rfl rfl (Value.int .i64 k) (by kernel_rfl) (fun w=>by kernel_rfl) ?_
    refine fl_pure rfl rfl rfl (Value.int .i64 k) (by kernel_rfl) (fun w=>by kernel_rfl) ?_
    refine fl_sem rfl rfl rfl (binOp .sub 3 (.int .i64 (k:Nat)) (.int .i64 (16:Nat))) (by kernel_rfl) (Value.int .i64 (k-16:Nat)) (run_sub_nat _ (by omega)) (by kernel_rfl) ?_
    refine fl_sem rfl rfl rfl (Instr.indexAt 298 (.pointer (some ⟨bn,0,none⟩)) (.int .i64 (k-16:Nat))) (by kernel_rfl) (Value.pointer (some ⟨bn,k-16,none⟩)) (idxA64 bn (k-16) (by omega)) (by kernel_rfl) ?_
    refine fl_ld rfl rfl rfl _ _ rfl bn (k-16) (by kernel_rfl) (by kernel_rfl) HBB.out (fun x hx=>hx) (v:=v32 A) ?_
    refine fl_pure rfl rfl rfl (v32 X) (by kernel_rfl) (fun w=>by kernel_rfl) ?_
    refine fl_call rfl rfl rfl 188 #[v32 X,.int .i64 (7:Nat)] (v32 (W32.rotr X 7)) (by kernel_rfl) (fun w=>by kernel_rfl) (turn_below X 7 (by decide)) ?_
    refine fl_pure rfl rfl rfl (v32 X) (by kernel_rfl) (fun w=>by kernel_rfl) ?_
    refine fl_call rfl rfl rfl 188 #[v32 X,.int .i64 (18:Nat)] (v32 (W32.rotr X 18)) (by kernel_rfl) (fun w=>by kernel_rfl) (turn_below X 18 (by decide)) ?_
    refine fl_sem rfl rfl rfl (binOp .xor 223 (v32 (W32.rotr X 7)) (v32 (W32.rotr X 18))) (by kernel_rfl) (v32 (W32.xor (W32.rotr X 7) (W32.rotr X 18))) (run_xor32 _ (W32.rotr X 7) (W32.rotr X 18)) (by kernel_rfl) ?_
    refine fl_pure rfl rfl rfl (v32 X) (by kernel_rfl) (fun w=>by kernel_rfl) ?_
    refine fl_sem rfl rfl rfl (binOp .shr 223 (v32 X) (.int .u64 (3:Nat))) (by kernel_rfl) (v32 (W32.shr X 3)) (run_shr32 _ X 3 (by decide)) (by kernel_rfl) ?_
    refine fl_sem rfl rfl rfl (binOp .xor 223 (v32 (W32.xor (W32.rotr X 7) (W32.rotr X 18))) (v32 (W32.shr X 3))) (by kernel_rfl) (v32 (W32.xor (W32.xor (W32.rotr X 7) (W32.rotr X 18)) (W32.shr X 3))) (run_xor32 _ (W32.xor (W32.rotr X 7) (W32.rotr X 18)) (W32.shr X 3)) (by kernel_rfl) ?_
    refine fl_sem rfl rfl rfl (binOp .add 223 (v32 A) (v32 (W32.xor (W32.xor (W32.rotr X 7) (W32.rotr X 18)) (W32.shr X 3)))) (by kernel_rfl) (v32 (W32.add A (W32.xor (W32.xor (W32.rotr X 7) (W32.rotr X 18)) (W32.shr X 3)))) (run_add32 _ A (W32.xor (W32.xor (W32.rotr X 7) (W32.rotr X 18)) (W32.shr X 3))) (by kernel_rfl) ?_
    refine fl_pure rfl rfl rfl (Value.int .i64 k) (by kernel_rfl) (fun w=>by kernel_rfl) ?_
    refine fl_sem rfl rfl rfl (binOp .sub 3 (.int .i64 (k:Nat)) (.int .i64 (7:Nat))) (by kernel_rfl) (Value.int .i64 (k-7:Nat)) (run_sub_nat _ (by omega)) (by kernel_rfl) ?_
    refine fl_sem rfl rfl rfl (Instr.indexAt 298 (.pointer (some ⟨bn,0,none⟩)) (.int .i64 (k-7:Nat))) (by kernel_rfl) (Value.pointer (some ⟨bn,k-7,none⟩)) (idxA64 bn (k-7) (by omega)) (by kernel_rfl) ?_
    refine fl_ld rfl rfl rfl _ _ rfl bn (k-7) (by kernel_rfl) (by kernel_rfl) HBB.out (fun x hx=>hx) (v:=v32 Z) ?_
    refine fl_sem rfl rfl rfl (binOp .add 223 (v32 (W32.add A (W32.xor (W32.xor (W32.rotr X 7) (W32.rotr X 18)) (W32.shr X 3)))) (v32 Z)) (by kernel_rfl) (v32 (W32.add (W32.add A (W32.xor (W32.xor (W32.rotr X 7) (W32.rotr X 18)) (W32.shr X 3))) Z)) (run_add32 _ (W32.add A (W32.xor (W32.xor (W32.rotr X 7) (W32.rotr X 18)) (W32.shr X 3))) Z) (by kernel_rfl) ?_
    refine fl_pure rfl rfl rfl (v32 Y) (by kernel_rfl) (fun w=>by kernel_rfl) ?_
    refine fl_call rfl rfl rfl 188 #[v32 Y,.int .i64 (17:Nat)] (v32 (W32.rotr Y 17)) (by kernel_rfl) (fun w=>by kernel_rfl) (turn_below Y 17 (by decide)) ?_
    refine fl_pure rfl rfl rfl (v32 Y) (by kernel_rfl) (fun w=>by kernel_rfl) ?_
    refine fl_call rfl rfl rfl 188 #[v32 Y,.int .i64 (19:Nat)] (v32 (W32.rotr Y 19)) (by kernel_rfl) (fun w=>by kernel_rfl) (turn_below Y 19 (by decide)) ?_
    refine fl_sem rfl rfl rfl (binOp .xor 223 (v32 (W32.rotr Y 17)) (v32 (W32.rotr Y 19))) (by kernel_rfl) (v32 (W32.xor (W32.rotr Y 17) (W32.rotr Y 19))) (run_xor32 _ (W32.rotr Y 17) (W32.rotr Y 19)) (by kernel_rfl) ?_
    refine fl_pure rfl rfl rfl (v32 Y) (by kernel_rfl) (fun w=>by kernel_rfl) ?_
    refine fl_sem rfl rfl rfl (binOp .shr 223 (v32 Y) (.int .u64 (10:Nat))) (by kernel_rfl) (v32 (W32.shr Y 10)) (run_shr32 _ Y 10 (by decide)) (by kernel_rfl) ?_
    refine fl_sem rfl rfl rfl (binOp .xor 223 (v32 (W32.xor (W32.rotr Y 17) (W32.rotr Y 19))) (v32 (W32.shr Y 10))) (by kernel_rfl) (v32 (W32.xor (W32.xor (W32.rotr Y 17) (W32.rotr Y 19)) (W32.shr Y 10))) (run_xor32 _ (W32.xor (W32.rotr Y 17) (W32.rotr Y 19)) (W32.shr Y 10)) (by kernel_rfl) ?_
    refine fl_sem rfl rfl rfl (binOp .add 223 (v32 (W32.add (W32.add A (W32.xor (W32.xor (W32.rotr X 7) (W32.rotr X 18)) (W32.shr X 3))) Z)) (v32 (W32.xor (W32.xor (W32.rotr Y 17) (W32.rotr Y 19)) (W32.shr Y 10)))) (by kernel_rfl) (v32 (W32.add (W32.add (W32.add A (W32.xor (W32.xor (W32.rotr X 7) (W32.rotr X 18)) (W32.shr X 3))) Z) (W32.xor (W32.xor (W32.rotr Y 17) (W32.rotr Y 19)) (W32.shr Y 10)))) (run_add32 _ (W32.add (W32.add A (W32.xor (W32.xor (W32.rotr X 7) (W32.rotr X 18)) (W32.shr X 3))) Z) (W32.xor (W32.xor (W32.rotr Y 17) (W32.rotr Y 19)) (W32.shr Y 10))) (by kernel_rfl) ?_
    refine fl_sem rfl rfl rfl (Instr.indexAt 298 (.pointer (some ⟨bn,0,none⟩)) (.int .i64 (k:Nat))) (by kernel_rfl) (Value.pointer (some ⟨bn,k,none⟩)) (idxA64 bn (k) (by omega)) (by kernel_rfl) ?_
    refine fl_store rfl rfl _ _ _ rfl bn (k) (by kernel_rfl) (v32 (W32.add (W32.add (W32.add A (W32.xor (W32.xor (W32.rotr X 7) (W32.rotr X 18)) (W32.shr X 3))) Z) (W32.xor (W32.xor (W32.rotr Y 17) (W32.rotr Y 19)) (W32.shr Y 10)))) (by kernel_rfl) (Or.inl rfl) ?_
    intro w3 hst3
    go_wp2_with fail
    go_roundw
    case rel=>exact⟨k+1,by omega,by first|rfl |simp,by rw[hM1];exact hst3⟩
    case measure=>simp[intOf];omega
  ·obtain rfl:k=64:=by omega
   have pS:PartAt (writerC h left many made) 0 8 (h.map v32):=⟨by simpa using hh,fun j v hv=>by
    have hj:=(List.getElem?_eq_some_iff.1 hv).1
    simp only[writerC,Nat.zero_add,List.getElem?_toArray]
    rw[List.getElem?_append_left hj];exact hv⟩
   have pM:PartAt (u32C (sched b 64)) 0 64 ((sched b 64).map v32):=⟨by simpa using sched_len b 64,fun j v hv=>by
    simp only[u32C,Nat.zero_add,List.getElem?_toArray];exact hv⟩
   have wV:WrAt (u32C (List.replicate 8 w0)) 0 8 (.agg (h.map v32).toArray) (u32C h):=wr_row _ _ _ _ _ (by simpa using hh) (by rw[List.all_eq_true];intro v hv;obtain⟨x,_,rfl⟩:=List.mem_map.1 hv;rfl) (by simp[u32C]) (by
    have:∃a b c d e f g i,h=[a,b,c,d,e,f,g,i]:=by
     match h,hh with
     | [a,b,c,d,e,f,g,i],_=>exact⟨_,_,_,_,_,_,_,_,rfl⟩
    obtain⟨a,b,c,d,e,f,g,i,rfl⟩:=this
    rfl)
   have hM:=sched_len b 64
   have HF:Hid (blockF h b=addUp h (comp (sched b 64) h 64) 8):=Lib.hid rfl
   generalize sched b 64=M at*
   go_wp2_with (first|(with_reducible refine nw (T:=238) rfl rfl ‹_› ?_;intro vn w' hst)|(with_reducible first|refine la rfl rfl rfl ‹_› ?_|(refine sa rfl rfl rfl rfl ‹_› ?_;intro w' hst)))
   have h0:=hst
   clear pS wV pM hlt hk HC hx0 hx hcap
   go_loopw [92] (fun iv wr=>∃k:Nat,k≤64∧iv=.int .i64 k∧St [g] w wr [(vn,u32C (comp M h k),238),(bn,u32C M,298),(g,writerC h left many made,240)]) (fun i _=>64-(intOf i).toNat)
   case atStart=>exact⟨0,by omega,rfl,h0⟩
   case round=>
    obtain⟨k,hk,rfl,hst⟩:=hrel
    by_cases hlt:k<64
    ·have HI:=idxV64 M hM k hlt
     have hcs:=comp_succ M h k
     obtain⟨a0,a1,a2,a3,a4,a5,a6,a7,ha⟩:=len8 (comp_len M h hh k)
     have hT:∀x',St [g] w x' [(vn,u32C [a0,a1,a2,a3,a4,a5,a6,a7],238),(bn,u32C M,298),(g,writerC h left many made,240)]→x'.heap[vn]? =some (.cells (u32C [a0,a1,a2,a3,a4,a5,a6,a7]) 238 (0,0))∧x'.cell? ⟨2,k,none⟩=some (v32 (mk32 (shaT.getD k 0))):=
      fun x' hx'=>⟨hx'.has,(hx'.cell (a:=⟨_,k,none⟩) (cell_lt (hS.at_ k hlt)) (by simpa using hgt)).trans (hS.at_ k hlt)⟩
     rw[ha] at hst hcs
     simp only[compV] at hcs
     generalize M.getD k w0=X at*
     generalize mk32 (shaT.getD k 0)=KT at*
     have HBB:=Lib.hid hT
     clear hT ha
     go_wp2_with (with_reducible refine l1 rfl rfl rfl ‹_› ?_)
     refine wp_region_flow ⟨[g],w,fun x'=>x'.heap[vn]? =some (.cells (u32C [a0,a1,a2,a3,a4,a5,a6,a7]) 238 (0,0))∧x'.cell? ⟨2,k,none⟩=some (v32 KT),fun _=>false,fun i=> !(i==2||i==13||i==16||i==18||i==25),fun _=>false⟩ (List.range 29) rfl hst (by kernel_rfl) (by kernel_rfl) (by kernel_rfl) (by kernel_rfl) (by kernel_rfl) ?_
     refine fl_pure rfl rfl rfl (v32 X) (by kernel_rfl) (fun w=>by kernel_rfl) ?_
     refine fl_sem rfl rfl rfl (Instr.indexAt 238 (.pointer (some ⟨vn,0,none⟩)) (.int .i64 (7:Nat))) (by kernel_rfl) (Value.pointer (some ⟨vn,7,none⟩)) (idxA8 vn (7) (by decide)) (by kernel_rfl) ?_
     refine fl_ld rfl rfl rfl _ _ rfl vn (7) (by kernel_rfl) (by kernel_rfl) HBB.out (fun x hx=>hx.1) (v:=v32 a7) ?_
     refine fl_pure rfl rfl rfl (v32 a4) (by kernel_rfl) (fun w=>by kernel_rfl) ?_
     refine fl_call rfl rfl rfl 188 #[v32 a4,.int .i64 (6:Nat)] (v32 (W32.rotr a4 6)) (by kernel_rfl) (fun w=>by kernel_rfl) (turn_below a4 6 (by decide)) ?_
     refine fl_pure rfl rfl rfl (v32 a4) (by kernel_rfl) (fun w=>by kernel_rfl) ?_
     refine fl_call rfl rfl rfl 188 #[v32 a4,.int .i64 (11:Nat)] (v32 (W32.rotr a4 11)) (by kernel_rfl) (fun w=>by kernel_rfl) (turn_below a4 11 (by decide)) ?_
     refine fl_sem rfl rfl rfl (binOp .xor 223 (v32 (W32.rotr a4 6)) (v32 (W32.rotr a4 11))) (by kernel_rfl) (v32 (W32.xor (W32.rotr a4 6) (W32.rotr a4 11))) (run_xor32 _ (W32.rotr a4 6) (W32.rotr a4 11)) (by kernel_rfl) ?_
     refine fl_pure rfl rfl rfl (v32 a4) (by kernel_rfl) (fun w=>by kernel_rfl) ?_
     refine fl_call rfl rfl rfl 188 #[v32 a4,.int .i64 (25:Nat)] (v32 (W32.rotr a4 25)) (by kernel_rfl) (fun w=>by kernel_rfl) (turn_below a4 25 (by decide)) ?_
     refine fl_sem rfl rfl rfl (binOp .xor 223 (v32 (W32.xor (W32.rotr a4 6) (W32.rotr a4 11))) (v32 (W32.rotr a4 25))) (by kernel_rfl) (v32 (W32.xor (W32.xor (W32.rotr a4 6) (W32.rotr a4 11)) (W32.rotr a4 25))) (run_xor32 _ (W32.xor (W32.rotr a4 6) (W32.rotr a4 11)) (W32.rotr a4 25)) (by kernel_rfl) ?_
     refine fl_sem rfl rfl rfl (binOp .add 223 (v32 a7) (v32 (W32.xor (W32.xor (W32.rotr a4 6) (W32.rotr a4 11)) (W32.rotr a4 25)))) (by kernel_rfl) (v32 (W32.add a7 (W32.xor (W32.xor (W32.rotr a4 6) (W32.rotr a4 11)) (W32.rotr a4 25)))) (run_add32 _ a7 (W32.xor (W32.xor (W32.rotr a4 6) (W32.rotr a4 11)) (W32.rotr a4 25))) (by kernel_rfl) ?_
     refine fl_sem rfl rfl rfl (Instr.indexAt 238 (.pointer (some ⟨vn,0,none⟩)) (.int .i64 (6:Nat))) (by kernel_rfl) (Value.pointer (some ⟨vn,6,none⟩)) (idxA8 vn (6) (by decide)) (by kernel_rfl) ?_
     refine fl_ld rfl rfl rfl _ _ rfl vn (6) (by kernel_rfl) (by kernel_rfl) HBB.out (fun x hx=>hx.1) (v:=v32 a6) ?_
     refine fl_pure rfl rfl rfl (v32 a4) (by kernel_rfl) (fun w=>by kernel_rfl) ?_
     refine fl_sem rfl rfl rfl (Instr.indexAt 238 (.pointer (some ⟨vn,0,none⟩)) (.int .i64 (5:Nat))) (by kernel_rfl) (Value.pointer (some ⟨vn,5,none⟩)) (idxA8 vn (5) (by decide)) (by kernel_rfl) ?_
     refine fl_ld rfl rfl rfl _ _ rfl vn (5) (by kernel_rfl) (by kernel_rfl) HBB.out (fun x hx=>hx.1) (v:=v32 a5) ?_
     refine fl_sem rfl rfl rfl (Instr.indexAt 238 (.pointer (some ⟨vn,0,none⟩)) (.int .i64 (6:Nat))) (by kernel_rfl) (Value.pointer (some ⟨vn,6,none⟩)) (idxA8 vn (6) (by decide)) (by kernel_rfl) ?_
     refine fl_ld rfl rfl rfl _ _ rfl vn (6) (by kernel_rfl) (by kernel_rfl) HBB.out (fun x hx=>hx.1) (v:=v32 a6) ?_
     refine fl_sem rfl rfl rfl (binOp .xor 223 (v32 a5) (v32 a6)) (by kernel_rfl) (v32 (W32.xor a5 a6)) (run_xor32 _ a5 a6) (by kernel_rfl) ?_
     refine fl_sem rfl rfl rfl (binOp .and 223 (v32 a4) (v32 (W32.xor a5 a6))) (by kernel_rfl) (v32 (W32.and a4 (W32.xor a5 a6))) (run_and32 _ a4 (W32.xor a5 a6)) (by kernel_rfl) ?_
     refine fl_sem rfl rfl rfl (binOp .xor 223 (v32 a6) (v32 (W32.and a4 (W32.xor a5 a6)))) (by kernel_rfl) (v32 (W32.xor a6 (W32.and a4 (W32.xor a5 a6)))) (run_xor32 _ a6 (W32.and a4 (W32.xor a5 a6))) (by kernel_rfl) ?_
     refine fl_sem rfl rfl rfl (binOp .add 223 (v32 (W32.add a7 (W32.xor (W32.xor (W32.rotr a4 6) (W32.rotr a4 11)) (W32.rotr a4 25)))) (v32 (W32.xor a6 (W32.and a4 (W32.xor a5 a6))))) (by kernel_rfl) (v32 (W32.add (W32.add a7 (W32.xor (W32.xor (W32.rotr a4 6) (W32.rotr a4 11)) (W32.rotr a4 25))) (W32.xor a6 (W32.and a4 (W32.xor a5 a6))))) (run_add32 _ (W32.add a7 (W32.xor (W32.xor (W32.rotr a4 6) (W32.rotr a4 11)) (W32.rotr a4 25))) (W32.xor a6 (W32.and a4 (W32.xor a5 a6)))) (by kernel_rfl) ?_
     refine fl_pure rfl rfl rfl (Value.int .i64 k) (by kernel_rfl) (fun w=>by kernel_rfl) ?_
     refine fl_sem rfl rfl rfl (Instr.indexAt 298 (.pointer (some ⟨2,0,none⟩)) (.int .i64 (k:Nat))) (by kernel_rfl) (Value.pointer (some ⟨2,k,none⟩)) (idxA64 2 k hlt) (by kernel_rfl) ?_
     refine fl_ldc rfl rfl rfl _ _ rfl ⟨2,k,none⟩ (by kernel_rfl) (by kernel_rfl) HBB.out (v32 KT) (fun x hx=>hx.2) ?_
     refine fl_sem rfl rfl rfl (binOp .add 223 (v32 (W32.add (W32.add a7 (W32.xor (W32.xor (W32.rotr a4 6) (W32.rotr a4 11)) (W32.rotr a4 25))) (W32.xor a6 (W32.and a4 (W32.xor a5 a6))))) (v32 KT)) (by kernel_rfl) (v32 (W32.add (W32.add (W32.add a7 (W32.xor (W32.xor (W32.rotr a4 6) (W32.rotr a4 11)) (W32.rotr a4 25))) (W32.xor a6 (W32.and a4 (W32.xor a5 a6)))) KT)) (run_add32 _ (W32.add (W32.add a7 (W32.xor (W32.xor (W32.rotr a4 6) (W32.rotr a4 11)) (W32.rotr a4 25))) (W32.xor a6 (W32.and a4 (W32.xor a5 a6)))) KT) (by kernel_rfl) ?_
     refine fl_sem rfl rfl rfl (binOp .add 223 (v32 X) (v32 (W32.add (W32.add (W32.add a7 (W32.xor (W32.xor (W32.rotr a4 6) (W32.rotr a4 11)) (W32.rotr a4 25))) (W32.xor a6 (W32.and a4 (W32.xor a5 a6)))) KT))) (by kernel_rfl) (v32 (W32.add X (W32.add (W32.add (W32.add a7 (W32.xor (W32.xor (W32.rotr a4 6) (W32.rotr a4 11)) (W32.rotr a4 25))) (W32.xor a6 (W32.and a4 (W32.xor a5 a6)))) KT))) (run_add32 _ X (W32.add (W32.add (W32.add a7 (W32.xor (W32.xor (W32.rotr a4 6) (W32.rotr a4 11)) (W32.rotr a4 25))) (W32.xor a6 (W32.and a4 (W32.xor a5 a6)))) KT)) (by kernel_rfl) ?_
     refine fl_pure rfl rfl rfl (v32 (W32.add X (W32.add (W32.add (W32.add a7 (W32.xor (W32.xor (W32.rotr a4 6) (W32.rotr a4 11)) (W32.rotr a4 25))) (W32.xor a6 (W32.and a4 (W32.xor a5 a6)))) KT))) (by kernel_rfl) (fun w=>by kernel_rfl) ?_
     intro w2 hst2
     go_wp2_with (with_reducible refine l1 rfl rfl rfl ‹_› ?_)
     refine wp_region_flow ⟨[g],w,fun x'=>x'.heap[vn]? =some (.cells (u32C [a0,a1,a2,a3,a4,a5,a6,a7]) 238 (0,0))∧x'.cell? ⟨2,k,none⟩=some (v32 KT),fun _=>false,fun i=> !(i==10||i==12||i==16||i==18),fun _=>false⟩ (List.range 23) rfl hst2 (by kernel_rfl) (by kernel_rfl) (by kernel_rfl) (by kernel_rfl) (by kernel_rfl) ?_
     refine fl_pure rfl rfl rfl (v32 a0) (by kernel_rfl) (fun w=>by kernel_rfl) ?_
     refine fl_call rfl rfl rfl 188 #[v32 a0,.int .i64 (2:Nat)] (v32 (W32.rotr a0 2)) (by kernel_rfl) (fun w=>by kernel_rfl) (turn_below a0 2 (by decide)) ?_
     refine fl_pure rfl rfl rfl (v32 a0) (by kernel_rfl) (fun w=>by kernel_rfl) ?_
     refine fl_call rfl rfl rfl 188 #[v32 a0,.int .i64 (13:Nat)] (v32 (W32.rotr a0 13)) (by kernel_rfl) (fun w=>by kernel_rfl) (turn_below a0 13 (by decide)) ?_
     refine fl_sem rfl rfl rfl (binOp .xor 223 (v32 (W32.rotr a0 2)) (v32 (W32.rotr a0 13))) (by kernel_rfl) (v32 (W32.xor (W32.rotr a0 2) (W32.rotr a0 13))) (run_xor32 _ (W32.rotr a0 2) (W32.rotr a0 13)) (by kernel_rfl) ?_
     refine fl_pure rfl rfl rfl (v32 a0) (by kernel_rfl) (fun w=>by kernel_rfl) ?_
     refine fl_call rfl rfl rfl 188 #[v32 a0,.int .i64 (22:Nat)] (v32 (W32.rotr a0 22)) (by kernel_rfl) (fun w=>by kernel_rfl) (turn_below a0 22 (by decide)) ?_
     refine fl_sem rfl rfl rfl (binOp .xor 223 (v32 (W32.xor (W32.rotr a0 2) (W32.rotr a0 13))) (v32 (W32.rotr a0 22))) (by kernel_rfl) (v32 (W32.xor (W32.xor (W32.rotr a0 2) (W32.rotr a0 13)) (W32.rotr a0 22))) (run_xor32 _ (W32.xor (W32.rotr a0 2) (W32.rotr a0 13)) (W32.rotr a0 22)) (by kernel_rfl) ?_
     refine fl_pure rfl rfl rfl (v32 a0) (by kernel_rfl) (fun w=>by kernel_rfl) ?_
     refine fl_sem rfl rfl rfl (Instr.indexAt 238 (.pointer (some ⟨vn,0,none⟩)) (.int .i64 (1:Nat))) (by kernel_rfl) (Value.pointer (some ⟨vn,1,none⟩)) (idxA8 vn (1) (by decide)) (by kernel_rfl) ?_
     refine fl_ld rfl rfl rfl _ _ rfl vn (1) (by kernel_rfl) (by kernel_rfl) HBB.out (fun x hx=>hx.1) (v:=v32 a1) ?_
     refine fl_sem rfl rfl rfl (Instr.indexAt 238 (.pointer (some ⟨vn,0,none⟩)) (.int .i64 (2:Nat))) (by kernel_rfl) (Value.pointer (some ⟨vn,2,none⟩)) (idxA8 vn (2) (by decide)) (by kernel_rfl) ?_
     refine fl_ld rfl rfl rfl _ _ rfl vn (2) (by kernel_rfl) (by kernel_rfl) HBB.out (fun x hx=>hx.1) (v:=v32 a2) ?_
     refine fl_sem rfl rfl rfl (binOp .or 223 (v32 a1) (v32 a2)) (by kernel_rfl) (v32 (W32.or a1 a2)) (run_or32 _ a1 a2) (by kernel_rfl) ?_
     refine fl_sem rfl rfl rfl (binOp .and 223 (v32 a0) (v32 (W32.or a1 a2))) (by kernel_rfl) (v32 (W32.and a0 (W32.or a1 a2))) (run_and32 _ a0 (W32.or a1 a2)) (by kernel_rfl) ?_
     refine fl_sem rfl rfl rfl (Instr.indexAt 238 (.pointer (some ⟨vn,0,none⟩)) (.int .i64 (1:Nat))) (by kernel_rfl) (Value.pointer (some ⟨vn,1,none⟩)) (idxA8 vn (1) (by decide)) (by kernel_rfl) ?_
     refine fl_ld rfl rfl rfl _ _ rfl vn (1) (by kernel_rfl) (by kernel_rfl) HBB.out (fun x hx=>hx.1) (v:=v32 a1) ?_
     refine fl_sem rfl rfl rfl (Instr.indexAt 238 (.pointer (some ⟨vn,0,none⟩)) (.int .i64 (2:Nat))) (by kernel_rfl) (Value.pointer (some ⟨vn,2,none⟩)) (idxA8 vn (2) (by decide)) (by kernel_rfl) ?_
     refine fl_ld rfl rfl rfl _ _ rfl vn (2) (by kernel_rfl) (by kernel_rfl) HBB.out (fun x hx=>hx.1) (v:=v32 a2) ?_
     refine fl_sem rfl rfl rfl (binOp .and 223 (v32 a1) (v32 a2)) (by kernel_rfl) (v32 (W32.and a1 a2)) (run_and32 _ a1 a2) (by kernel_rfl) ?_
     refine fl_sem rfl rfl rfl (binOp .or 223 (v32 (W32.and a0 (W32.or a1 a2))) (v32 (W32.and a1 a2))) (by kernel_rfl) (v32 (W32.or (W32.and a0 (W32.or a1 a2)) (W32.and a1 a2))) (run_or32 _ (W32.and a0 (W32.or a1 a2)) (W32.and a1 a2)) (by kernel_rfl) ?_
     refine fl_sem rfl rfl rfl (binOp .add 223 (v32 (W32.xor (W32.xor (W32.rotr a0 2) (W32.rotr a0 13)) (W32.rotr a0 22))) (v32 (W32.or (W32.and a0 (W32.or a1 a2)) (W32.and a1 a2)))) (by kernel_rfl) (v32 (W32.add (W32.xor (W32.xor (W32.rotr a0 2) (W32.rotr a0 13)) (W32.rotr a0 22)) (W32.or (W32.and a0 (W32.or a1 a2)) (W32.and a1 a2)))) (run_add32 _ (W32.xor (W32.xor (W32.rotr a0 2) (W32.rotr a0 13)) (W32.rotr a0 22)) (W32.or (W32.and a0 (W32.or a1 a2)) (W32.and a1 a2))) (by kernel_rfl) ?_
     refine fl_pure rfl rfl rfl (v32 (W32.add (W32.xor (W32.xor (W32.rotr a0 2) (W32.rotr a0 13)) (W32.rotr a0 22)) (W32.or (W32.and a0 (W32.or a1 a2)) (W32.and a1 a2)))) (by kernel_rfl) (fun w=>by kernel_rfl) ?_
     intro w3 hst3
     go_wp2_with fail
     refine wp_region_flow ⟨[g],w,fun _=>True,fun i=>i==2,fun _=>true,fun i=>i==2⟩ (List.range 3) rfl hst3 (by kernel_rfl) (by kernel_rfl) (by kernel_rfl) (by kernel_rfl) (by kernel_rfl) ?_
     refine fl_pure rfl rfl rfl (Value.slice (some ⟨vn,1,none⟩) 7 7) (by kernel_rfl) (fun w=>by kernel_rfl) ?_
     refine fl_pure rfl rfl rfl (Value.slice (some ⟨vn,0,none⟩) 7 8) (by kernel_rfl) (fun w=>by kernel_rfl) ?_
     refine fl_copy rfl rfl _ _ 300 300 223 rfl Tryz.underlying300 (by kernel_rfl) vn 1 7 7 ⟨vn,0,none⟩ 7 8 (by kernel_rfl) (by kernel_rfl) [v32 a0,v32 a1,v32 a2,v32 a3,v32 a4,v32 a5,v32 a6] rfl
      (fun x' hx' j v hv=>by rw[addr_add,cell_of_row x' vn _ _ _ _ hx'.has];exact part7.eq j v hv) (Nat.le_of_ble_eq_true rfl) (by intro v hv;simp at hv;rcases hv with rfl |rfl |rfl |rfl |rfl |rfl |rfl<;>rfl) (C':=u32C [a0,a0,a1,a2,a3,a4,a5,a6]) rfl (Or.inl rfl) ?_
     intro w4 hst4
     clear hst hst2 hst3 HBB HI h0
     have hst:=hst4
     clear hst4
     go_wp2_with (with_reducible first|refine l1 rfl rfl rfl ‹_› ?_|(refine si rfl rfl rfl rfl ‹_› ?_;intro w' hst))
     go_roundw
     case rel=>exact⟨k+1,by omega,by first|rfl |simp,by rw[hcs];exact hst⟩
     case measure=>simp[intOf];omega
    ·obtain rfl:k=64:=by omega
     have hV:=comp_len M h hh 64
     generalize comp M h 64=V at*
     clear hk hlt h0
     go_wp2_with fail
     go_loopw [163] (fun iv wr=>∃k:Nat,k≤8∧iv=.int .i64 k∧St [g] w wr [(vn,u32C V,238),(bn,u32C M,298),(g,writerC (addUp h V k) left many made,240)]) (fun i _=>8-(intOf i).toNat)
     case atStart=>exact⟨0,by omega,rfl,hst⟩
     case round=>
      obtain⟨k,hk,rfl,hst⟩:=hrel
      by_cases hlt:k<8
      ·have hl:=addUp_len h V hh k
       have hs:=addUp_succ h V k
       have cV:=cellU (l:=V) (i:=k) (by omega)
       have cH:=writer_cell hl (left:=left) (many:=many) (made:=made) hlt
       have wI:=writer_wr hl (left:=left) (many:=many) (made:=made) (x:=((addUp h V k).getD k w0).add (V.getD k w0)) hlt
       rw[←hs] at wI
       clear hs
       generalize hM1:addUp h V (k+1)=H1 at wI
       generalize addUp h V k=H0 at*
       generalize H0.getD k w0=HK at*
       generalize V.getD k w0=VK at*
       have HBB:Hid (∀x',St [g] w x' [(vn,u32C V,238),(bn,u32C M,298),(g,writerC H0 left many made,240)]→x'.heap[vn]? =some (.cells (u32C V) 238 (0,0))∧x'.heap[g]? =some (.cells (writerC H0 left many made) 240 (0,0))):=Lib.hid (fun x' hx'=>⟨hx'.has,hx'.has⟩)
       go_wp2_with fail
       refine wp_region_flow ⟨[g],w,fun x'=>x'.heap[vn]? =some (.cells (u32C V) 238 (0,0))∧x'.heap[g]? =some (.cells (writerC H0 left many made) 240 (0,0)),fun i=>i==13,fun i=> !(i==5||i==8),fun i=>i==13⟩ (List.range 14) rfl hst (by kernel_rfl) (by kernel_rfl) (by kernel_rfl) (by kernel_rfl) (by kernel_rfl) ?_
       refine fl_pure rfl rfl rfl (Value.pointer (some ⟨g,0,none⟩)) (by kernel_rfl) (fun w=>by kernel_rfl) ?_
       refine fl_pure rfl rfl rfl (Value.int .i64 k) (by kernel_rfl) (fun w=>by kernel_rfl) ?_
       refine fl_pure rfl rfl rfl (Value.pointer (some ⟨g,0,none⟩)) (by kernel_rfl) (fun w=>by kernel_rfl) ?_
       refine fl_pure rfl rfl rfl (Value.pointer (some ⟨g,0,none⟩)) (by kernel_rfl) (fun w=>by kernel_rfl) ?_
       refine fl_sem rfl rfl rfl (Instr.indexAt 238 (.pointer (some ⟨g,0,none⟩)) (.int .i64 (k:Nat))) (by kernel_rfl) (Value.pointer (some ⟨g,k,none⟩)) (idxA8 g (k) hlt) (by kernel_rfl) ?_
       refine fl_ld rfl rfl rfl _ _ rfl g (k) (by kernel_rfl) (by kernel_rfl) HBB.out (fun x hx=>hx.2) (v:=v32 HK) ?_
       refine fl_pure rfl rfl rfl (Value.int .i64 k) (by kernel_rfl) (fun w=>by kernel_rfl) ?_
       refine fl_sem rfl rfl rfl (Instr.indexAt 238 (.pointer (some ⟨vn,0,none⟩)) (.int .i64 (k:Nat))) (by kernel_rfl) (Value.pointer (some ⟨vn,k,none⟩)) (idxA8 vn (k) hlt) (by kernel_rfl) ?_
       refine fl_ld rfl rfl rfl _ _ rfl vn (k) (by kernel_rfl) (by kernel_rfl) HBB.out (fun x hx=>hx.1) (v:=v32 VK) ?_
       refine fl_sem rfl rfl rfl (binOp .add 223 (v32 HK) (v32 VK)) (by kernel_rfl) (v32 (W32.add HK VK)) (run_add32 _ HK VK) (by kernel_rfl) ?_
       refine fl_pure rfl rfl rfl (Value.pointer (some ⟨g,0,none⟩)) (by kernel_rfl) (fun w=>by kernel_rfl) ?_
       refine fl_pure rfl rfl rfl (Value.pointer (some ⟨g,0,none⟩)) (by kernel_rfl) (fun w=>by kernel_rfl) ?_
       refine fl_sem rfl rfl rfl (Instr.indexAt 238 (.pointer (some ⟨g,0,none⟩)) (.int .i64 (k:Nat))) (by kernel_rfl) (Value.pointer (some ⟨g,k,none⟩)) (idxA8 g (k) hlt) (by kernel_rfl) ?_
       refine fl_store rfl rfl _ _ _ rfl g (k) (by kernel_rfl) (v32 (W32.add HK VK)) (by kernel_rfl) (Or.inl rfl) ?_
       intro w5 hst5
       go_wp2_with fail
       go_roundw
       case rel=>exact⟨k+1,by omega,by first|rfl |simp,by rw[hM1];exact hst5⟩
       case measure=>simp[intOf];omega
      ·obtain rfl:k=8:=by omega
       clear hk hlt
       go_wp2_with fail
       go_end0
       refine⟨rfl,?_⟩
       rw[HF.out]
       exact St.only hst
end Go.Proofs.YtdkeiefgkgpcbaaGreatDoor
