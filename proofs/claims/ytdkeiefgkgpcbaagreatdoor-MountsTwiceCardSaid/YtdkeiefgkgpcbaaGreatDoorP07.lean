/- Steps of the proof: FrameBare, FrameDec, W32. -/
import Derived.Test.YtdkeiefgkgpcbaaGreatDoorP06
set_option linter.unusedVariables false
set_option linter.unusedSimpArgs false
set_option maxRecDepth 100000
namespace Go.Proofs.YtdkeiefgkgpcbaaGreatDoor
open Go.RowKit Go.Shelf
attribute [local go_sem] Oper.semAt_some
def okMark (t:List UInt8) (k:Nat):Bool:=(((t.drop (k*32)).take 32).drop 31)==[165]
def bareF (t:List UInt8):List UInt8×Bool:=
 if t.length=128∧(List.range 4).all (okMark t)=true then((List.range 4).flatMap fun k=>((t.drop (k*32)).take 32).take 31,true) else([],false)
structure BareI (w:World) (sb gb bn r2 r3:Nat) (s:ByteArray) (long:Nat) (j:Nat) (bs:List UInt8) (W:World):Prop where
 enc:EncI w sb gb bn s long j bs W
 c2:W.heap[r2]? =some (.cells #[.string ⟨#[]⟩] 9 (0,0))
 c3:W.heap[r3]? =some (.cells #[.bool false] 4 (0,0))
theorem BareI.aside {w W W':World} {sb gb bn r2 r3:Nat} {s:ByteArray} {long j n:Nat} {bs:List UInt8} (h:BareI w sb gb bn r2 r3 s long j bs W) (ha:Aside n W W') (hn:w.heap.size≤n):BareI w sb gb bn r2 r3 s long j bs W':=
 ⟨h.enc.aside ha hn,ha.cells _ _ _ _ h.c2,ha.cells _ _ _ _ h.c3⟩
theorem BareI.step {w W:World} {sb gb bn r2 r3:Nat} {s:ByteArray} {long j:Nat} {bs:List UInt8} (h:BareI w sb gb bn r2 r3 s long j bs W) (hs:w.heap.size≤sb) (hne:sb≠gb) (h2:r2≠sb) (h3:r3≠sb):
  BareI w sb gb bn r2 r3 s long (j+1) bs (W.setRow sb #[.string (restS s long (j+1))]):=
 ⟨h.enc.step hs hne,by rw[heap_setRow_other _ _ _ _ h2];exact h.c2,by rw[heap_setRow_other _ _ _ _ h3];exact h.c3⟩
theorem BareI.write {w W W':World} {sb gb bn r2 r3:Nat} {s:ByteArray} {long j:Nat} {bs bs':List UInt8} (h:BareI w sb gb bn r2 r3 s long j bs W) (hi:IsB w.heap.size bn (Lib.byteCells bs') W') (hk:KeptB w.heap.size bn W W'):
  BareI w sb gb bn r2 r3 s long j bs' W'∧KeepsOthers W W':=by
 obtain⟨cs,hcs⟩:=h.enc.isb.block
 have ne:∀(k:Nat) (o:Obj),W.heap[k]? =some o→(∀c t z,o=.cells c t z→t≠159∧t≠5)→W'.heap[k]? =some o:=fun k o hk' ho=>by
  refine hk.2 k o hk' ?_ ?_
  ·intro e
   obtain rfl:k=bn:=Option.some.inj e;rw[hcs] at hk';exact(ho _ _ _ (Option.some.inj hk').symm).1 rfl
  ·intro c fz e
   exact(ho _ _ _ e).2 rfl
 obtain⟨h1,h2⟩:=h.enc.write hi hk;exact⟨⟨h1,ne _ _ h.c2 (fun c t z e=>by injection e with _ e;subst e;exact⟨by decide,by decide⟩),ne _ _ h.c3 (fun c t z e=>by injection e with _ e;subst e;exact⟨by decide,by decide⟩)⟩,h2⟩
theorem St.belowOf {S:List Nat} {w0 w:World} {L:List Blk} {n:Nat} (h:St S w0 w L) (hS:∀x∈S,n≤x) (hn:n≤w0.heap.size):Below n w0 w:=
 ⟨h.os,h.tape,h.output,h.size,fun k hk=>h.kept k (by omega) (fun hm=>by have:=hS k hm;omega)⟩
theorem St.two {w:World} {a b:Nat} {A B:Array Value} {T U:TypeId} (ha:w.heap[a]? =some (.cells A T (0,0))) (hb:w.heap[b]? =some (.cells B U (0,0))) (hne:a≠b):St [a,b] w w [(a,A,T),(b,B,U)]:=
 ⟨rfl,rfl,rfl,Nat.le_refl _,fun _ _ _=>rfl,fun p hp=>by
  simp at hp;rcases hp with rfl |rfl<;>exact Or.inr (by simp),by simpa using hne,fun p hp=>by
  simp at hp;rcases hp with rfl |rfl
  ·exact ha
  ·exact hb⟩
theorem flat_congr {α β:Type} (l:List α) (f g:α→List β) (h:∀x∈l,f x=g x):l.flatMap f=l.flatMap g:=by
 induction l with
 |nil=>rfl
 |cons a l ih=>rw[List.flatMap_cons,List.flatMap_cons,h a (by simp),ih (fun x hx=>h x (by simp[hx]))]
theorem bare_part (s:ByteArray) (k:Nat) (hs:s.size=128) (hk:k<4):((restS s 32 k).extract 0 32).size=32∧
  ((((restS s 32 k).extract 0 32).extract 31 32).toList==[165])=okMark (ls s) k∧ls (((restS s 32 k).extract 0 32).extract 0 31)=(((ls s).drop (k*32)).take 32).take 31:=by
 have h1:((restS s 32 k).extract 0 32).size=32:=by rw[ByteArray.size_extract,restS_size];omega
 have h0:ls ((restS s 32 k).extract 0 32)=((ls s).drop (k*32)).take 32:=restS_part (ls s) 32 k;refine⟨h1,?_,?_⟩
 ·have e:=text_extract ((restS s 32 k).extract 0 32) 31 1
  have e2:(((restS s 32 k).extract 0 32).extract 31 32).toList=((((ls s).drop (k*32)).take 32).drop 31).take 1:=by
   rw[ByteArray.toList_eq];rw[show(32:Nat)=31+1 from rfl] at e ⊢;have e':=congrArg ls e;rw[ls_mkS] at e';simp only[sub] at e';rw[h0] at e';exact e'
  rw[e2];unfold okMark;rw[List.take_of_length_le (by simp;omega)]
 ·have e:=text_extract ((restS s 32 k).extract 0 32) 0 31
  rw[Nat.zero_add] at e;rw[e,ls_mkS];simp[sub,h0]
set_option maxHeartbeats 4000000 in
theorem bare_calls (s:ByteArray) (w:World) (hs:s.size≤1000000):
  Calls Tryz.prog 169 #[.string s] w fun e w'=>e=.returned (.tuple #[.string (mkS (bareF (ls s)).1),.bool (bareF (ls s)).2])∧Below w.heap.size w w':=by
 have hst:=St.start w
 by_cases hc:s.size=128
 case neg=>
  have HR:Hid (bareF (ls s)=([],false)):=Lib.hid (by unfold bareF;rw[ls_length,if_neg (fun h=>hc h.1)]);have hne:((s.size:Int) !=128)=true:=by simp;omega
  clear hc;refine calls_marks Tryz.func169 rfl ?_;simp only[Tryz.ntmps169,List.size_toArray,List.length_cons,List.length_nil,Nat.reduceAdd,Nat.reduceSub,Array.replicate_succ,Array.replicate_zero,List.push_toArray,List.append_toArray,List.nil_append,List.cons_append];go_wp2_with (with_reducible first|(refine ss rfl rfl rfl rfl ‹_› ?_;intro w' hst)|(refine sb rfl rfl rfl rfl ‹_› ?_;intro w' hst)|(refine nw rfl rfl ‹_› ?_;intro bn w' hst));refine marks_ret rfl (results2 rfl (res_one rfl hst.has) (res_one rfl hst.has)) ⟨?_,hst.end⟩;rw[HR.out];rfl
 case pos=>
  refine calls_marks Tryz.func169 rfl ?_;simp only[Tryz.ntmps169,List.size_toArray,List.length_cons,List.length_nil,Nat.reduceAdd,Nat.reduceSub,Array.replicate_succ,Array.replicate_zero,List.push_toArray,List.append_toArray,List.nil_append,List.cons_append];go_wp2_with (first|(with_reducible refine nw (T:=9) rfl rfl ‹_› ?_;intro r2 w' hst)|(with_reducible refine nw (T:=4) rfl rfl ‹_› ?_;intro r3 w' hst)|(with_reducible (refine nw rfl rfl ‹_› ?_;intro bn w' hst)));have hib:=IsB.new hst;have h2:=hst.drop;have hnd:=hst.nodup;have hne2:r2≠r3:=by simp at hnd;exact fun e=>hnd.2 e.symm
  clear hnd hst;refine(sectors_calls _ _ _).mono ?_;rintro e w3 ⟨qb,gb,rfl,hs3⟩;go_wp2_with fail;have h2w:=h2.size;have hl2:=h2.lt (r2,#[.string ⟨#[]⟩],9) (by simp);have hl3:=h2.lt (r3,#[.bool false],4) (by simp);have hsb0:w'.heap.size≤qb:=by rcases hs3.own (qb,#[.string s],9) (by simp) with h |h<;>simp at h;exact h
  have hgs:gb≠qb:=by have:=hs3.nodup;simpa using this
  have hsb:w.heap.size≤qb:=Nat.le_trans h2w hsb0;have h2s:r2≠qb:=by simp at hl2;omega
  have h3s:r3≠qb:=by simp at hl3;omega
  have h3:=h2.below hs3.end;have hE:BareI w qb gb bn r2 r3 s 32 0 [] w3:=⟨⟨h3.end,hs3.blk (qb,#[.string s],9) (by simp),hs3.blk (gb,#[.int .i64 32],3) (by simp),hib.old hs3.end⟩,h3.blk (r2,#[.string ⟨#[]⟩],9) (by simp),h3.blk (r3,#[.bool false],4) (by simp)⟩;have hw3:w.heap.size≤w3.heap.size:=hE.enc.below.size;have hr2:w.heap.size≤r2:=by rcases h2.own (r2,#[.string ⟨#[]⟩],9) (by simp) with h |h<;>simp at h;exact h
  have hr3:w.heap.size≤r3:=by rcases h2.own (r3,#[.bool false],4) (by simp) with h |h<;>simp at h;exact h
  have HN:Hid (s.size / 32=4):=Lib.hid (by rw[hc]);clear h2 h3 hs3 hib hl2 hl3 hsb0 h2w
  refine wpIn_wide.1 (wp_range (n:=9) (by omega) rfl (enters_of Tryz.func123 (by kernel_rfl) rfl) (sectors1_in 8 (by omega) s 32 (by omega) hs (by omega) qb gb) (fun _=>rfl)
   (fun k W=>BareI w qb gb bn r2 r3 s 32 k ((List.range k).flatMap fun j=>ls (((restS s 32 j).extract 0 32).extract 0 31)) W∧Hid (∀j,j<k→okMark (ls s) j=true))
   (fun k W=>BareI w qb gb bn r2 r3 s 32 (k-1) ((List.range k).flatMap fun j=>ls (((restS s 32 j).extract 0 32).extract 0 31)) W∧Hid (∀j,j<k→okMark (ls s) j=true))
   (fun _ W=>(Below w.heap.size w W∧W.heap[r2]? =some (.cells #[.string ⟨#[]⟩] 9 (0,0))∧W.heap[r3]? =some (.cells #[.bool false] 4 (0,0)))∧Hid (bareF (ls s)=([],false)))
   (fun k W W' h ha=>⟨h.1.aside ha hw3,h.2⟩) (fun k W W' h ha=>⟨⟨h.1.1.trans (ha.below.mono hw3),ha.cells _ _ _ _ h.1.2.1,ha.cells _ _ _ _ h.1.2.2⟩,h.2⟩) (fun k W W' h ha=>⟨h.1.aside ha hw3,h.2⟩)
   (fun k W h=>⟨h.1.enc.csb,h.1.enc.cgb⟩) (fun k W _ h=>⟨⟨h.1.enc.csb,h.1.enc.cgb⟩,h.1.step hsb (Ne.symm hgs) h2s h3s,h.2⟩) ⟨hE,Lib.hid (fun j hj=>by omega)⟩ _ (by intro l k W K hK;gi_wp2;exact hK) ?body ?done ?stop)
  case stop=>
   rintro D k W _ ⟨⟨hb,h2,h3⟩,HR⟩ hD hwD;refine wpIn_wide.2 ?_;go_wp2_with fail;have ha:=Aside.putObj W D (.deferred (some [])) (.deferred none) (Nat.le_trans hw3 hwD) hD rfl;refine marks_ret1 rfl hD (results2 rfl (res_one rfl (ha.cells _ _ _ _ h2)) (res_one rfl (ha.cells _ _ _ _ h3))) ⟨?_,hb.trans ha.below⟩;rw[HR.out];rfl
  case done=>
   rintro D W ⟨hI,hok⟩ hD hwD;have hW:=hI.enc.below.size;have HS:=Lib.hid (builder_string_calls w.heap.size bn _ W hI.enc.isb hW);have HI:=Lib.hid hI
   have HR:Hid (bareF (ls s)=((List.range (s.size / 32)).flatMap fun j=>ls (((restS s 32 j).extract 0 32).extract 0 31),true)):=Lib.hid (by
    have hok':=hok.out;rw[HN.out] at hok' ⊢;have key:((List.range 4).flatMap fun j=>ls (((restS s 32 j).extract 0 32).extract 0 31))=((List.range 4).flatMap fun k=>(((ls s).drop (k*32)).take 32).take 31):=
     flat_congr _ _ _ (fun j hj=>(bare_part s j hc (List.mem_range.1 hj)).2.2)
    rw[key];unfold bareF
    rw[if_pos ⟨by rw[ls_length];exact hc,List.all_eq_true.2 (fun j hj=>hok' j (List.mem_range.1 hj))⟩])
   have HD:Hid (∀W',KeptB w.heap.size bn W W'→W'.heap[D]? =some (.deferred (some []))):=Lib.hid (fun W' hk'=>by
    obtain⟨cs,hcs⟩:=HI.out.enc.isb.block;refine hk'.2 D _ hD ?_ (fun c fz e=>by cases e);intro e;obtain rfl:D=bn:=Option.some.inj e;rw[hcs] at hD
    cases hD)
   clear hI hE hD hok hst;generalize ((List.range (s.size / 32)).flatMap fun j=>ls (((restS s 32 j).extract 0 32).extract 0 31))=out at*;go_wp2_with fail;refine HS.out.mono ?_;rintro e W2 ⟨rfl,hi2,hk2⟩;have hd2:=HD.out W2 hk2;have h2:=(HI.out.write hi2 hk2).1;have hst:=St.two h2.c2 h2.c3 hne2;go_wp2_with (with_reducible first|(refine ss rfl rfl rfl rfl ‹_› ?_;intro w' hst)|(refine sb rfl rfl rfl rfl ‹_› ?_;intro w' hst));have hlt:=lt_of_heap' hd2
   have hd3:=(hst.kept D hlt (by
    intro hm;rcases(by simpa using hm:D=r2∨D=r3) with rfl |rfl
    ·rw[h2.c2] at hd2;cases hd2
    ·rw[h2.c3] at hd2;cases hd2)).trans hd2
   have ha:=Aside.putObj w' D (.deferred (some [])) (.deferred none) (Nat.le_trans hw3 hwD) hd3 rfl;refine marks_ret1 rfl hd3 (results2 rfl (res_one rfl (ha.cells _ _ _ _ hst.has)) (res_one rfl (ha.cells _ _ _ _ hst.has))) ⟨?_,(h2.enc.below.trans (hst.belowOf (by simp;omega) h2.enc.below.size)).trans ha.below⟩;rw[HR.out]
  case body=>
   rintro l k W hlt ⟨hI,hok⟩;have hk4:k<4:=by rw[←HN.out];exact hlt
   obtain⟨p1,p2,p3⟩:=bare_part s k hc hk4
   have HO:Hid (((List.range k).flatMap fun j=>ls (((restS s 32 j).extract 0 32).extract 0 31)).length≤k*31):=Lib.hid (by
    clear hI hok p1 p2 p3 hlt hk4
    induction k with
    |zero=>simp
    |succ k ih=>
     rw[flat_succ,List.length_append,ls_length,ByteArray.size_extract]
     omega)
   have HF:=Lib.hid (flat_succ (fun j=>ls (((restS s 32 j).extract 0 32).extract 0 31)) k);generalize hout:((List.range k).flatMap fun j=>ls (((restS s 32 j).extract 0 32).extract 0 31))=out at*;have HI:=Lib.hid hI;clear hI;generalize hp:(restS s 32 k).extract 0 32=p at*;have hx:(p.extract 0 31).size=31:=by rw[ByteArray.size_extract];omega
   have HW:=Lib.hid (write_calls w.heap.size bn out (p.extract 0 31) W HI.out.enc.isb (by have:=HO.out;omega) HI.out.enc.below.size);have hpn:1≤9-1-1:=by omega
   have c2:W.cell? ⟨r2,0,none⟩=some (.string ⟨#[]⟩):=by rw[cell_of_row W r2 0 _ _ _ HI.out.c2];rfl
   have c3:W.cell? ⟨r3,0,none⟩=some (.bool false):=by rw[cell_of_row W r3 0 _ _ _ HI.out.c3];rfl
   have f2:W.frozen? ⟨r2,0,none⟩=false:=by simp[World.frozen?,HI.out.c2]
   have f3:W.frozen? ⟨r3,0,none⟩=false:=by simp[World.frozen?,HI.out.c3]
   have hb:31≤p.size:=by omega
   rw[←p1] at p2;have P3:=Lib.hid p3;have HK4:=Lib.hid hk4;clear p1 p3 hlt hk4 hgs hsb h2s h3s hr2 hr3 hs hst hne2
   have e2:W.setCell ⟨r2,0,none⟩ (.string ⟨#[]⟩)=W:=by
    rw[setCell_eq_setRow W r2 0 _ _ (0,0) _ HI.out.c2];exact setRow_self W r2 _ _ HI.out.c2
   have e3:W.setCell ⟨r3,0,none⟩ (.bool false)=W:=by
    rw[setCell_eq_setRow W r3 0 _ _ (0,0) _ HI.out.c3];exact setRow_self W r3 _ _ HI.out.c3
   cases hm:okMark (ls s) k
   ·rw[hm] at p2
    have HR:Hid (bareF (ls s)=([],false)):=Lib.hid (by
     unfold bareF;rw[if_neg];rintro⟨_,h⟩;have:=List.all_eq_true.1 h k (List.mem_range.2 HK4.out);rw[hm] at this
     cases this)
    clear hm
    gi_wp2
    exact⟨KeepsOthers.refl _,⟨HI.out.enc.below,HI.out.c2,HI.out.c3⟩,HR⟩
   ·rw[hm] at p2
    have HO2:Hid (∀j,j<k+1→okMark (ls s) j=true):=Lib.hid (fun j hj=>by
     by_cases h:j=k
     ·subst h;exact hm
     ·exact hok.out j (by omega))
    clear hm c2 c3 f2 f3 e2 e3
    gi_wp2
    refine⟨trivial,?_⟩;refine(CallsIn.inRound l (callsIn_wide.2 HW.out)).mono ?_;rintro e W2 ⟨rfl,hi2,hk2⟩;obtain⟨hI2,ko2⟩:=HI.out.write hi2 hk2
    gi_wp2
    refine⟨ko2,?_,HO2⟩;show BareI w qb gb bn r2 r3 s 32 (k+1-1) ((List.range (k+1)).flatMap fun j=>ls (((restS s 32 j).extract 0 32).extract 0 31)) W2;rw[HF.out];exact hI2
end Go.Proofs.YtdkeiefgkgpcbaaGreatDoor
namespace Go.Proofs.YtdkeiefgkgpcbaaGreatDoor
open Go.RowKit Go.Shelf
section
variable {ops:Array Oper} {F:Flow} {Qf:List Blk→Act→Prop} {l:List Nat} {k:Nat} {o:Oper} {L:List Blk} {a:Act}
theorem fl_sem (h0:ops[k]? =some o) (hs:F.special k=false) (hp:F.pure k=true) (s:Sem Value) (he:execOp a.eval o=(do pure (.value (←s)))) (v:Value) (h:∀w,s.run Tryz.prog w=.ok v w)
  (hw:Region.wanted o (yielded ops a.tmps)=true) (hk:wpLX ops F Qf l L (a.put o.dst v)):wpLX ops F Qf (k::l) L a:=
 fl_pure h0 hs hp v hw (fun w=>by rw[he];simp only[Sem.run_bind,h w,Result.andThen_ok,Sem.run_pure]) hk
end
theorem wrap_i64 {x:Int} (h1: -9223372036854775808≤x) (h2:x<9223372036854775808):IntKind.i64.wrap x=x:=by
 simp only[IntKind.wrap,IntKind.signed,IntKind.bits];simp;omega
theorem run_add_i64 (T:TypeId) {x y:Int} (h1: -9223372036854775808≤x+y) (h2:x+y<9223372036854775808) (w:World):(binOp .add T (.int .i64 x) (.int .i64 y)).run Tryz.prog w=.ok (.int .i64 (x+y)) w:=by
 rw[binOp_add];unfold Op.intArith;simp[wrap_i64 h1 h2]
def fr0:Fr:=⟨0,0,0,⟨#[]⟩⟩
def frOf (t:List UInt8):Fr:=⟨(t.getD 0 0).toNat,numN (mkS t) 1 4,numN (mkS t) 5 2,mkS ((t.drop 12).take (t.getD 7 0).toNat)⟩
def decT (t:List UInt8):Fr×Int:=if 112<(t.getD 7 0).toNat then(fr0,10) else if frCheck (frOf t)=0∧frText (frOf t)=t then(frOf t,0) else(fr0,10)
def frDecF (t:List UInt8):Fr×Int:=if(bareF t).2 then decT (bareF t).1 else(fr0,10)
theorem bareF_len {t:List UInt8} (h:(bareF t).2=true):(bareF t).1.length=124:=by
 unfold bareF at*;split
 ·rename_i hc
  rw[show(List.range 4)=[0,1,2,3] from rfl];simp[hc.1]
 ·rename_i hc
  rw[if_neg hc] at h
  cases h
theorem zero_frame (w:World):(zeroValue 94).run Tryz.prog w=.ok (.agg (frC fr0)) w:=by kernel_rfl
instance zeroFrame:ZeroT 94 (frC fr0):=.agg zero_frame
instance (f g:Fr):WrAt (frC f) 0 4 (.agg (frC g)) (frC g):=wr_row _ _ _ _ [.int .u8 g.kind,.int .i64 g.epoch,.int .i64 g.index,.string g.data] rfl rfl (Nat.le_of_ble_eq_true rfl) (by kernel_rfl)
instance (f:Fr) (k e i:Int) (d:ByteArray):WrAt (frC f) 0 4 (.agg #[.int .u8 k,.int .i64 e,.int .i64 i,.string d]) (frC ⟨k,e,i,d⟩):=wr_row _ _ _ _ [.int .u8 k,.int .i64 e,.int .i64 i,.string d] rfl rfl (Nat.le_of_ble_eq_true rfl) (by kernel_rfl)
instance (f:Fr) (x:Int):WrAt (frC f) 1 1 (.int .i64 x) (frC {f with epoch:=x}):=wrOne (Nat.le_of_ble_eq_true rfl) rfl
instance (f:Fr) (x:Int):WrAt (frC f) 2 1 (.int .i64 x) (frC {f with index:=x}):=wrOne (Nat.le_of_ble_eq_true rfl) rfl
theorem run_build_fr (k:Int) (d:ByteArray) (w:World):(Instr.build 94 #[(0,.int .u8 k),(3,.string d)]).run Tryz.prog w=.ok (.agg (frC ⟨k,0,0,d⟩)) w:=by kernel_rfl
theorem run_idx (S:ByteArray) (i:Nat) (h:i<S.size) (w:World):(Instr.index 9 (.string S) (.int .i64 i)).run Tryz.prog w=.ok (.int .u8 ((ls S).getD i 0).toNat) w:=by
 rw[run_index_string _ _ _ _ _ Tryz.underlying9,dif_pos ⟨by omega,by omega⟩];have:(ls S).getD i 0=S[i]:=by simp[ls,List.getD,h];rfl
 simp only[Int.toNat_natCast,this]
set_option maxHeartbeats 4000000 in
theorem frDec_calls (s:ByteArray) (w:World) (hs:s.size≤1000000) (hG:GSums w):
  Calls Tryz.prog 133 #[.string s] w fun e w'=>e=.returned (.tuple #[.agg (frC (frDecF (ls s)).1),.int .i64 (frDecF (ls s)).2])∧Below w.heap.size w w':=by
 have hst:=St.start w;have HB:=Lib.hid (fun w=>bare_calls s w hs)
 cases hok:(bareF (ls s)).2
 case false=>
  have HR:Hid (frDecF (ls s)=(fr0,10)):=Lib.hid (by unfold frDecF;rw[hok];rfl);rw[hok] at HB;generalize hD:frDecF (ls s)=D at*;generalize mkS (bareF (ls s)).1=S at*;clear hok;go_enter Tryz.func133,Tryz.ntmps133;go_wp2_with (with_reducible (refine nw rfl rfl ‹_› ?_;intro bn w' hst));refine(HB.out _).mono ?_;rintro e w1 ⟨rfl,hb⟩;have h1:=hst.below hb;go_wp2_with (with_reducible (refine sa rfl rfl rfl rfl ‹_› ?_;intro w' hst))
  (try simp only[Exit.inBlock,Exit.then])
  refine bodyPost_ret (results2 rfl (res_agg rfl hst.has) res_tmp) rfl ⟨?_,hst.end⟩;rw[HR.out];rfl
 case true=>
  have hlen:=bareF_len hok;have HR:Hid (frDecF (ls s)=decT (bareF (ls s)).1):=Lib.hid (by unfold frDecF;rw[hok];rfl);rw[hok] at HB;generalize hD:frDecF (ls s)=D at*;generalize (bareF (ls s)).1=t at*;have hsz:(mkS t).size=124:=by rw[size_mkS];exact hlen
  have I0:=Lib.hid (run_idx (mkS t) 0 (by omega));have I7:=Lib.hid (run_idx (mkS t) 7 (by omega));have hN7:=(t.getD 7 0).toNat_lt;have hK0:=(t.getD 0 0).toNat_lt;rw[ls_mkS] at I0 I7;have HT:Hid (decT t=if 112<(t.getD 7 0).toNat then(fr0,10) else if frCheck (frOf t)=0∧frText (frOf t)=t then(frOf t,0) else(fr0,10)):=Lib.hid rfl;have HF:Hid (frOf t=⟨(t.getD 0 0).toNat,numN (mkS t) 1 4,numN (mkS t) 5 2,mkS ((t.drop 12).take (t.getD 7 0).toNat)⟩):=Lib.hid rfl;clear hok hlen;generalize (t.getD 7 0).toNat=N7 at*;generalize (t.getD 0 0).toNat=K0 at*;generalize hS:mkS t=S at*;have E7:∀w,(Instr.index 9 (.string S) (.int .i64 7)).run Tryz.prog w=.ok (.int .u8 N7) w:=fun w=>I7.out w
  have hconv:∀w,(convert 5 3 (.int .u8 N7)).run Tryz.prog w=.ok (.int .i64 N7) w:=fun w=>by
   rw[run_convert_int w 5 3 .u8 N7 (by rw[Tryz.underlying5];rfl) Tryz.underlying3,show Tryz.prog.intKind 3=.i64 by kernel_rfl,wrap_i64 (by omega) (by omega)]
  by_cases h112:112<N7
  case pos=>
   have HR2:Hid (D=(fr0,10)):=Lib.hid (by rw[HR.out,HT.out,if_pos h112]);have hgt:decide ((112:Int)<(N7:Int))=true:=by simp;omega
   clear hconv;go_enter Tryz.func133,Tryz.ntmps133;go_wp2_with (with_reducible (refine nw rfl rfl ‹_› ?_;intro bn w' hst));refine(HB.out _).mono ?_;rintro e w1 ⟨rfl,hb⟩;have h1:=hst.below hb;go_wp2_with (with_reducible (refine sa rfl rfl rfl rfl ‹_› ?_;intro w' hst))
   (try simp only[Exit.inBlock,Exit.then])
   refine bodyPost_ret (results2 rfl (res_agg rfl hst.has) res_tmp) rfl ⟨?_,hst.end⟩;rw[HR2.out];rfl
  case neg=>
   have hgt0:decide ((112:Int)<(N7:Int))=false:=by simp;omega
   go_enter Tryz.func133,Tryz.ntmps133;go_wp2_with (with_reducible (refine nw rfl rfl ‹_› ?_;intro bn w' hst));refine(HB.out _).mono ?_;rintro e w1 ⟨rfl,hb⟩;have h1:=hst.below hb;clear hst hb;go_wp2_with fail
   have SL:Hid (∀w,(Instr.sliceAt 9 (.string S) (some (.int .i64 12)) (some (.int .i64 (12+N7:Nat))) none).run Tryz.prog w=.ok (.string (S.extract 12 (12+N7))) w):=Lib.hid (fun w=>by
    rw[run_sliceAt_string w _ _ _ _ _ Tryz.underlying9,run_slice_string_if w 9 S .i64 .i64 12 (12+N7:Nat) Tryz.underlying9,if_pos ⟨by omega,by omega⟩,if_pos ⟨by omega,by omega⟩]
    rfl)
   have A7:Hid (∀w,(binOp .add 3 (.int .i64 12) (.int .i64 N7)).run Tryz.prog w=.ok (.int .i64 (12+N7:Nat)) w):=Lib.hid (fun w=>run_add_i64 _ (by omega) (by omega) w)
   have hDD:S.extract 12 (12+N7)=mkS (List.take N7 (List.drop 12 t)):=by
    have:=text_extract S 12 N7;rw[this,←hS];simp[sub,ls_mkS]
   rw[←hDD] at HF;generalize S.extract 12 (12+N7)=D0 at*;refine wp_region_flow ⟨[],w,fun _=>True,fun i=>i==9||i==10,fun _=>true,fun _=>false⟩ (List.range 11) rfl (by assumption) (by kernel_rfl) (by kernel_rfl) (by kernel_rfl) (by kernel_rfl) (by kernel_rfl) ?_;refine fl_pure rfl rfl rfl (Value.string S) (by kernel_rfl) (fun w=>by kernel_rfl) ?_;refine fl_sem rfl rfl rfl (Instr.index 9 (.string S) (.int .i64 (0:Nat))) (by kernel_rfl) (Value.int .u8 K0) I0.out (by kernel_rfl) ?_;refine fl_pure rfl rfl rfl (Value.string S) (by kernel_rfl) (fun w=>by kernel_rfl) ?_;refine fl_pure rfl rfl rfl (Value.string S) (by kernel_rfl) (fun w=>by kernel_rfl) ?_;refine fl_sem rfl rfl rfl (Instr.index 9 (.string S) (.int .i64 (7:Nat))) (by kernel_rfl) (Value.int .u8 N7) I7.out (by kernel_rfl) ?_;refine fl_sem rfl rfl rfl (convert 5 3 (.int .u8 N7)) (by kernel_rfl) (Value.int .i64 N7) hconv (by kernel_rfl) ?_;refine fl_sem rfl rfl rfl (binOp .add 3 (.int .i64 12) (.int .i64 N7)) (by kernel_rfl) (Value.int .i64 (12+N7:Nat)) A7.out (by kernel_rfl) ?_;refine fl_sem rfl rfl rfl (Instr.sliceAt 9 (.string S) (some (.int .i64 12)) (some (.int .i64 (12+N7:Nat))) none) (by kernel_rfl) (Value.string D0) SL.out (by kernel_rfl) ?_;refine fl_sem rfl rfl rfl (Instr.build 94 #[(0,.int .u8 K0),(3,.string D0)]) (by kernel_rfl) (Value.agg (frC ⟨K0,0,0,D0⟩)) (run_build_fr _ _) (by kernel_rfl) ?_;refine fl_new rfl rfl _ rfl _ zero_frame (fun _ _ _=>trivial) ?_;intro q;refine fl_store rfl rfl _ _ _ rfl q 0 (by kernel_rfl) (.agg (frC ⟨K0,0,0,D0⟩)) (by kernel_rfl) (Or.inr fun _ _=>trivial) ?_;intro w2 hst;have hgt:=Lib.hid h112;clear SL A7 I0 I7 E7 hconv hDD h112 hgt0;have hG2:GSums w2:=hG.below hst.end;have M1:=Lib.hid (get_calls3 S 1 4 (by unfold maxLen;omega));have M2:=Lib.hid (get_calls3 S 5 2 (by unfold maxLen;omega));generalize numN S 1 4=n1 at*;generalize numN S 5 2=n2 at*;go_wp2_with fail;refine(M1.out _).mono ?_;rintro e w3 ⟨rfl,rfl⟩;go_wp2_with (with_reducible (refine si rfl rfl rfl rfl ‹_› ?_;intro w' hst));refine(M2.out _).mono ?_;rintro e w4 ⟨rfl,rfl⟩;go_wp2_with (with_reducible first|refine la rfl rfl rfl ‹_› ?_|(refine si rfl rfl rfl rfl ‹_› ?_;intro w' hst));have hG3:GSums w':=hG.below hst.end;have hKK:(0:Int)≤K0∧(K0:Int)<256:=by omega
   rw[HF.out] at HT;clear hG2 HF;generalize hf:(⟨(K0:Int),n1,n2,D0⟩:Fr)=f at*;have hargs:(.agg #[.int .u8 K0,.int .i64 n1,.int .i64 n2,.string D0]:Value)=.agg (frC f):=by rw[←hf];rfl
   rw[hargs];have HC:=Lib.hid (frCheck_calls f)
   by_cases hc:frCheck f=0
   case neg=>
    have HR3:Hid (D=(fr0,10)):=Lib.hid (by rw[HR.out,HT.out];split;rfl;rw[if_neg (fun h=>hc h.1)]);have hne:(frCheck f !=0)=true:=by simpa using hc
    clear hc HT;generalize frCheck f=r at*;refine(HC.out _).mono ?_;rintro e w5 ⟨rfl,hb5⟩;have h5:=hst.below hb5;clear hst hb5;go_wp2_with (with_reducible (refine sa rfl rfl rfl rfl ‹_› ?_;intro w' hst))
    (try simp only[Exit.inBlock,Exit.then])
    refine bodyPost_ret (results2 rfl (res_agg rfl hst.has) res_tmp) rfl ⟨?_,hst.end⟩;rw[HR3.out];rfl
   case pos=>
    have hd:=frCheck_data hc
    have hei:f.epoch≤9223372036854775807∧f.index≤9223372036854775807:=by
     unfold frCheck at hc;split at hc
     ·split at hc
      ·omega
      ·omega
     ·omega
    have hkf:0≤f.kind∧f.kind<256:=by rw[←hf];exact hKK
    have HX:=Lib.hid (fun w hG=>frText_calls f hkf hei.1 hei.2 hd w hG);have hlt:¬112<N7:=hgt.out
    have HB2:Hid (((mkS (frText f)).toList==S.toList)=(frText f==t)):=Lib.hid (by
     rw[←hS,ByteArray.toList_eq,ByteArray.toList_eq];rfl)
    rw[hc] at HC;refine(HC.out _).mono ?_;rintro e w5 ⟨rfl,hb5⟩;have h5:=hst.below hb5;have hG5:GSums w5:=hG.below h5.end;clear hst hb5
    cases hb:(frText f==t)
    ·have HR3:Hid (D=(fr0,10)):=Lib.hid (by
      rw[HR.out,HT.out,if_neg hlt,if_neg];rintro⟨_,h⟩;rw[h] at hb
      simp at hb)
     have hbb:=HB2.out.trans hb;clear hb HT HB2 hc hlt;generalize mkS (frText f)=X at*;go_wp2_with (with_reducible refine la rfl rfl rfl ‹_› ?_);refine(HX.out _ hG5).mono ?_;rintro e w6 ⟨rfl,hb6⟩;have h6:=h5.below hb6;clear h5 hb6;go_wp2_with (with_reducible (refine sa rfl rfl rfl rfl ‹_› ?_;intro w' hst))
     (try simp only[Exit.inBlock,Exit.then])
     refine bodyPost_ret (results2 rfl (res_agg rfl hst.has) res_tmp) rfl ⟨?_,hst.end⟩;rw[HR3.out];rfl
    ·have HR3:Hid (D=(f,0)):=Lib.hid (by
      rw[HR.out,HT.out,if_neg hlt,if_pos ⟨hc,by simpa using hb⟩])
     have hbb:=HB2.out.trans hb;clear hb HT HB2 hc hlt;generalize mkS (frText f)=X at*;go_wp2_with (with_reducible refine la rfl rfl rfl ‹_› ?_);refine(HX.out _ hG5).mono ?_;rintro e w6 ⟨rfl,hb6⟩;have h6:=h5.below hb6;clear h5 hb6;go_wp2_with (with_reducible first|refine la rfl rfl rfl ‹_› ?_|(refine sa rfl rfl rfl rfl ‹_› ?_;intro w' hst))
     (try simp only[Exit.inBlock,Exit.then])
     refine bodyPost_ret (results2 rfl (res_agg rfl hst.has) res_tmp) rfl ⟨?_,hst.end⟩;rw[HR3.out];rfl
end Go.Proofs.YtdkeiefgkgpcbaaGreatDoor
namespace Go.Proofs.YtdkeiefgkgpcbaaGreatDoor
open Go.RowKit
structure W32 where
 val:Nat
 lt:val<4294967296
namespace W32
def xor (x y:W32):W32:=⟨x.val ^^^ y.val,Nat.xor_lt_two_pow (n:=32) x.lt y.lt⟩
def and (x y:W32):W32:=⟨x.val&&& y.val,Nat.lt_of_le_of_lt Nat.and_le_left x.lt⟩
def or (x y:W32):W32:=⟨x.val|||y.val,Nat.or_lt_two_pow (n:=32) x.lt y.lt⟩
def add (x y:W32):W32:=⟨(x.val+y.val)%4294967296,Nat.mod_lt _ (by decide)⟩
def shr (x:W32) (n:Nat):W32:=⟨x.val / 2 ^ n,Nat.lt_of_le_of_lt (Nat.div_le_self _ _) x.lt⟩
def shl (x:W32) (n:Nat):W32:=⟨x.val*2 ^ n%4294967296,Nat.mod_lt _ (by decide)⟩
def rotr (x:W32) (n:Nat):W32:=(x.shl (32-n)).or (x.shr n)
end W32
abbrev v32 (x:W32):Value:=.int .u32 (x.val:Int)
theorem w32_xor (x y:W32):bits .xor .u32 (x.val:Int) (y.val:Int)=((x.xor y).val:Int):=u32_xor_nat _ _ x.lt y.lt
theorem w32_and (x y:W32):bits .and .u32 (x.val:Int) (y.val:Int)=((x.and y).val:Int):=u32_and_nat _ _ x.lt y.lt
theorem w32_or (x y:W32):bits .or .u32 (x.val:Int) (y.val:Int)=((x.or y).val:Int):=u32_or_nat _ _ x.lt y.lt
theorem w32_add (x y:W32):((x.val:Int)+(y.val:Int))%4294967296=((x.add y).val:Int):=by
 simp only[W32.add];omega
theorem w32_shr (x:W32) (n:Nat):(x.val:Int) / 2 ^ n=((x.shr n).val:Int):=by
 simp only[W32.shr];rw[Int.natCast_ediv,Int.natCast_pow];rfl
theorem w32_shl (x:W32) (n:Nat):(x.val:Int)*2 ^ n%4294967296=((x.shl n).val:Int):=by
 simp only[W32.shl];rw[Int.natCast_emod,Int.natCast_mul,Int.natCast_pow];rfl
set_option maxHeartbeats 1000000 in
theorem rot_calls (x:W32) (n m:Nat) (hm:n+m=32) (hn:0<n) (hmm:0<m) (e:bits .and .u64 (IntKind.u64.wrap (-(n:Int))) 31=(m:Int)) (w:World):
  Calls Tryz.prog 195 #[v32 x,.int .i64 (-(n:Int))] w fun e w'=>e=.returned (v32 (x.rotr n))∧w=w':=by
 have hx:=x.lt;go_enter Tryz.func195,Tryz.ntmps195;go_wp2_with fail;go_ret;refine⟨?_,rfl⟩;show Ending.returned (.int .u32 (bits .or .u32 ((x.val:Int)*2 ^ m%4294967296) ((x.val:Int) / 2 ^ (32-m))))=_;rw[w32_shl,w32_shr,w32_or,show 32-m=n by omega];unfold W32.rotr;rw[show 32-n=m by omega]
def wb (c:UInt8):W32:=⟨c.toNat,by have:=c.toNat_lt;omega⟩
theorem run_xor32 (T:TypeId) (x y:W32) (w:World):(binOp .xor T (v32 x) (v32 y)).run Tryz.prog w=.ok (v32 (x.xor y)) w:=by rw[binOp_xor,intBits_xor,w32_xor];rfl
theorem run_and32 (T:TypeId) (x y:W32) (w:World):(binOp .and T (v32 x) (v32 y)).run Tryz.prog w=.ok (v32 (x.and y)) w:=by rw[binOp_and,intBits_and,w32_and];rfl
theorem run_or32 (T:TypeId) (x y:W32) (w:World):(binOp .or T (v32 x) (v32 y)).run Tryz.prog w=.ok (v32 (x.or y)) w:=by rw[binOp_or,intBits_or,w32_or];rfl
theorem run_add32 (T:TypeId) (x y:W32) (w:World):(binOp .add T (v32 x) (v32 y)).run Tryz.prog w=.ok (v32 (x.add y)) w:=by
 rw[binOp_add];unfold Op.intArith
 have e:IntKind.u32.wrap ((x.val:Int)+(y.val:Int))=((x.add y).val:Int):=by
  rw[←w32_add];simp[IntKind.wrap,IntKind.signed,IntKind.bits]
 simp[e]
theorem run_shr32 (T:TypeId) (x:W32) (n:Nat) (hn:n≤32) (w:World):(binOp .shr T (v32 x) (.int .u64 n)).run Tryz.prog w=.ok (v32 (x.shr n)) w:=by
 rw[binOp_shr,shift_shr .u32 .u64 _ _ (by omega) (by show(n:Int)≤32;omega)];simp only[Int.toNat_natCast,w32_shr];rfl
theorem run_shl32 (T:TypeId) (x:W32) (n:Nat) (hn:n≤32) (w:World):(binOp .shl T (v32 x) (.int .u64 n)).run Tryz.prog w=.ok (v32 (x.shl n)) w:=by
 rw[binOp_shl,shift_shl .u32 .u64 _ _ (by omega) (by show(n:Int)≤32;omega)]
 have e:IntKind.u32.wrap ((x.val:Int)*2 ^ n)=((x.shl n).val:Int):=by
  rw[←w32_shl];simp[IntKind.wrap,IntKind.signed,IntKind.bits]
 simp only[Int.toNat_natCast,e];rfl
theorem run_conv32 (c:UInt8) (w:World):(convert 5 223 (.int .u8 c.toNat)).run Tryz.prog w=.ok (v32 (wb c)) w:=by
 rw[run_convert_int w 5 223 .u8 c.toNat (by rw[Tryz.underlying5];rfl) Tryz.underlying223,show Tryz.prog.intKind 223=.u32 by kernel_rfl];have:=c.toNat_lt
 have e:IntKind.u32.wrap (c.toNat:Int)=(c.toNat:Int):=by
  simp only[IntKind.wrap,IntKind.signed,IntKind.bits];simp;omega
 rw[e];rfl
def turnsL:List Nat:=[7,18,17,19,6,11,25,2,13,22]
theorem turns_ok:∀n∈turnsL,0<n∧n<32∧bits .and .u64 (IntKind.u64.wrap (-(n:Int))) 31=((32-n:Nat):Int):=by decide
set_option maxHeartbeats 1000000 in
theorem turn_calls (x:W32) (n:Nat) (hn:n∈turnsL) (w:World):
  Calls Tryz.prog 188 #[v32 x,.int .i64 n] w fun e w'=>e=.returned (v32 (x.rotr n))∧w=w':=by
 obtain⟨h1,h2,h3⟩:=turns_ok n hn;have HR:=Lib.hid (rot_calls x n (32-n) (by omega) h1 (by omega) h3);clear h3 hn;go_enter Tryz.func188,Tryz.ntmps188;go_wp2_with fail;refine(HR.out _).mono ?_;rintro e w' ⟨rfl,rfl⟩;go_wp2_with fail;go_ret;exact⟨rfl,rfl⟩
end Go.Proofs.YtdkeiefgkgpcbaaGreatDoor
