/- Steps of the proof: Tamper, TampR, Tampered. -/
import Derived.Deep.Slices
import Derived.Test.YtdkeiefgkgpcbaaGreatDoorT01
import Derived.Test.YtdkeiefgkgpcbaaGreatDoorT03
set_option linter.unusedVariables false
set_option linter.unusedSimpArgs false
set_option maxRecDepth 100000
namespace Go.Proofs.YtdkeiefgkgpcbaaGreatDoor
open Go.RowKit
theorem yca (p:Option Addr) (c:Nat) (fv:Value) (w:World):Calls Tryz.prog 130 #[.slice p 0 c,fv] w (Ret (.int .i64 (-1)) w):=by
 have hst:=Sx.startN w;go_enter Tryz.func130,Tryz.ntmps130;go_wp2_with fail;go_loopw [8] (fun iv wr=>iv=.int .i64 0∧Sx [] w wr [] NoD []) (fun _ _=>0)
 case atStart=>exact⟨rfl,hst⟩
 case round=>
  clear hst;obtain⟨rfl,hst⟩:=hrel;go_wp2_with fail;go_ret;exact⟨rfl,hst.end⟩
theorem ycb (p:Option Addr) (c:Nat) (fv:Value) (w:World):Calls Tryz.prog 90 #[.slice p 0 c,fv] w (Ret (.slice p 0 c) w):=by
 have hst:=Sx.startN w;have HI:=Lib.hid (fun wx=>yca p c fv wx);go_enter Tryz.func90,Tryz.ntmps90;go_wp2_with (first|(with_reducible refine callB (HI.out _) hst ?_;clear hst;intro w' hst));go_ret;exact⟨rfl,hst.end⟩
def tampD (d:Dv) (k:Nat) (b:Bk):Dv:={d with sure:=d.sure.set k b,now:=d.now.set k b}
section
variable {D:Dat} {F:List Nat} {w:World} {g:Nat} {d:Dv}
set_option maxHeartbeats 2000000 in
theorem ycc (h:DevW D F w g d) (hac:d.acts=[]) {k:Nat} (hk:k<d.now.length) {st:Int} {s:ByteArray} (hok:(st=1∧s.size=128)∨((st=0∨st=2)∧s=⟨#[]⟩)):
  Calls Tryz.prog 46 #[.pointer (some ⟨g,0,none⟩),.int .i64 (k:Int),.int .i64 st,.string s] w (DevRet (.int .i64 0) D F w g (tampD d k ⟨st,s⟩)):=by
 obtain⟨q,m,rfl,hst⟩:=h.open h.lt;have HLn:=Lib.hid (fun F wx (hd:DevW D F wx g d)=>dlen_calls hd);have HSt:=Lib.hid (fun F wx (hd:DevW D F wx g d)=>dstate_calls hd (k:Int))
 have hs0:0≤dState d (k:Int):=by
  unfold dState;rw[if_neg (by omega),Int.toNat_natCast,List.getD_eq_getElem?_getD,List.getElem?_eq_getElem hk];have:=(m.ok.bnow _ (List.getElem_mem hk)).1;simp only[Option.getD_some];omega
 have HS0:=Lib.hid (decide_eq_false (show ¬dState d (k:Int)<0 by omega));have hmin:=m.ok.min;have HL0:=Lib.hid (decide_eq_false (show ¬(d.now.length:Int)=0 by omega));have HD:=Lib.hid (fun p c fv wx=>ycb p c fv wx);have hoa:=m.ac;obtain⟨pa,ca,hva⟩:=hoa.slice;rw[hac] at hva;rw[hva] at hoa;have c2:CellAt (devC d q) 2 (.slice pa 0 ca):=⟨by rw[show(Value.slice pa 0 ca)=q.va from hva.symm];rfl⟩;have hsl:=m.ok.same;have hk1:k<d.sure.length:=by omega
 have hzs:=m.ss;have hzn:=m.ns;have hcs:=m.sl;have hcn:=m.nl;obtain⟨b,hb⟩:∃b:Bk,(⟨st,s⟩:Bk)=b:=⟨_,rfl⟩
 have hbo:b.Ok:=by
  rw[←hb];rcases hok with⟨h1,h2⟩ |⟨h1,h2⟩
  ·exact⟨by simp only;omega,by simp only;omega⟩
  ·exact⟨by simp only;omega,by simp only[h2];decide⟩
 have hW1:WrAt q.Cs (k*2) 2 (.agg #[.int .i64 st,.string s]) (Go.Proofs.YtdkeiefgkgpcbaaGreatDoor.wr q.Cs (k*2) (bkL b)):=by
  rw[←hb];exact wrRow _ _ _ _ rfl (encBk.one ⟨st,s⟩) (by omega)
 have hC1:(Go.Proofs.YtdkeiefgkgpcbaaGreatDoor.wr q.Cs (k*2) (bkL b)).toList.take ((d.sure.set k b).length*2)=(d.sure.set k b).flatMap bkL:=by rw[List.length_set];exact own_set (enc:=bkL) (by decide) m.st hk1 b
 have hC2:(Go.Proofs.YtdkeiefgkgpcbaaGreatDoor.wr q.Cn (k*2) (bkL b)).toList.take ((d.now.set k b).length*2)=(d.now.set k b).flatMap bkL:=by rw[List.length_set];exact own_set (enc:=bkL) (by decide) m.nt hk b
 have hP:PartAt (Go.Proofs.YtdkeiefgkgpcbaaGreatDoor.wr q.Cs (k*2) (bkL b)) (k*2) 2 (bkL b):=⟨rfl,fun j v hv=>by
  have hj:j<2:=(List.getElem?_eq_some_iff.1 hv).1;have h1:k<(d.sure.set k b).length:=by rw[List.length_set];exact hk1
  have:=OwnR.cells (enc:=bkL) (k:=2) hC1 h1 hj;rw[this,List.getElem_set_self]
  exact hv⟩
 have hW2:WrAt q.Cn (k*2) 2 (.agg (bkL b).toArray) (Go.Proofs.YtdkeiefgkgpcbaaGreatDoor.wr q.Cn (k*2) (bkL b)):=wrRow _ _ _ _ rfl (encBk.one b) (by omega)
 have HM2:Hid (DevMem D (tampD d k b) {q with va:=.slice pa 0 ca,Cs:=Go.Proofs.YtdkeiefgkgpcbaaGreatDoor.wr q.Cs (k*2) (bkL b),Cn:=Go.Proofs.YtdkeiefgkgpcbaaGreatDoor.wr q.Cn (k*2) (bkL b)}):=Lib.hid (by
  refine⟨⟨by simp[tampD,hsl],by simp[tampD,m.ok.min],by simp[tampD,m.ok.max],fun a ha=>?_,m.ok.adat,fun x hx=>?_,fun x hx=>?_,m.ok.left,m.ok.keep⟩,by simp[tampD];exact hcs,by simp only[wr_size];exact hzs,hC1,by simp[tampD];exact hcn,by simp only[wr_size];exact hzn,hC2,hoa,m.al,m.kp⟩
  ·have:=m.ok.acts a ha
   simpa[tampD] using this
  ·rcases List.mem_or_eq_of_mem_set hx with h1 |rfl
   ·exact m.ok.bsure x h1
   ·exact hbo
  ·rcases List.mem_or_eq_of_mem_set hx with h1 |rfl
   ·exact m.ok.bnow x h1
   ·exact hbo)
 rw[hb];replace hb:=Lib.hid hb;clear h hs0 hmin hoa hva hC1 hC2 hbo hac hzs hzn hcs hcn;go_enter Tryz.func46,Tryz.ntmps46;rcases hok with⟨rfl,hsz⟩ |⟨rfl |rfl,rfl⟩
 case' inl=>
  have HZ:=Lib.hid (decide_eq_true (show(s.size:Int)=128 by omega));clear hsz;go_wp2_with (first|(with_reducible refine xval rfl 12 rfl _ (fun w=>Fx.e_eql rfl rfl rfl HL0.out w) ?_)|(with_reducible refine xval rfl 15 rfl _ (fun w=>Fx.e_eql rfl rfl rfl HZ.out w) ?_)|(with_reducible refine xval rfl 19 rfl _ (fun w=>Fx.e_lss rfl rfl rfl HS0.out w) ?_)|(with_reducible first|refine x1 rfl rfl rfl hst ?_|(refine xsl rfl rfl rfl rfl hst ?_;clear hst;intro w' hst)|(refine xbi rfl rfl hst rfl ?_;clear hst;intro bb w' hst))|(with_reducible refine callOr HLn.out hst m ?_;clear hst;intro w' hst)|(with_reducible refine callOr HSt.out hst m ?_;clear hst;intro w' hst;unfold devL at hst)|(with_reducible refine callB (HD.out _ _ _ _) hst ?_;clear hst;intro w' hst));refine Fx.go (fun i=>i==9) (fun i=> !(i==3||i==4)) (fun i=>i==9) (List.range 10) rfl hst (by kernel_rfl) (by kernel_rfl) (by kernel_rfl) (by kernel_rfl) (by kernel_rfl) ?_
  repeat(first|refine Fx.val rfl rfl rfl rfl (Fx.e_mv rfl rfl) ?_|refine Fx.val rfl rfl rfl rfl (Fx.e_nil rfl rfl) ?_|refine Fx.fa rfl rfl rfl rfl rfl rfl ?_|refine Fx.l1 rfl rfl rfl rfl rfl rfl ?_)
  refine Fx.val rfl rfl rfl rfl (v:=.agg #[.int .i64 1,.string s]) (fun w=>by kernel_rfl) ?_
 case' inr.inl=>
  go_wp2_with (first|(with_reducible refine xval rfl 12 rfl _ (fun w=>Fx.e_eql rfl rfl rfl HL0.out w) ?_)|(with_reducible refine xval rfl 19 rfl _ (fun w=>Fx.e_lss rfl rfl rfl HS0.out w) ?_)|(with_reducible refine xval rfl 41 rfl (.bool false) (fun w=>by kernel_rfl) ?_)|(with_reducible first|refine x1 rfl rfl rfl hst ?_|(refine xsl rfl rfl rfl rfl hst ?_;clear hst;intro w' hst)|(refine xbi rfl rfl hst rfl ?_;clear hst;intro bb w' hst))|(with_reducible refine callOr HLn.out hst m ?_;clear hst;intro w' hst)|(with_reducible refine callOr HSt.out hst m ?_;clear hst;intro w' hst;unfold devL at hst)|(with_reducible refine callB (HD.out _ _ _ _) hst ?_;clear hst;intro w' hst));refine Fx.go (fun i=>i==9) (fun i=> !(i==3||i==4)) (fun i=>i==9) (List.range 10) rfl hst (by kernel_rfl) (by kernel_rfl) (by kernel_rfl) (by kernel_rfl) (by kernel_rfl) ?_
  repeat(first|refine Fx.val rfl rfl rfl rfl (Fx.e_mv rfl rfl) ?_|refine Fx.val rfl rfl rfl rfl (Fx.e_nil rfl rfl) ?_|refine Fx.fa rfl rfl rfl rfl rfl rfl ?_|refine Fx.l1 rfl rfl rfl rfl rfl rfl ?_)
  refine Fx.val rfl rfl rfl rfl (v:=.agg #[.int .i64 0,.string ⟨#[]⟩]) (fun w=>by kernel_rfl) ?_
 case' inr.inr=>
  go_wp2_with (first|(with_reducible refine xval rfl 12 rfl _ (fun w=>Fx.e_eql rfl rfl rfl HL0.out w) ?_)|(with_reducible refine xval rfl 19 rfl _ (fun w=>Fx.e_lss rfl rfl rfl HS0.out w) ?_)|(with_reducible refine xval rfl 41 rfl (.bool false) (fun w=>by kernel_rfl) ?_)|(with_reducible first|refine x1 rfl rfl rfl hst ?_|(refine xsl rfl rfl rfl rfl hst ?_;clear hst;intro w' hst)|(refine xbi rfl rfl hst rfl ?_;clear hst;intro bb w' hst))|(with_reducible refine callOr HLn.out hst m ?_;clear hst;intro w' hst)|(with_reducible refine callOr HSt.out hst m ?_;clear hst;intro w' hst;unfold devL at hst)|(with_reducible refine callB (HD.out _ _ _ _) hst ?_;clear hst;intro w' hst));refine Fx.go (fun i=>i==9) (fun i=> !(i==3||i==4)) (fun i=>i==9) (List.range 10) rfl hst (by kernel_rfl) (by kernel_rfl) (by kernel_rfl) (by kernel_rfl) (by kernel_rfl) ?_
  repeat(first|refine Fx.val rfl rfl rfl rfl (Fx.e_mv rfl rfl) ?_|refine Fx.val rfl rfl rfl rfl (Fx.e_nil rfl rfl) ?_|refine Fx.fa rfl rfl rfl rfl rfl rfl ?_|refine Fx.l1 rfl rfl rfl rfl rfl rfl ?_)
  refine Fx.val rfl rfl rfl rfl (v:=.agg #[.int .i64 2,.string ⟨#[]⟩]) (fun w=>by kernel_rfl) ?_
 all_goals
  repeat(first|refine Fx.ix rfl rfl rfl rfl rfl rfl rfl (by omega) ?_|refine Fx.stA rfl rfl rfl rfl rfl (Or.inl rfl) ?_)
  clear hst;intro w' hst;generalize hact:Fx.mkO _ _=act;have hv0:act.tmps.getD 0 undef=.pointer (some ⟨g,0,none⟩):=by rw[←hact];kernel_rfl
  have hv5:act.tmps.getD 5 undef=.pointer (some ⟨bb,0,none⟩):=by rw[←hact];kernel_rfl
  have hv8:act.tmps.getD 8 undef=.int .i64 0:=by rw[←hact];kernel_rfl
  obtain⟨fZ,hfZ,hact2⟩:=act_lit act 75 (by rw[←hact];kernel_rfl) (by rw[←hact];kernel_rfl);clear hact;have he0:fZ 0=.pointer (some ⟨g,0,none⟩):=(hfZ 0).symm.trans hv0;have he5:fZ 5=.pointer (some ⟨bb,0,none⟩):=(hfZ 5).symm.trans hv5;have he8:fZ 8=.int .i64 0:=(hfZ 8).symm.trans hv8;simp only[show List.range 75=[0,1,2,3,4,5,6,7,8,9,10,11,12,13,14,15,16,17,18,19,20,21,22,23,24,25,26,27,28,29,30,31,32,33,34,35,36,37,38,39,40,41,42,43,44,45,46,47,48,49,50,51,52,53,54,55,56,57,58,59,60,61,62,63,64,65,66,67,68,69,70,71,72,73,74] from rfl,List.map_cons,List.map_nil,he0,he5,he8] at hact2;clear hfZ hv0 he0 hv5 he5 hv8 he8;subst hact2;go_wp2_with fail;refine Fx.go (fun i=>i==13) (fun i=> !(i==3||i==4||i==8||i==9||i==11)) (fun i=>i==13) (List.range 14) rfl hst (by kernel_rfl) (by kernel_rfl) (by kernel_rfl) (by kernel_rfl) (by kernel_rfl) ?_
  repeat(first|refine Fx.val rfl rfl rfl rfl (Fx.e_mv rfl rfl) ?_|refine Fx.val rfl rfl rfl rfl (Fx.e_nil rfl rfl) ?_|refine Fx.fa rfl rfl rfl rfl rfl rfl ?_|refine Fx.l1 rfl rfl rfl rfl rfl rfl ?_|refine Fx.lA rfl rfl rfl rfl rfl rfl ?_|refine Fx.ix rfl rfl rfl rfl rfl rfl rfl (by omega) ?_|refine Fx.stA rfl rfl rfl rfl rfl (Or.inl rfl) ?_)
  clear hst;intro w' hst;generalize hact:Fx.mkO _ _=act;have hv8:act.tmps.getD 8 undef=.int .i64 0:=by rw[←hact];kernel_rfl
  obtain⟨fZ,hfZ,hact2⟩:=act_lit act 75 (by rw[←hact];kernel_rfl) (by rw[←hact];kernel_rfl);clear hact;have he8:fZ 8=.int .i64 0:=(hfZ 8).symm.trans hv8;simp only[show List.range 75=[0,1,2,3,4,5,6,7,8,9,10,11,12,13,14,15,16,17,18,19,20,21,22,23,24,25,26,27,28,29,30,31,32,33,34,35,36,37,38,39,40,41,42,43,44,45,46,47,48,49,50,51,52,53,54,55,56,57,58,59,60,61,62,63,64,65,66,67,68,69,70,71,72,73,74] from rfl,List.map_cons,List.map_nil,he8] at hact2;clear hfZ hv8 he8;subst hact2;go_wp2_with fail;go_ret;have HL2:(g,devC d {q with va:=.slice pa 0 ca},112)::(q.gs,Go.Proofs.YtdkeiefgkgpcbaaGreatDoor.wr q.Cs (k*2) (bkL b),139)::(q.gn,Go.Proofs.YtdkeiefgkgpcbaaGreatDoor.wr q.Cn (k*2) (bkL b),139)::q.La=devL g (tampD d k b) {q with va:=.slice pa 0 ca,Cs:=Go.Proofs.YtdkeiefgkgpcbaaGreatDoor.wr q.Cs (k*2) (bkL b),Cn:=Go.Proofs.YtdkeiefgkgpcbaaGreatDoor.wr q.Cn (k*2) (bkL b)}:=by simp[devL,devC,tampD]
  obtain⟨F',h1,h2,h3⟩:=Sx.closeDev0 hst.drop HM2.out HL2;exact⟨rfl,F',h1,h2,h3⟩
end
structure Ht where
 a:UInt16
 s:UInt8
 b:UInt8
 x:UInt8
def htL (h:Ht):List Value:=[.int .u16 (h.a.toNat:Int),.int .u8 (h.s.toNat:Int),.int .u8 (h.b.toNat:Int),.int .u8 (h.x.toNat:Int)]
theorem ycd (h:Ht):(htL h).all (·.oneCell')=true:=rfl
instance encHt:Enc htL 4:=⟨fun _=>rfl,fun x v hv=>List.all_eq_true.1 (ycd x) v hv⟩
instance eltHt:Elt 116 4:=⟨.agg #[.int .u16 0,.int .u8 0,.int .u8 0,.int .u8 0],6,by kernel_rfl,rfl,by decide,by decide⟩
instance sltHt:SlT 56 116:=⟨Tryz.underlying56⟩
instance oneU16:OneT 114:=⟨fun w=>by kernel_rfl,by kernel_rfl⟩
instance fldHt0:Fx.FldT 116 0 0:=⟨fun ad w=>by kernel_rfl⟩
instance fldHt1:Fx.FldT 116 1 1:=⟨fun ad w=>by kernel_rfl⟩
instance fldHt2:Fx.FldT 116 2 2:=⟨fun ad w=>by kernel_rfl⟩
instance fldHt3:Fx.FldT 116 3 3:=⟨fun ad w=>by kernel_rfl⟩
theorem yce (c:UInt16) (w:World):(convert 114 3 (.int .u16 (c.toNat:Int))).run Tryz.prog w=.ok (.int .i64 (c.toNat:Int)) w:=by
 have:=c.toNat_lt;rw[run_convert_int w 114 3 .u16 c.toNat (by rw[Tryz.underlying114];rfl) Tryz.underlying3,show Tryz.prog.intKind 3=.i64 by kernel_rfl,wrap_i64 (by omega) (by omega)]
theorem ycf (T:TypeId) (a b:UInt8):∃c:UInt8,∀w,(binOp .xor T (.int .u8 (a.toNat:Int)) (.int .u8 (b.toNat:Int))).run Tryz.prog w=.ok (.int .u8 (c.toNat:Int)) w:=by
 obtain⟨z,hz⟩:∃z,bits .xor .u8 (a.toNat:Int) (b.toNat:Int)=z:=⟨_,rfl⟩
 have h:0≤z∧z<256:=by
  rw[←hz];unfold bits;simp only[IntKind.wrap,IntKind.bits,IntKind.signed];simp;omega
 refine⟨UInt8.ofNat z.toNat,fun w=>?_⟩;have e:(UInt8.ofNat z.toNat).toNat=z.toNat:=by simp;omega
 rw[binOp_xor,intBits_xor,hz,e,show((z.toNat:Nat):Int)=z by omega];rfl
structure ByC (C:Array Value) (fr:Nat×Nat):Prop where
 len:128≤C.size
 by_:∀j,j<128→∃c:UInt8,C[j]? =some (.int .u8 (c.toNat:Int))
 fr:fr=(0,0)∨fr.1=C.size
theorem ByC.set {C:Array Value} {fr:Nat×Nat} (h:ByC C fr) (j:Nat) (c:UInt8):ByC (C.setIfInBounds j (.int .u8 (c.toNat:Int))) fr where
 len:=by rw[Array.size_setIfInBounds];exact h.len
 by_ i hi:=by
  rw[Array.getElem?_setIfInBounds]
  by_cases hij:j=i
  ·subst hij
   rw[if_pos rfl,if_pos (by have:=h.len;omega)];exact⟨c,rfl⟩
  ·rw[if_neg hij];exact h.by_ i hi
 fr:=by rw[Array.size_setIfInBounds];exact h.fr
section
variable {S:List Nat} {w0 w:World} {L:List Blk} {D:Dat} {b:Nat} {C:Array Value} {T:TypeId} {fr:Nat×Nat}
theorem Sx.toMx (h:Sx S w0 w ((b,C,T)::L) D []):Mx S w0 w L D b (.cells C T (0,0)):=by
 have hb:=h.st.blk (b,C,T) (by simp);have hd:=h.drop;have hn:=h.st.nodup;rw[List.map_cons,List.nodup_cons] at hn
 exact⟨⟨hd.st,hd.data,hd.apart,fun x hx=>by obtain rfl:=List.mem_singleton.1 hx;exact lt_of_heap' hb,fun x hx p hp e=>by
  obtain rfl:=List.mem_singleton.1 hx;exact hn.1 (e ▸ List.mem_map.2 ⟨p,hp,rfl⟩),fun x hx p hp=>by
  obtain rfl:=List.mem_singleton.1 hx;exact h.apart p hp (x,C,T) (by simp),fun x hx=>by
  obtain rfl:=List.mem_singleton.1 hx
  exact(h.st.own (x,C,T) (by simp)).symm⟩,hb⟩
variable {ops:Array Oper} {rest:List Oper} {o:Oper} {a:Act} {Q:Exit→Act→World→Prop}
theorem xs2m (hw:Region.wanted o (yielded ops a.tmps)=true) {x:Operand} (ho:o.op=.convert 9 47 x) {s:ByteArray} (hx:a.eval x=.string s) (h:Sx S w0 w L D [])
  (hk:∀(b cap:Nat) (C:Array Value) (w':World),Mx S w0 w' L D b (.cells C 5 (C.size,C.size+1))→(s.size=128→ByC C (C.size,C.size+1))→
   wpList Tryz.prog ops Q rest (a.put o.dst (.slice (some ⟨b,0,none⟩) s.size cap)) w'):wpList Tryz.prog ops Q (o::rest) a w:=
 xs2b hw ho hx h fun b cap C w' hs hL hD _ hw0 hsz hg hc=>hk b cap C w' ⟨⟨hs.st,hs.data,hs.apart,fun x hx=>by obtain rfl:=List.mem_singleton.1 hx;exact lt_of_heap' hg,fun x hx p hp=>by obtain rfl:=List.mem_singleton.1 hx;exact hL p hp,fun x hx p hp=>by obtain rfl:=List.mem_singleton.1 hx;exact hD p hp,fun x hx=>by obtain rfl:=List.mem_singleton.1 hx;exact Or.inr hw0⟩,hg⟩
  (fun h128=>⟨by omega,fun j hj=>⟨_,hc j (by omega)⟩,Or.inr rfl⟩)
def ycg (S:List Nat) (w0:World) (L:List Blk) (D:Dat) (b:Nat) (fr:Nat×Nat) (C0:Array Value):Fm.Flow where
 σ:=Array Value
 I C w:=Mx S w0 w L D b (.cells C 5 fr)
 below _ _ _ h hb:=h.below hb
 B w:=Mx S w0 w L D b (.cells C0 5 fr)
 special i:=i==13
 pure i:= !(i==5||i==10)
 late i:=i==13
theorem by_ld {ρ:Operand→Value} {x:Operand} {j:Nat} {v:Value} (ho:o.op=.load 5 x) (hx:ρ x=.pointer (some ⟨b,j,none⟩)) (hb:w.heap[b]? =some (.cells C T fr)) (hv:C[j]? =some v):(execOp ρ o).run Tryz.prog w=.ok (.value v) w:=by
 unfold execOp;simp only[ho,hx,Instr.loadAt,Instr.sureAddr,Sem.run_bind,Sem.run_pure,Result.andThen_ok,run_loadVar_one (oneByte.agg w) hb hv]
theorem by_st {ρ:Operand→Value} {x y:Operand} {j:Nat} {z:Int} {C0:Array Value} (ho:o.op=.store 5 x y) (hx:ρ x=.pointer (some ⟨b,j,none⟩)) (hy:ρ y=.int .u8 z) (hj:j<C.size) (hfr:fr=(0,0)∨fr.1=C.size):
  Fm.SP (ycg S w0 L D b fr C0) C (execOp ρ o) (fun C' u=>C'=C.setIfInBounds j (.int .u8 z)∧u=undef):=fun w hw=>by
 have hb:w.heap[b]? =some (.cells C 5 fr):=Mx.ob hw;have hcell:w.cell? ⟨b,j,none⟩=some C[j]:=by simp[World.cell?,hb,hj]
 have hfro:w.frozen? ⟨b,j,none⟩=false:=by
  rcases hfr with rfl |hfr
  ·simp[World.frozen?,hb]
  ·obtain⟨lo,hi⟩:=fr
   simp only at hfr;subst hfr;simp[World.frozen?,hb];omega
 have hst:(store (⟨b,j,none⟩:Addr) (.int .u8 z)).run Tryz.prog w=.ok () (w.setRow b (C.setIfInBounds j (.int .u8 z))):=by
  rw[run_store Tryz.prog w _ _ _ rfl,hcell];simp[hfro,setCell_eq_setRow w b _ C 5 _ _ hb]
 have hr:(storeVar 5 ⟨b,j,none⟩ (.int .u8 z)).run Tryz.prog w=.ok () (w.setRow b (C.setIfInBounds j (.int .u8 z))):=by
  unfold storeVar;rw[Sem.run_bind,run_size oneByte.size,Result.andThen_ok];simp[Value.cells,storeCells,Addr.add,hst]
 have hset:w.setRow b (C.setIfInBounds j (.int .u8 z))={w with heap:=w.heap.setIfInBounds b (.cells (C.setIfInBounds j (.int .u8 z)) 5 fr)}:=by
  unfold World.setRow;congr 1;apply Array.ext_getElem?;intro i;rw[Array.getElem?_modify,Array.getElem?_setIfInBounds]
  by_cases hib:b=i
  ·subst hib
   rw[if_pos rfl,if_pos rfl,if_pos (lt_of_heap' hb),hb];rfl
  ·rw[if_neg hib,if_neg hib]
 have hM:Mx S w0 (w.setRow b (C.setIfInBounds j (.int .u8 z))) L D b (.cells (C.setIfInBounds j (.int .u8 z)) 5 fr):=by rw[hset];exact Mx.set hw
 refine Or.inr (Or.inl ⟨_,C.setIfInBounds j (.int .u8 z),?_,⟨rfl,rfl⟩,hM⟩);unfold execOp;simp only[ho,hx,hy,Instr.storeAt,Instr.sureAddr,Sem.run_bind,Sem.run_pure,Result.andThen_ok,hr]
theorem ych {ρ:Operand→Value} {x:Operand} {cap:Nat} (ho:o.op=.convert 47 9 x) (hx:ρ x=.slice (some ⟨b,0,none⟩) 128 cap) (hb:w.heap[b]? =some (.cells C T fr)) (hC:ByC C fr):∃s:ByteArray,s.size=128∧(execOp ρ o).run Tryz.prog w=.ok (.value (.string s)) w:=by
 haveI:Inhabited UInt8:=⟨0⟩
 obtain⟨F,hF⟩:=Deep.choose_lt (α:=UInt8) (p:=fun j c=>C[j]? =some (.int .u8 (c.toNat:Int))) hC.by_;have hlen:((List.range 128).map F).length=128:=by simp
 have h:=run_convert_bytes_back (P:=Tryz.prog) w 47 9 5 ⟨b,0,none⟩ cap ((List.range 128).map F) Tryz.underlying47 Tryz.underlying5 Tryz.underlying9 (fun j hj=>by
  rw[addr_add,cell_of_row w b _ _ _ _ hb,Nat.zero_add,hF j (by rw[hlen] at hj;exact hj)]
  simp)
 rw[hlen] at h;refine⟨⟨((List.range 128).map F).toArray⟩,by show((List.range 128).map F).toArray.size=128;simp,?_⟩;unfold execOp;simp only[ho,hx,Sem.run_bind,h,Result.andThen_ok];rfl
theorem xstr (hw:Region.wanted o (yielded ops a.tmps)=true) {x:Operand} (ho:o.op=.convert 47 9 x) {cap:Nat} (hx:a.eval x=.slice (some ⟨b,0,none⟩) 128 cap) (hb:w.heap[b]? =some (.cells C T fr)) (hC:ByC C fr)
  (hk:∀s:ByteArray,s.size=128→wpList Tryz.prog ops Q rest (a.put o.dst (.string s)) w):wpList Tryz.prog ops Q (o::rest) a w:=
 BigFrame.wpList_want hw fun K hK=>by
  obtain⟨s,h1,h2⟩:=ych (ρ:=a.eval) ho hx hb hC;unfold Oper.wp;rw[h2];exact hK _ _ (hk s h1)
theorem by_ix {ρ:Operand→Value} {x y:Operand} {n c j:Nat} (ho:o.op=.indexAddr 47 x y) (hx:ρ x=.slice (some ⟨b,0,none⟩) n c) (hy:ρ y=.int .i64 (j:Int)) (hj:j<n) (w:World):(execOp ρ o).run Tryz.prog w=.ok (.value (.pointer (some ⟨b,j,none⟩))) w:=by
 have:=Fx.e_ix (T:=5) ho hx hy hj w;rw[addr_add,Nat.mul_one,Nat.zero_add] at this;exact this
theorem ht_ix {ρ:Operand→Value} {x y:Operand} {g0 off n c j:Nat} (ho:o.op=.indexAddr 56 x y) (hx:ρ x=.slice (some ⟨g0,off,none⟩) n c) (hy:ρ y=.int .i64 (j:Int)) (hj:j<n) (w:World):(execOp ρ o).run Tryz.prog w=.ok (.value (.pointer (some ⟨g0,off+j*4,none⟩))) w:=by
 have:=Fx.e_ix (T:=116) ho hx hy hj w;rw[addr_add] at this;exact this
theorem yci {ρ:Operand→Value} {x:Operand} {g0 off:Nat} (ho:o.op=.fieldAddr 116 x 3) (hx:ρ x=.pointer (some ⟨g0,off,none⟩)) (w:World):(execOp ρ o).run Tryz.prog w=.ok (.value (.pointer (some ⟨g0,off+3,none⟩))) w:=by
 have:=Fx.e_fa ho hx w;rw[addr_add] at this;exact this
end
theorem ycj:ByC (((List.replicate 128 (0:UInt8)).flatMap u8L).toArray) (0,0) where
 len:=Nat.le_of_ble_eq_true (by kernel_rfl)
 by_ j hj:=⟨0,by
  rw[List.getElem?_toArray];have:=rows_at (enc:=u8L) (k:=1) (List.replicate 128 (0:UInt8)) j (by simpa using hj) 0 (by decide);rw[Nat.mul_one,Nat.add_zero] at this;rw[this,List.getElem_replicate]
  rfl⟩
 fr:=Or.inl rfl
section
variable {S:List Nat} {w0 w:World} {L:List Blk} {D:Dat} {ops:Array Oper} {rest:List Oper} {o:Oper} {a:Act} {Q:Exit→Act→World→Prop}
theorem yck (hw:Region.wanted o (yielded ops a.tmps)=true) {x y:Operand} (ho:o.op=.makeSlice 47 x y) (hx:a.eval x=.int .i64 128) (hy:a.eval y=.int .i64 128) (h:Sx S w0 w L D [])
  (hk:∀(b cap:Nat) (C:Array Value) (w':World),Mx S w0 w' L D b (.cells C 5 (0,0))→ByC C (0,0)→wpList Tryz.prog ops Q rest (a.put o.dst (.slice (some ⟨b,0,none⟩) 128 cap)) w'):wpList Tryz.prog ops Q (o::rest) a w:=
 xmake (n:=128) (T:=5) (enc:=u8L) hw ho hx hy h (by decide) 0 (fun i z hi hz=>by
  obtain⟨i',h1,h2,_⟩:=info_parts (P:=Tryz.prog) (e:=5) (z:=.int .u8 0) (size:=1) (bytes:=1) (by kernel_rfl);rw[hi] at h1
  cases h1
  rw[hz] at h2
  cases h2
  rfl) fun b w' hs=>hk b 128 _ w' hs.toMx ycj
end
theorem ycl {ρ:Operand→Value} {x y:Operand} {T U:TypeId} {o:Oper} (ho:o.op=.binOp .rem T x y U) {k:IntKind} {m n:Nat} {z:Int} (hx:ρ x=.int k m) (hy:ρ y=.int k n) (hn:0<n) (hz:((m%n:Nat):Int)=z) (w:World):(execOp ρ o).run Tryz.prog w=.ok (.value (.int k z)) w:=hz ▸ e_rem ho hx hy hn w
structure Quiet (N:Nat) (d:Dv):Prop where
 good:Good d
 acts:d.acts=[]
 len:d.now.length=N
theorem Quiet.tamp {N:Nat} {d:Dv} (h:Quiet N d) (k:Nat) (b:Bk):Quiet N (tampD d k b):=⟨⟨h.good.off,h.good.left⟩,h.acts,by unfold tampD;simp only[List.length_set];exact h.len⟩
def ycm (D:Dat) (F:List Nat) (w:World) (g:Nat) (N:Nat) (e:Ending) (w':World):Prop:=∃d',Quiet N d'∧DevRet (.bool true) D F w g d' e w'
theorem ycn (s:UInt8):(s.toNat%5=4∨s.toNat%5=3∨(s.toNat%5<3∧(s.toNat%3=1∨s.toNat%3=0∨s.toNat%3=2))):=by omega
section
variable {D:Dat} {F:List Nat} {w:World} {g:Nat} {d:Dv}
set_option maxHeartbeats 8000000 in
theorem yco (h:DevW D F w g d) {N:Nat} (hq:Quiet N d) {p:Option Addr} {c:Nat} {l:List Ht} (hr:RowAt D 116 4 htL p c l) (hl:l.length≤10):
  Calls Tryz.prog 19 #[.pointer (some ⟨g,0,none⟩),.slice p l.length c] w (ycm D F w g N):=by
 have hN4:4≤N∧N≤512:=by rw[←hq.len];exact⟨h.ok.min,h.ok.max⟩
 obtain⟨hN4,hN5⟩:=hN4;obtain⟨q,m,hFq,hst⟩:=h.open h.lt;have HLn:Hid (∀F wx,DevW D F wx g d→Calls Tryz.prog 30 #[.pointer (some ⟨g,0,none⟩)] wx (Ret (.int .i64 (N:Int)) wx)):=Lib.hid (fun F wx hd=>by rw[←hq.len];exact dlen_calls hd);have HN0:=Lib.hid (decide_eq_true (show(0:Int)<(N:Int) by omega));replace hq:=Lib.hid hq;clear h hFq;go_enter Tryz.func19,Tryz.ntmps19;go_wp2_with (first|(with_reducible refine callOr HLn.out hst m ?_;clear hst;intro w' hst));generalize hact:Act.mk _ _=act;have hv0:act.tmps.getD 0 undef=.pointer (some ⟨g,0,none⟩):=by rw[←hact];rfl
 have hv1:act.tmps.getD 1 undef=.slice p l.length c:=by rw[←hact];rfl
 have hv4:act.tmps.getD 4 undef=.bool false:=by rw[←hact];rfl
 have hv5:act.tmps.getD 5 undef=.int .i64 N:=by rw[←hact];rfl
 have hv6:act.tmps.getD 6 undef=.int .i64 0:=by rw[←hact];rfl
 obtain⟨fY,hfY,hact2⟩:=act_lit act 117 (by rw[←hact];rfl) (by rw[←hact]);clear hact;have he0:fY 0=.pointer (some ⟨g,0,none⟩):=(hfY 0).symm.trans hv0;have he1:fY 1=.slice p l.length c:=(hfY 1).symm.trans hv1;have he4:fY 4=.bool false:=(hfY 4).symm.trans hv4;have he5:fY 5=.int .i64 N:=(hfY 5).symm.trans hv5;have he6:fY 6=.int .i64 0:=(hfY 6).symm.trans hv6;simp only[show List.range 117=[0,1,2,3,4,5,6,7,8,9,10,11,12,13,14,15,16,17,18,19,20,21,22,23,24,25,26,27,28,29,30,31,32,33,34,35,36,37,38,39,40,41,42,43,44,45,46,47,48,49,50,51,52,53,54,55,56,57,58,59,60,61,62,63,64,65,66,67,68,69,70,71,72,73,74,75,76,77,78,79,80,81,82,83,84,85,86,87,88,89,90,91,92,93,94,95,96,97,98,99,100,101,102,103,104,105,106,107,108,109,110,111,112,113,114,115,116] from rfl,List.map_cons,List.map_nil,he0,he1,he4,he5,he6] at hact2;clear hfY hv0 he0 hv1 he1 hv4 he4 hv5 he5 hv6 he6;subst hact2;go_loopw [6] (fun iv wr=>∃(k:Nat) (d:Dv) (q:Dp),k≤l.length∧iv=.int .i64 k∧Hid (Quiet N d)∧DevMem D d q∧Sx F w wr (devL g d q) D []) (fun iv _=>l.length-(intOf iv).toNat)
 case atStart=>exact⟨0,d,q,Nat.zero_le _,by go_num,hq,m,hst⟩
 case round=>
  clear hst m hq HLn;obtain⟨k,d,q,hk,rfl,HQ,m,hst⟩:=hrel
  by_cases hlt:k<l.length
  ·obtain⟨g0,off,rfl⟩:=hr.at_some hlt
   have e0:LdD D 114 ⟨g0,off+k*4,none⟩ (.int .u16 ((l[k]).a.toNat:Int)):=hr.ldf hlt 0 rfl rfl;have e1:LdD D 5 ⟨g0,off+k*4+1,none⟩ (.int .u8 ((l[k]).s.toNat:Int)):=hr.ldf hlt 1 rfl rfl;have e2:LdD D 5 ⟨g0,off+k*4+2,none⟩ (.int .u8 ((l[k]).b.toNat:Int)):=hr.ldf hlt 2 rfl rfl;have e3:LdD D 5 ⟨g0,off+k*4+3,none⟩ (.int .u8 ((l[k]).x.toNat:Int)):=hr.ldf hlt 3 rfl rfl;generalize l[k]=ht at*;obtain⟨ha,hs,hb,hx⟩:=ht;simp only at e0 e1 e2 e3;have g1:=Lib.hid (decide_eq_true (show(k:Int)<(l.length:Int) by omega));obtain⟨at_,hat⟩:∃z,ha.toNat%N=z:=⟨_,rfl⟩;have hatl:at_<d.now.length:=by rw[HQ.out.len,←hat];exact Nat.mod_lt _ (by omega)
   replace hat:=Lib.hid hat;have HRd:=Lib.hid (fun F wx (hd:DevW D F wx g d)=>dread_calls hd (at_:Int));have HRd2:=Lib.hid (fun F wx (hd:DevW D F wx g d)=>dread_calls hd ((hx.toNat%N:Nat):Int));have HTm:=Lib.hid (fun(st:Int) (s:ByteArray) (hok:(st=1∧s.size=128)∨((st=0∨st=2)∧s=⟨#[]⟩)) F wx (hd:DevW D F wx g d)=>ycc hd HQ.out.acts hatl hok);have hrs:∃rs re,dRead d (at_:Int)=(rs,re):=⟨_,_,rfl⟩;obtain⟨rs,re,hrs⟩:=hrs;rw[hrs] at HRd;have hrs2:∃rs re,dRead d ((hx.toNat%N:Nat):Int)=(rs,re):=⟨_,_,rfl⟩;obtain⟨rs2,re2,hrs2⟩:=hrs2;rw[hrs2] at HRd2;obtain⟨j,hj⟩:∃j,hb.toNat%128=j:=⟨_,rfl⟩;have hj128:j<128:=by omega
   replace hj:=Lib.hid hj;clear hrs hrs2
   by_cases h128:rs.size=128
   case' pos=>
    have HE1:=Lib.hid (decide_eq_false (show ¬(rs.size:Int)≠128 by omega));go_wp2_with (first|(with_reducible refine xval rfl 21 rfl _ (fun w=>Fx.e_lss rfl rfl rfl g1.out w) ?_)|(with_reducible refine xval rfl 24 rfl _ (fun w=>Fx.e_gtr rfl rfl rfl HN0.out w) ?_)|(with_reducible refine xval rfl 33 rfl _ (fun w=>e_conv rfl rfl (yce ha) w) ?_)|(with_reducible refine xval rfl 35 rfl (.int .i64 (at_:Int)) (fun w=>by rw[←hat.out];exact e_rem rfl rfl rfl (by omega) w) ?_)|(with_reducible refine xs2m rfl rfl rfl hst ?_;clear hst;intro b cap C w' hm hby;replace hby:=hby h128;have hst:=hm.start)|(with_reducible refine xval rfl 46 rfl _ (fun w=>Fx.e_neq rfl rfl rfl HE1.out w) ?_)|(with_reducible refine xval rfl 53 rfl _ (fun w=>e_conv rfl rfl (conv_u8i hb) w) ?_)|(with_reducible refine xval rfl 54 rfl (.int .i64 (j:Int)) (fun w=>by rw[←hj.out];exact e_rem (n:=128) rfl rfl rfl (by decide) w) ?_)|(with_reducible refine xd rfl rfl rfl hst ?_)|(with_reducible refine callOr HRd.out hst m ?_;clear hst;intro w' hst))
    try rw[h128]
    obtain⟨fr,hfr⟩:∃fr,(C.size,C.size+1)=fr:=⟨_,rfl⟩;rw[hfr] at hm hby;clear hfr HE1 h128
   case' neg=>
    have HE1:=Lib.hid (decide_eq_true (show(rs.size:Int)≠128 by omega));go_wp2_with (first|(with_reducible refine xval rfl 21 rfl _ (fun w=>Fx.e_lss rfl rfl rfl g1.out w) ?_)|(with_reducible refine xval rfl 24 rfl _ (fun w=>Fx.e_gtr rfl rfl rfl HN0.out w) ?_)|(with_reducible refine xval rfl 33 rfl _ (fun w=>e_conv rfl rfl (yce ha) w) ?_)|(with_reducible refine xval rfl 35 rfl (.int .i64 (at_:Int)) (fun w=>by rw[←hat.out];exact e_rem rfl rfl rfl (by omega) w) ?_)|(with_reducible refine xs2m rfl rfl rfl hst ?_;clear hst;intro b0 cap0 C0 w' hm _;have hst:=hm.start)|(with_reducible refine xval rfl 46 rfl _ (fun w=>Fx.e_neq rfl rfl rfl HE1.out w) ?_)|(with_reducible refine xval rfl 53 rfl _ (fun w=>e_conv rfl rfl (conv_u8i hb) w) ?_)|(with_reducible refine xval rfl 54 rfl (.int .i64 (j:Int)) (fun w=>by rw[←hj.out];exact e_rem (n:=128) rfl rfl rfl (by decide) w) ?_)|(with_reducible refine xd rfl rfl rfl hst ?_)|(with_reducible refine callOr HRd.out hst m ?_;clear hst;intro w' hst)|(with_reducible refine yck rfl rfl rfl rfl (hm.move hst).sx0 ?_;clear hst hm;intro b cap C w' hm hby;have hst:=hm.start));obtain⟨fr,hfr⟩:∃fr:Nat×Nat,(0,0)=fr:=⟨_,rfl⟩;rw[hfr] at hm hby;clear hfr HE1 h128
   all_goals
    clear e0 e2;obtain⟨cj,hcj⟩:=hby.by_ j hj128;obtain⟨z,hz⟩:=ycf 5 cj hx;have hm2:=hm.move hst;clear hst hm;refine Fm.wp_region_flow (ycg F w (devL g d q) D b fr C) (L:=C) (List.range 14) rfl hm2 (by kernel_rfl) (by kernel_rfl) (by kernel_rfl) (by kernel_rfl) (by kernel_rfl) ?_;clear hm2;show Fm.wpLX _ (ycg F w (devL g d q) D b fr C) _ [0,1,2,3,4,5,6,7,8,9,10,11,12,13] _ (Fx.mkO [] _);refine Fm.val rfl rfl rfl rfl (v:=.slice (some ⟨b,0,none⟩) 128 cap) (Fx.e_mv rfl rfl) ?_;refine Fm.val rfl rfl rfl rfl (v:=.int .i64 (j:Int)) (Fx.e_mv rfl rfl) ?_;refine Fm.val rfl rfl rfl rfl (v:=.slice (some ⟨b,0,none⟩) 128 cap) (Fx.e_mv rfl rfl) ?_;refine Fm.val rfl rfl rfl rfl (v:=.int .i64 (j:Int)) (Fx.e_mv rfl rfl) ?_;refine Fm.val rfl rfl rfl rfl (v:=.pointer (some ⟨b,j,none⟩)) (by_ix rfl rfl rfl hj128) ?_;refine Fm.rd rfl rfl rfl rfl (v:=.int .u8 (cj.toNat:Int)) (fun w h=>h) (fun w h=>by_ld rfl rfl (Mx.ob h) hcj) ?_;refine Fm.val rfl rfl rfl rfl (v:=.slice (some ⟨g0,off,none⟩) l.length c) (Fx.e_mv rfl rfl) ?_;refine Fm.val rfl rfl rfl rfl (v:=.int .i64 (k:Int)) (Fx.e_mv rfl rfl) ?_;refine Fm.val rfl rfl rfl rfl (v:=.pointer (some ⟨g0,off+k*4,none⟩)) (ht_ix rfl rfl rfl hlt) ?_;refine Fm.val rfl rfl rfl rfl (v:=.pointer (some ⟨g0,off+k*4+3,none⟩)) (yci rfl rfl) ?_;refine Fm.rd rfl rfl rfl rfl (v:=.int .u8 (hx.toNat:Int)) (fun w h=>h) (fun w h=>Fx.r_d rfl rfl w (Mx.sx0 h)) ?_;refine Fm.val rfl rfl rfl rfl (v:=.int .u8 (z.toNat:Int)) (Fx.e_bin rfl rfl rfl hz) ?_;refine Fm.val rfl rfl rfl rfl (v:=.pointer (some ⟨b,j,none⟩)) (by_ix rfl rfl rfl hj128) ?_;refine Fm.spec rfl rfl _ (by_st rfl rfl rfl (by have:=hby.len;omega) hby.fr) ?_;rintro C7 u7 ⟨rfl,rfl⟩;refine⟨Or.inl rfl,?_⟩;intro w7 hm;replace hby:=hby.set j z;replace hm:Mx F w w7 (devL g d q) D b (.cells (C.setIfInBounds j (.int .u8 (z.toNat:Int))) 5 fr):=hm;generalize C.setIfInBounds j (.int .u8 (z.toNat:Int))=C7 at*;clear hcj hz;generalize hact:Fx.mkO _ _=act;have hv0:act.tmps.getD 0 undef=.pointer (some ⟨g,0,none⟩):=by rw[←hact];kernel_rfl
    have hv1:act.tmps.getD 1 undef=.slice (some ⟨g0,off,none⟩) l.length c:=by rw[←hact];kernel_rfl
    have hv2:act.tmps.getD 2 undef=fY 2:=by rw[←hact];kernel_rfl
    have hv3:act.tmps.getD 3 undef=fY 3:=by rw[←hact];kernel_rfl
    have hv5:act.tmps.getD 5 undef=.int .i64 N:=by rw[←hact];kernel_rfl
    have hv6:act.tmps.getD 6 undef=.int .i64 k:=by rw[←hact];kernel_rfl
    have hv7:act.tmps.getD 7 undef=.int .i64 (at_:Int):=by rw[←hact];kernel_rfl
    have hv10:act.tmps.getD 10 undef=.slice (some ⟨b,0,none⟩) 128 cap:=by rw[←hact];kernel_rfl
    have hv16:act.tmps.getD 16 undef=fY 16:=by rw[←hact];kernel_rfl
    have hv17:act.tmps.getD 17 undef=fY 17:=by rw[←hact];kernel_rfl
    obtain⟨fZ,hfZ,hact2⟩:=act_lit act 117 (by rw[←hact];kernel_rfl) (by rw[←hact];kernel_rfl);clear hact;have he0:fZ 0=.pointer (some ⟨g,0,none⟩):=(hfZ 0).symm.trans hv0;have he1:fZ 1=.slice (some ⟨g0,off,none⟩) l.length c:=(hfZ 1).symm.trans hv1;have he2:fZ 2=fY 2:=(hfZ 2).symm.trans hv2;have he3:fZ 3=fY 3:=(hfZ 3).symm.trans hv3;have he5:fZ 5=.int .i64 N:=(hfZ 5).symm.trans hv5;have he6:fZ 6=.int .i64 k:=(hfZ 6).symm.trans hv6;have he7:fZ 7=.int .i64 (at_:Int):=(hfZ 7).symm.trans hv7;have he10:fZ 10=.slice (some ⟨b,0,none⟩) 128 cap:=(hfZ 10).symm.trans hv10;have he16:fZ 16=fY 16:=(hfZ 16).symm.trans hv16;have he17:fZ 17=fY 17:=(hfZ 17).symm.trans hv17;simp only[show List.range 117=[0,1,2,3,4,5,6,7,8,9,10,11,12,13,14,15,16,17,18,19,20,21,22,23,24,25,26,27,28,29,30,31,32,33,34,35,36,37,38,39,40,41,42,43,44,45,46,47,48,49,50,51,52,53,54,55,56,57,58,59,60,61,62,63,64,65,66,67,68,69,70,71,72,73,74,75,76,77,78,79,80,81,82,83,84,85,86,87,88,89,90,91,92,93,94,95,96,97,98,99,100,101,102,103,104,105,106,107,108,109,110,111,112,113,114,115,116] from rfl,List.map_cons,List.map_nil,he0,he1,he2,he3,he5,he6,he7,he10,he16,he17] at hact2;clear hfZ hv0 he0 hv1 he1 hv2 he2 hv3 he3 hv5 he5 hv6 he6 hv7 he7 hv10 he10 hv16 he16 hv17 he17;subst hact2;have hst:=hm.start;have hu:=ycn hs;rcases hu with h4 |h3 |⟨h3,hu⟩
    ·have G4:=Lib.hid (decide_eq_true (show((hs.toNat%5:Nat):Int)=4 by omega))
     have G3:=Lib.hid (decide_eq_true (show(3:Int)≤((hs.toNat%5:Nat):Int) by omega));clear h4
     by_cases h2:rs2.size=128
     ·have G9:=Lib.hid (decide_eq_true (show(rs2.size:Int)=128 by omega))
      go_wp2_with (first|(with_reducible refine xval rfl 73 rfl _ (fun w=>e_rem (n:=5) rfl rfl rfl (by decide) w) ?_)|(with_reducible refine xval rfl 74 rfl _ (fun w=>Fx.e_eql rfl rfl rfl G4.out w) ?_)|(with_reducible refine xval rfl 98 rfl _ (fun w=>e_conv rfl rfl (conv_u8i hs) w) ?_)|(with_reducible refine xval rfl 99 rfl (.int .i64 ((hs.toNat%3:Nat):Int)) (fun w=>ycl (n:=3) rfl rfl rfl (by decide) rfl w) ?_)|(with_reducible refine xval rfl 105 rfl _ (fun w=>e_rem (n:=5) rfl rfl rfl (by decide) w) ?_)|(with_reducible refine xval rfl 106 rfl _ (fun w=>Fx.e_geq rfl rfl rfl G3.out w) ?_)|(with_reducible refine callOr HRd2.out hst m ?_;clear hst;intro w' hst)|(with_reducible refine xval rfl 82 rfl _ (fun w=>e_conv rfl rfl (conv_u8i hx) w) ?_)|(with_reducible refine xval rfl 84 rfl _ (fun w=>e_rem rfl rfl rfl (by omega) w) ?_)|(with_reducible refine xval rfl 90 rfl _ (fun w=>Fx.e_eql rfl rfl rfl G9.out w) ?_)|(with_reducible refine xs2m rfl rfl rfl (hm.move hst).sx0 ?_;clear hst hm;intro b2 cap2 C2 w' hm hby2;replace hby:=hby2 h2;have hst:=hm.start)|(with_reducible refine xstr rfl rfl rfl (hm.move hst).ob hby ?_;intro st hst1)|(with_reducible refine xd rfl rfl rfl hst ?_)|(with_reducible refine callO (fun F wx hd=>HTm.out _ _ (Or.inl ⟨rfl,hst1⟩) F wx hd) hst m ?_;clear hst m;intro w9 q9 hst m));go_roundw
      case rel=>exact⟨k+1,tampD d at_ ⟨1,st⟩,q9,by omega,by go_num,Lib.hid (HQ.out.tamp _ _),m,(hm.move hst).sx0⟩
      case measure=>simp[intOf];omega
     ·have G9:=Lib.hid (decide_eq_false (show ¬(rs2.size:Int)=128 by omega))
      go_wp2_with (first|(with_reducible refine xval rfl 73 rfl _ (fun w=>e_rem (n:=5) rfl rfl rfl (by decide) w) ?_)|(with_reducible refine xval rfl 74 rfl _ (fun w=>Fx.e_eql rfl rfl rfl G4.out w) ?_)|(with_reducible refine xval rfl 98 rfl _ (fun w=>e_conv rfl rfl (conv_u8i hs) w) ?_)|(with_reducible refine xval rfl 99 rfl (.int .i64 ((hs.toNat%3:Nat):Int)) (fun w=>ycl (n:=3) rfl rfl rfl (by decide) rfl w) ?_)|(with_reducible refine xval rfl 105 rfl _ (fun w=>e_rem (n:=5) rfl rfl rfl (by decide) w) ?_)|(with_reducible refine xval rfl 106 rfl _ (fun w=>Fx.e_geq rfl rfl rfl G3.out w) ?_)|(with_reducible refine callOr HRd2.out hst m ?_;clear hst;intro w' hst)|(with_reducible refine xval rfl 82 rfl _ (fun w=>e_conv rfl rfl (conv_u8i hx) w) ?_)|(with_reducible refine xval rfl 84 rfl _ (fun w=>e_rem rfl rfl rfl (by omega) w) ?_)|(with_reducible refine xval rfl 90 rfl _ (fun w=>Fx.e_eql rfl rfl rfl G9.out w) ?_)|(with_reducible refine xstr rfl rfl rfl (hm.move hst).ob hby ?_;intro st hst1)|(with_reducible refine xd rfl rfl rfl hst ?_)|(with_reducible refine callO (fun F wx hd=>HTm.out _ _ (Or.inl ⟨rfl,hst1⟩) F wx hd) hst m ?_;clear hst m;intro w9 q9 hst m));go_roundw
      case rel=>exact⟨k+1,tampD d at_ ⟨1,st⟩,q9,by omega,by go_num,Lib.hid (HQ.out.tamp _ _),m,(hm.move hst).sx0⟩
      case measure=>simp[intOf];omega
    ·have G4:=Lib.hid (decide_eq_false (show ¬((hs.toNat%5:Nat):Int)=4 by omega))
     have G3:=Lib.hid (decide_eq_true (show(3:Int)≤((hs.toNat%5:Nat):Int) by omega));clear h3;go_wp2_with (first|(with_reducible refine xval rfl 73 rfl _ (fun w=>e_rem (n:=5) rfl rfl rfl (by decide) w) ?_)|(with_reducible refine xval rfl 74 rfl _ (fun w=>Fx.e_eql rfl rfl rfl G4.out w) ?_)|(with_reducible refine xval rfl 98 rfl _ (fun w=>e_conv rfl rfl (conv_u8i hs) w) ?_)|(with_reducible refine xval rfl 99 rfl (.int .i64 ((hs.toNat%3:Nat):Int)) (fun w=>ycl (n:=3) rfl rfl rfl (by decide) rfl w) ?_)|(with_reducible refine xval rfl 105 rfl _ (fun w=>e_rem (n:=5) rfl rfl rfl (by decide) w) ?_)|(with_reducible refine xval rfl 106 rfl _ (fun w=>Fx.e_geq rfl rfl rfl G3.out w) ?_)|(with_reducible refine xstr rfl rfl rfl (hm.move hst).ob hby ?_;intro st hst1)|(with_reducible refine xd rfl rfl rfl hst ?_)|(with_reducible refine callO (fun F wx hd=>HTm.out _ _ (Or.inl ⟨rfl,hst1⟩) F wx hd) hst m ?_;clear hst m;intro w9 q9 hst m));go_roundw
     case rel=>exact⟨k+1,tampD d at_ ⟨1,st⟩,q9,by omega,by go_num,Lib.hid (HQ.out.tamp _ _),m,(hm.move hst).sx0⟩
     case measure=>simp[intOf];omega
    ·have G4:=Lib.hid (decide_eq_false (show ¬((hs.toNat%5:Nat):Int)=4 by omega))
     have G3:=Lib.hid (decide_eq_false (show ¬(3:Int)≤((hs.toNat%5:Nat):Int) by omega));clear h3;rcases hu with hu |hu |hu
     ·replace hu:=Lib.hid (show((hs.toNat%3:Nat):Int)=1 by omega)
      go_wp2_with (first|(with_reducible refine xval rfl 73 rfl _ (fun w=>e_rem (n:=5) rfl rfl rfl (by decide) w) ?_)|(with_reducible refine xval rfl 74 rfl _ (fun w=>Fx.e_eql rfl rfl rfl G4.out w) ?_)|(with_reducible refine xval rfl 98 rfl _ (fun w=>e_conv rfl rfl (conv_u8i hs) w) ?_)|(with_reducible refine xval rfl 99 rfl (.int .i64 1) (fun w=>ycl (n:=3) rfl rfl rfl (by decide) hu.out w) ?_)|(with_reducible refine xval rfl 105 rfl _ (fun w=>e_rem (n:=5) rfl rfl rfl (by decide) w) ?_)|(with_reducible refine xval rfl 106 rfl _ (fun w=>Fx.e_geq rfl rfl rfl G3.out w) ?_)|(with_reducible refine xstr rfl rfl rfl (hm.move hst).ob hby ?_;intro st hst1)|(with_reducible refine xd rfl rfl rfl hst ?_)|(with_reducible refine callO (fun F wx hd=>HTm.out _ _ (Or.inl ⟨rfl,hst1⟩) F wx hd) hst m ?_;clear hst m;intro w9 q9 hst m));go_roundw
      case rel=>exact⟨k+1,tampD d at_ ⟨1,st⟩,q9,by omega,by go_num,Lib.hid (HQ.out.tamp _ _),m,(hm.move hst).sx0⟩
      case measure=>simp[intOf];omega
     ·replace hu:=Lib.hid (show((hs.toNat%3:Nat):Int)=0 by omega)
      go_wp2_with (first|(with_reducible refine xval rfl 73 rfl _ (fun w=>e_rem (n:=5) rfl rfl rfl (by decide) w) ?_)|(with_reducible refine xval rfl 74 rfl _ (fun w=>Fx.e_eql rfl rfl rfl G4.out w) ?_)|(with_reducible refine xval rfl 98 rfl _ (fun w=>e_conv rfl rfl (conv_u8i hs) w) ?_)|(with_reducible refine xval rfl 99 rfl (.int .i64 0) (fun w=>ycl (n:=3) rfl rfl rfl (by decide) hu.out w) ?_)|(with_reducible refine xval rfl 105 rfl _ (fun w=>e_rem (n:=5) rfl rfl rfl (by decide) w) ?_)|(with_reducible refine xval rfl 106 rfl _ (fun w=>Fx.e_geq rfl rfl rfl G3.out w) ?_)|fail |(with_reducible refine xd rfl rfl rfl hst ?_)|(with_reducible refine callO (fun F wx hd=>HTm.out _ _ (Or.inr ⟨Or.inl rfl,rfl⟩) F wx hd) hst m ?_;clear hst m;intro w9 q9 hst m));go_roundw
      case rel=>exact⟨k+1,tampD d at_ ⟨0,⟨#[]⟩⟩,q9,by omega,by go_num,Lib.hid (HQ.out.tamp _ _),m,(hm.move hst).sx0⟩
      case measure=>simp[intOf];omega
     ·replace hu:=Lib.hid (show((hs.toNat%3:Nat):Int)=2 by omega)
      go_wp2_with (first|(with_reducible refine xval rfl 73 rfl _ (fun w=>e_rem (n:=5) rfl rfl rfl (by decide) w) ?_)|(with_reducible refine xval rfl 74 rfl _ (fun w=>Fx.e_eql rfl rfl rfl G4.out w) ?_)|(with_reducible refine xval rfl 98 rfl _ (fun w=>e_conv rfl rfl (conv_u8i hs) w) ?_)|(with_reducible refine xval rfl 99 rfl (.int .i64 2) (fun w=>ycl (n:=3) rfl rfl rfl (by decide) hu.out w) ?_)|(with_reducible refine xval rfl 105 rfl _ (fun w=>e_rem (n:=5) rfl rfl rfl (by decide) w) ?_)|(with_reducible refine xval rfl 106 rfl _ (fun w=>Fx.e_geq rfl rfl rfl G3.out w) ?_)|fail |(with_reducible refine xd rfl rfl rfl hst ?_)|(with_reducible refine callO (fun F wx hd=>HTm.out _ _ (Or.inr ⟨Or.inr rfl,rfl⟩) F wx hd) hst m ?_;clear hst m;intro w9 q9 hst m));go_roundw
      case rel=>exact⟨k+1,tampD d at_ ⟨2,⟨#[]⟩⟩,q9,by omega,by go_num,Lib.hid (HQ.out.tamp _ _),m,(hm.move hst).sx0⟩
      case measure=>simp[intOf];omega
  ·have g1:=Lib.hid (decide_eq_false (show ¬(k:Int)<(l.length:Int) by omega))
   go_wp2_with (first|(with_reducible refine xval rfl 21 rfl _ (fun w=>Fx.e_lss rfl rfl rfl g1.out w) ?_)|fail);go_ret;exact⟨d,HQ.out,hst.devRet m rfl⟩
end
end Go.Proofs.YtdkeiefgkgpcbaaGreatDoor
