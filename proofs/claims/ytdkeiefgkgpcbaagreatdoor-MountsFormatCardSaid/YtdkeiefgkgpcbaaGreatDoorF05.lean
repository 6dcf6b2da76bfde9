/- Steps of the proof: FormatP, Laid20, MountsFormat, OpenP, OpenF. -/
import Derived.Test.YtdkeiefgkgpcbaaGreatDoorRows
import Derived.WalkKit
import Derived.ProofKit
import Derived.OpenShut
import Derived.ShutString
import Derived.ChangeOld
import Derived.Below
import Derived.SizedLaws
import Derived.Deep.Slices
import Derived.Test.YtdkeiefgkgpcbaaGreatDoorF03
import Derived.Test.YtdkeiefgkgpcbaaGreatDoorF04
set_option linter.unusedVariables false
set_option linter.unusedSimpArgs false
set_option maxRecDepth 100000
namespace Go.Proofs.YtdkeiefgkgpcbaaGreatDoor
open Go.RowKit
theorem slOf_mark {t:ByteArray} (h:(bareF (ls t)).2=false):(slOf t).2≠0:=by
 have h1:frDecF (ls t)=(fr0,10):=by unfold frDecF;rw[h];rfl
 unfold slOf
 rw[h1]
 decide
theorem keepsB_div (keep:Int) (k:Nat):keepsB keep k=keepsB keep (32*(k / 32)):=by
 unfold keepsB
 rw[show 32*(k / 32) / 32=k / 32 by omega]
theorem tornL_cases (keep:Int) {l:List UInt8} (hl:l.length=128):tornL keep l=l∨(bareF (tornL keep l)).2=false:=by
 by_cases h:∀j,j<4→keepsB keep (32*j)=true
 ·left
  unfold tornL
  apply List.ext_getElem (by simp)
  intro k h1 h2
  rw[List.getElem_mapIdx,keepsB_div,h _ (by omega)]
  rfl
 ·right
  obtain⟨j,hj,hk⟩:∃j,j<4∧keepsB keep (32*j)=false:=Classical.byContradiction fun hc=>h fun j hj=>by
   cases hk:keepsB keep (32*j) with
   |true=>rfl
   |false=>exact absurd ⟨j,hj,hk⟩ hc
  have h0:(tornL keep l)[32*j+31]? =some 0:=by
   unfold tornL
   rw[List.getElem?_mapIdx,List.getElem?_eq_getElem (by omega),keepsB_div,show 32*((32*j+31) / 32)=32*j by omega,hk]
   rfl
  have hm:okMark (tornL keep l) j=false:=by
   unfold okMark
   rw[beq_eq_false_iff_ne]
   intro hc
   have:=congrArg (fun x:List UInt8=>x[0]?) hc
   simp only[List.getElem?_drop,List.getElem?_take,Nat.add_zero] at this
   rw[show j*32+31=32*j+31 by omega,h0] at this
   simp at this
  unfold bareF
  rw[if_neg]
  rintro⟨_,h2⟩
  rw[List.all_eq_true] at h2
  have:=h2 j (List.mem_range.2 hj)
  rw[hm] at this
  cases this
theorem torn_cases {s:ByteArray} (hs:s.size=128) (a keep:Int) {b:Bk} (hb:Dull b):tornF (.write a s) b keep=⟨1,s⟩∨Dull (tornF (.write a s) b keep):=by
 unfold tornF
 simp only
 split
 ·exact Or.inr hb
 ·rcases tornL_cases keep (l:=ls s) hs with h |h
  ·left;rw[h];rfl
  ·right
   exact⟨by simp,fun _ _=>slOf_mark (t:=mkS (tornL keep (ls s))) h⟩
theorem dDo_ok {d:Dv} (x:Ac) (hl:0<d.left):dDo d x=(dPut {d with left:=d.left-1} x,0):=by
 have hf:dFails d=({d with left:=d.left-1},false):=by unfold dFails;rw[if_pos hl]
 unfold dDo
 rw[hf]
 rfl
section
variable {d:Dv} (ho:d.off=false)
include ho
theorem on_off:dOn d=0:=by unfold dOn;rw[ho];rfl
theorem dCrash_eq (keep:List Int):dCrash d keep=(⟨crashGo d.acts 0 keep d.sure,crashGo d.acts 0 keep d.sure,[],true,d.starts,-1,d.keep⟩,0):=by
 unfold dCrash
 rw[if_neg (by rw[on_off ho];decide)]
theorem dWrite_do {a:Nat} {b:ByteArray} (hb:b.size=128) (hs:dState d a=0):dWrite d a b=dDo d (.write a b):=by
 unfold dWrite dBlock
 rw[on_off ho,hs]
 simp only[hb]
 rfl
theorem dDo_fail (x:Ac) (hl:d.left=0):dDo d x=(⟨crashGo (d.acts++[x]) 0 d.keep d.sure,crashGo (d.acts++[x]) 0 d.keep d.sure,[],true,d.starts,-1,d.keep⟩,43):=by
 have hf:dFails d=(d,true):=by unfold dFails;rw[if_neg (by omega),hl];rfl
 unfold dDo
 rw[hf]
 simp only[if_true]
 rw[dCrash_eq (d:=dPut d x) ho]
 rfl
theorem dFlush_fail (hl:d.left=0):dFlush d=(⟨crashGo d.acts 0 d.keep d.sure,crashGo d.acts 0 d.keep d.sure,[],true,d.starts,-1,d.keep⟩,43):=by
 have hf:dFails d=(d,true):=by unfold dFails;rw[if_neg (by omega),hl];rfl
 unfold dFlush
 rw[if_neg (by rw[on_off ho];decide),hf]
 simp only[if_true]
 rw[dCrash_eq ho]
theorem dFlush_ok (hl:0<d.left):dFlush d=({d with left:=d.left-1,sure:=d.now,acts:=[]},0):=by
 have hf:dFails d=({d with left:=d.left-1},false):=by unfold dFails;rw[if_pos hl]
 unfold dFlush
 rw[if_neg (by rw[on_off ho];decide),hf]
 rfl
end
theorem dull_data {kind ep:Int} {s:List UInt8} (hk:kind=68∨kind=80) (he:1≤ep∧ep≤1073741824) (hs:s.length≤1000000):∀b∈splL kind ep s,Dull ⟨1,b⟩:=fun b hb=>⟨by simp,fun _ _=>splL_other hk he hs b hb⟩
def TwoPost (d:Dv) (a:Nat) (B0 B1:ByteArray) (R:Dv×Int):Prop:=
 ((R.2=0∧R.1.off=false)∨(R.2=43∧R.1.off=true))∧∃X Y,R.1.now=(d.now.set a X).set (a+1) Y∧((Dull X∧Dull Y∧R.2=43)∨(X=⟨1,B0⟩∧Y=⟨1,B1⟩))
theorem cwGo_early {start:Int} {last i:Nat} {b:ByteArray} {bs:List ByteArray} {d:Dv} (h:i≠last):cwGo start last i (b::bs) d=if(dWrite d (start+i) b).2≠0 then dWrite d (start+i) b else cwGo start last (i+1) bs (dWrite d (start+i) b).1:=by
 rw[cwGo]
 simp[h]
theorem cwGo_last {start:Int} {last:Nat} {b:ByteArray} {bs:List ByteArray} {d:Dv}:cwGo start last last (b::bs) d=if(dFlush d).2≠0 then dFlush d else if(dWrite (dFlush d).1 (start+last) b).2≠0 then dWrite (dFlush d).1 (start+last) b else cwGo start last (last+1) bs (dWrite (dFlush d).1 (start+last) b).1:=by
 rw[cwGo]
 simp
theorem two_write {d:Dv} {a:Nat} {B0 B1:ByteArray} (ho:d.off=false) (hsu:d.sure=d.now) (hac:d.acts=[]) (hl:0≤d.left) (h0:dState d a=0) (h1:dState d (a+1:Nat)=0)
  (z0:B0.size=128) (z1:B1.size=128) (hB:Dull ⟨1,B0⟩):TwoPost d a B0 B1 (cwGo a 1 0 [B0,B1] d):=by
 obtain⟨hlt,hb0⟩:=dState_lt h0
 obtain⟨hlt1,hb1⟩:=dState_lt h1
 obtain⟨su,n,ac,off,st,left,keep⟩:=d
 simp only at ho hsu hac hl hlt hlt1 hb0 hb1
 subst ho hsu hac
 have d0:Dull (su.getD a b0):=Dull.blank hb0
 have hs1:su.set (a+1) (su.getD (a+1) b0)=su:=by
  apply List.ext_getElem (by simp)
  intro k h1 h2
  rw[List.getElem_set]
  split
  ·subst_vars;simp[List.getD_eq_getElem?_getD,hlt1]
  ·rfl
 have e0:(a:Int)+(0:Nat)=(a:Nat):=by omega
 have e1:(a:Int)+(1:Nat)=(a+1:Nat):=by omega
 have n0:(Int.ofNat a).toNat=a:=rfl
 rw[cwGo_early (by decide)]
 simp only[e0]
 rw[dWrite_do (d:=⟨su,su,[],false,st,left,keep⟩) rfl z0 h0]
 have gd:∀(X:Bk),(su.set a X).getD (a+1) b0=su.getD (a+1) b0:=fun X=>by
  simp only[List.getD_eq_getElem?_getD,List.getElem?_set]
  rw[if_neg (by omega)]
 have fin1:∀(keep:Int) (e:Int),e=43→∃X Y,su.set a (tornF (.write a B0) (su.getD a b0) keep)=(su.set a X).set (a+1) Y∧((Dull X∧Dull Y∧e=43)∨(X=⟨1,B0⟩∧Y=⟨1,B1⟩)):=fun keep e he=>by
  refine⟨tornF (.write a B0) (su.getD a b0) keep,su.getD (a+1) b0,?_,Or.inl ⟨?_,Dull.blank hb1,he⟩⟩
  ·rw[List.set_comm _ _ (by omega),hs1]
  ·rcases torn_cases z0 a keep d0 with h |h
   ·rw[h];exact hB
   ·exact h
 have fin2:∀(keep:Int) (e:Int),e=43→∃X Y,(su.set a ⟨1,B0⟩).set (a+1) (tornF (.write (a+1:Nat) B1) ((su.set a ⟨1,B0⟩).getD (a+1) b0) keep)=(su.set a X).set (a+1) Y∧((Dull X∧Dull Y∧e=43)∨(X=⟨1,B0⟩∧Y=⟨1,B1⟩)):=fun keep e he=>by
  refine⟨⟨1,B0⟩,_,rfl,?_⟩
  rw[gd]
  rcases torn_cases z1 (a+1:Nat) keep (b:=su.getD (a+1) b0) (Dull.blank hb1) with h |h
  ·exact Or.inr ⟨rfl,h⟩
  ·exact Or.inl ⟨hB,h,he⟩
 by_cases l0:left=0
 ·rw[dDo_fail (d:=⟨su,su,[],false,st,left,keep⟩) rfl _ l0,if_pos (by simp)]
  exact⟨Or.inr ⟨rfl,rfl⟩,fin1 _ _ rfl⟩
 ·rw[dDo_ok (d:=⟨su,su,[],false,st,left,keep⟩) _ (show 0<left by omega),if_neg (by simp)]
  show TwoPost _ _ _ _ (cwGo a 1 1 [B1] ⟨su,su.set a ⟨1,B0⟩,[.write a B0],false,st,left-1,keep⟩)
  rw[cwGo_last]
  by_cases l1:left=1
  ·rw[dFlush_fail (d:=⟨su,su.set a ⟨1,B0⟩,[.write a B0],false,st,left-1,keep⟩) rfl (show left-1=0 by omega),if_pos (by simp)]
   exact⟨Or.inr ⟨rfl,rfl⟩,fin1 _ _ rfl⟩
  ·rw[dFlush_ok (d:=⟨su,su.set a ⟨1,B0⟩,[.write a B0],false,st,left-1,keep⟩) rfl (show 0<left-1 by omega),if_neg (by simp)]
   simp only[e1]
   rw[dWrite_do (d:=⟨su.set a ⟨1,B0⟩,su.set a ⟨1,B0⟩,[],false,st,left-1-1,keep⟩) rfl z1 (by
    unfold dState at h1 ⊢
    simp only[List.length_set] at h1 ⊢
    rw[if_neg (by omega)] at h1 ⊢
    rw[Int.toNat_natCast] at h1 ⊢
    rw[gd];exact h1)]
   by_cases l2:left=2
   ·rw[dDo_fail (d:=⟨su.set a ⟨1,B0⟩,su.set a ⟨1,B0⟩,[],false,st,left-1-1,keep⟩) rfl _ (show left-1-1=0 by omega),if_pos (by simp)]
    exact⟨Or.inr ⟨rfl,rfl⟩,fin2 _ _ rfl⟩
   ·rw[dDo_ok (d:=⟨su.set a ⟨1,B0⟩,su.set a ⟨1,B0⟩,[],false,st,left-1-1,keep⟩) _ (show 0<left-1-1 by omega),if_neg (by simp)]
    show TwoPost _ _ _ _ (dFlush ⟨su.set a ⟨1,B0⟩,(su.set a ⟨1,B0⟩).set (a+1) ⟨1,B1⟩,[.write (a+1:Nat) B1],false,st,left-1-1-1,keep⟩)
    by_cases l3:left=3
    ·rw[dFlush_fail (d:=⟨su.set a ⟨1,B0⟩,(su.set a ⟨1,B0⟩).set (a+1) ⟨1,B1⟩,[.write (a+1:Nat) B1],false,st,left-1-1-1,keep⟩) rfl (show left-1-1-1=0 by omega)]
     exact⟨Or.inr ⟨rfl,rfl⟩,fin2 _ _ rfl⟩
    ·rw[dFlush_ok (d:=⟨su.set a ⟨1,B0⟩,(su.set a ⟨1,B0⟩).set (a+1) ⟨1,B1⟩,[.write (a+1:Nat) B1],false,st,left-1-1-1,keep⟩) rfl (show 0<left-1-1-1 by omega)]
     exact⟨Or.inl ⟨rfl,rfl⟩,_,_,rfl,Or.inr ⟨rfl,rfl⟩⟩
theorem mkTx_nil_eq (start:Int):mkTx [] start=mkTx [] 0:=rfl
theorem mkTx_nil_ok:(mkTx [] 0).2=0∧(mkTx [] 0).1.length≤100∧pkCount (mkTx [] 0).1.length=1:=by
 refine⟨by kernel_rfl,of_decide_eq_true (by kernel_rfl),by kernel_rfl⟩
theorem fmt_err {start:Int} (h0:0≤start) (h1:start≤500):makeErr none 0 [] start=0:=by
 obtain⟨t1,t2,t3⟩:=mkTx_nil_ok
 unfold makeErr
 rw[needF_nil,mkTx_nil_eq,t1]
 have hs:slOk (mkSl none 0 [] start)=true:=by
  rw[slOk_iff]
  unfold mkSl SlOk lastN lay
  simp only[mkTx_nil_eq start,t3]
  refine⟨?_,?_,?_,?_,?_,?_,?_,?_,?_,?_⟩<;>first|trivial |omega
 have hf:slFol (mkSl none 0 [] start) none=true:=by
  unfold slFol mkSl lastN lastH
  simp
 rw[hs,hf,if_neg (by simp),if_neg (by simp only;omega),if_neg (by simp)]
 rfl
theorem fmt_blocks (start:Int):∃B0 B1,makeB none 0 [] start=[B0,B1]∧B0∈splL 68 1 (mkTx [] 0).1:=by
 have hl:(splL 68 1 (mkTx [] 0).1).length=1:=by have:=splL_length 68 1 (mkTx [] 0).1;rw[mkTx_nil_ok.2.2] at this;omega
 obtain⟨B0,hB⟩:=List.length_eq_one_iff.1 hl
 refine⟨B0,mkS (slBlk (mkSl none 0 [] start)).1,?_,by rw[hB];simp⟩
 unfold makeB putBlocks lastN
 rw[mkTx_nil_eq,hB]
 rfl
theorem fmt_post {d:Dv} (ho:d.off=false) (hsu:d.sure=d.now) (hac:d.acts=[]) (hl:0≤d.left) (hp:(placeF d 2).2=true) (hlen:d.now.length≤400):
  ∃(a:Nat) (B0 B1:ByteArray),comC d none 0 []=⟨a,2,[B0,B1],[],mkSl none 0 [] a⟩∧a+1<d.now.length∧CmOk none (comC d none 0 [])∧TwoPost d a B0 B1 (formatF d):=by
 obtain⟨h1,h2,h3⟩:=placeF_blank hp
 obtain⟨a,ha⟩:=Int.eq_ofNat_of_zero_le h2
 have s0:=h3 a (by omega) (by omega)
 have s1:=h3 (a+1) (by omega) (by omega)
 have l1:=(dState_lt s1).1
 have hca:comAt d []=a:=by unfold comAt;rw[needF_nil];exact ha
 have he:makeErr none 0 [] (a:Int)=0:=fmt_err (by omega) (by omega)
 obtain⟨B0,B1,hB,hm⟩:=fmt_blocks a
 have hg:=make_good he (by simp) (by rw[mkTx_nil_eq];have:=mkTx_nil_ok.2.1;omega)
 rw[hB] at hg
 have hc:comC d none 0 []=⟨a,2,[B0,B1],[],mkSl none 0 [] a⟩:=by
  unfold comC
  rw[hca,needF_nil]
  show Cm.mk _ _ (makeB none 0 [] a) _ _=_
  rw[hB]
  rfl
 refine⟨a,B0,B1,hc,l1,comC_ok (d:=d) (i:=0) (by rw[hca];exact he) (by rw[hca];omega) (by simp) (by simp) (by simp),?_⟩
 unfold formatF
 rw[hp,if_neg (by simp),ha,he,if_neg (by simp),hB]
 unfold cWrite
 rw[if_neg (by simp)]
 exact two_write ho hsu hac hl s0 s1 (hg.2 _ (by simp)) (hg.2 _ (by simp)) (dull_data (Or.inl rfl) (by omega) (by have:=mkTx_nil_ok.2.1;omega) _ hm)
theorem fmt_inv {d d2:Dv} {a:Nat} {B0 B1:ByteArray} {e:Int} {c:Cm} (hc:c=⟨a,2,[B0,B1],[],mkSl none 0 [] a⟩) (hl:a+1<d.now.length) (hk:CmOk none c) (hdull:∀k,k<d.now.length→Dull (d.now.getD k b0))
  (ho:d2.off=false) {X Y:Bk} (hn:d2.now=(d.now.set a X).set (a+1) Y) (h:(Dull X∧Dull Y∧e=43)∨(X=⟨1,B0⟩∧Y=⟨1,B1⟩)):
  (e=43∧loadF d2=(tt0,sl0,4))∨(∃x,loadF d2=(tt0,x,0)∧x.n=1∧chainF d2≠[]):=by
 have hlen:d2.now.length=d.now.length:=by rw[hn];simp
 have hget:∀k,d2.now.getD k b0=if k=a+1 then Y else if k=a then X else d.now.getD k b0:=fun k=>by
  rw[hn]
  simp only[List.getD_eq_getElem?_getD,List.getElem?_set,List.length_set]
  by_cases h1:k=a+1
  ·subst h1;simp[hl]
  ·rw[if_neg (Ne.symm h1),if_neg h1]
   by_cases h2:k=a
   ·subst h2;simp[show k<d.now.length by omega]
   ·rw[if_neg (Ne.symm h2),if_neg h2]
 rcases h with⟨hX,hY,he⟩ |⟨rfl,rfl⟩
 ·left
  have hi:Inv d2 []:=⟨ho,fun j hj=>(by cases hj),fun c hc=>(by cases hc),fun k hk=>Or.inl (by
   rw[hget]
   split
   ·exact hY
   ·split
    ·exact hX
    ·exact hdull k (by omega))⟩
  exact⟨he,by rw[hi.load];rfl⟩
 ·right
  have hi:Inv d2 [c]:=by
   subst hc
   refine⟨ho,fun j hj=>?_,fun c hc2 i hi=>?_,fun k hk=>?_⟩
   ·obtain rfl:j=0:=by simpa using hj
    exact hk
   ·obtain rfl:=List.mem_singleton.1 hc2
    simp only[List.length_cons,List.length_nil] at hi
    simp only[Int.toNat_natCast]
    rw[hget,hlen]
    rcases(show i=0∨i=1 by omega) with rfl |rfl
    ·rw[if_neg (by omega),if_pos (by omega)];exact⟨rfl,by omega⟩
    ·rw[if_pos (by omega)];exact⟨rfl,by omega⟩
   ·by_cases h1:k=a+1
    ·exact Or.inr ⟨_,List.mem_singleton.2 rfl,1,by simp,by simp[h1]⟩
    ·by_cases h2:k=a
     ·exact Or.inr ⟨_,List.mem_singleton.2 rfl,0,by simp,by simp[h2]⟩
     ·left
      rw[hget,if_neg h1,if_neg h2]
      exact hdull k (by omega)
  have hch:=hi.chain
  refine⟨nS (mkSl none 0 [] a),?_,rfl,fun h=>by rw[h] at hch;cases hch⟩
  rw[hi.load,hc]
  unfold cmRes cmFold
  rw[if_neg (by simp)]
  rfl
def bX:ByteArray:=mkS (frEnc ⟨68,1,0,mkS [120]⟩).1
theorem bX_ok:(frEnc ⟨68,1,0,mkS [120]⟩).2=0∧bX.size=128:=⟨by kernel_rfl,by kernel_rfl⟩
theorem dull_bX:Dull ⟨1,bX⟩:=⟨by simp,fun _ _=>slOf_other (f:=⟨68,1,0,mkS [120]⟩) (by kernel_rfl) (by decide)⟩
def laidS (n:Nat) (c:UInt8) (d:Dv):Dv:=if dState d (c.toNat%n:Nat)=0 then(dWrite d (c.toNat%n:Nat) bX).1 else if c.toNat%3=0 then(dErase d (c.toNat%n:Nat)).1 else d
def laidGo (n:Nat) (l:List UInt8) (d:Dv):Dv:=l.foldl (fun d c=>laidS n c d) d
def laidN (size:UInt8):Nat:=4+size.toNat%64
def laidD (size:UInt8) (l:List UInt8):Dv:={laidGo (laidN size) l (dvOf (List.replicate (laidN size) b0)) with sure:=(laidGo (laidN size) l (dvOf (List.replicate (laidN size) b0))).now,acts:=[]}
structure LaidI (n:Nat) (d:Dv):Prop where
 good:Good d
 len:d.now.length=n
 dull:∀k,k<n→Dull (d.now.getD k b0)
theorem laidI_put {n:Nat} {d:Dv} (h:LaidI n d) (x:Ac) (hx:Dull (doneF x)):LaidI n (dPut d x):=by
 refine⟨h.good.put x,by unfold dPut;simp only[List.length_set,h.len],fun k hk=>?_⟩
 unfold dPut
 simp only[List.getD_eq_getElem?_getD,List.getElem?_set]
 split
 ·rw[if_pos (by have:=h.len;omega)];exact hx
 ·have:=h.dull k hk
  rwa [List.getD_eq_getElem?_getD] at this
theorem laidI_step {n:Nat} {d:Dv} (h:LaidI n d) (c:UInt8):LaidI n (laidS n c d)∧(laidS n c d).acts.length≤d.acts.length+1:=by
 unfold laidS
 split
 ·rename_i h0
  rw[h.good.write bX_ok.2 h0]
  exact⟨laidI_put h _ dull_bX,by unfold dPut;simp⟩
 ·split
  ·have hd:dDo d (.erase (c.toNat%n:Nat))=(dPut d (.erase (c.toNat%n:Nat)),0):=by unfold dDo;rw[h.good.fails];rfl
   unfold dErase
   rw[hd]
   repeat' split
   all_goals first
    |exact⟨h,Nat.le_succ _⟩
    |exact⟨laidI_put h _ ⟨by simp[doneF],fun _ h2=>absurd rfl h2⟩,by simp[dPut]⟩
  ·exact⟨h,Nat.le_succ _⟩
theorem laidI_new (n:Nat):LaidI n (dvOf (List.replicate n b0)):=⟨⟨rfl,rfl⟩,by simp[dvOf],fun k hk=>by
 unfold dvOf
 simp only[List.getD_eq_getElem?_getD,List.getElem?_replicate,hk,if_true]
 exact Dull.blank rfl⟩
theorem laidI_go {n:Nat}:∀(l:List UInt8) {d:Dv},LaidI n d→LaidI n (laidGo n l d)
 | [],d,h=>h
 |c::l,d,h=>laidI_go l (laidI_step h c).1
theorem laidD_ok (size:UInt8) (l:List UInt8):LaidI (laidN size) (laidD size l)∧(laidD size l).sure=(laidD size l).now∧(laidD size l).acts=[]:=by
 have h:=laidI_go l (laidI_new (laidN size))
 exact⟨⟨⟨h.good.off,h.good.left⟩,h.len,h.dull⟩,rfl,rfl⟩
def started (d:Dv):Dv:={d with off:=false,starts:=wrap64 (d.starts+1)}
def FinD (d:Dv):Prop:=d.off=false∧∃x,loadF d=(tt0,x,0)∧x.n=1∧0<(chainF d).length
def NonD (d:Dv):Prop:=d.off=false∧loadF d=(tt0,sl0,4)
theorem mf_cases {n:Nat} {d1:Dv} (hI:LaidI n d1) (hsu:d1.sure=d1.now) (hac:d1.acts=[]) (hn:n≤400) {c:Int} (hc:0≤c) (keep:List Int) {d2:Dv} (h2:d2={d1 with left:=c,keep:=keep}):
  chainF d2=[]∧(((placeF d1 2).2=false∧(formatF d2).2=241)∨((placeF d1 2).2=true∧(((formatF d2).2=0∧(formatF d2).1.off=false∧FinD (formatF d2).1)∨((formatF d2).2=43∧(formatF d2).1.off=true∧(FinD (started (formatF d2).1)∨NonD (started (formatF d2).1)))))):=by
 have e1:d2.off=false:=by rw[h2];exact hI.good.off
 have e2:d2.sure=d2.now:=by rw[h2];exact hsu
 have e3:d2.acts=[]:=by rw[h2];exact hac
 have e4:d2.now=d1.now:=by rw[h2]
 have e5:0≤d2.left:=by rw[h2];exact hc
 have e6:placeF d2 2=placeF d1 2:=by rw[h2];rfl
 have hlen:d2.now.length=n:=by rw[e4];exact hI.len
 have hdull:∀k,k<d2.now.length→Dull (d2.now.getD k b0):=fun k hk=>by rw[e4];exact hI.dull k (by omega)
 have hi:Inv d2 []:=⟨e1,fun j hj=>(by cases hj),fun c hc=>(by cases hc),fun k hk=>Or.inl (hdull k hk)⟩
 refine⟨List.map_eq_nil_iff.1 hi.chain,?_⟩
 rw[←e6]
 cases hp:(placeF d2 2).2 with
 |false=>
  refine Or.inl ⟨rfl,?_⟩
  unfold formatF
  rw[if_pos hp]
 |true=>
  refine Or.inr ⟨rfl,?_⟩
  obtain⟨a,B0,B1,hcc,hl,hk,ht⟩:=fmt_post e1 e2 e3 e5 hp (by omega)
  obtain⟨hon,X,Y,hnow,hXY⟩:=ht
  have hend:∀d3:Dv,d3.off=false→d3.now=(formatF d2).1.now→((formatF d2).2=43∧NonD d3)∨FinD d3:=fun d3 ho hn3=>by
   rcases fmt_inv hcc hl hk hdull ho (hn3.trans hnow) hXY with⟨h,h1⟩ |⟨x,h1,h2,h3⟩
   ·exact Or.inl ⟨h,ho,h1⟩
   ·exact Or.inr ⟨ho,x,h1,h2,List.length_pos_iff.2 h3⟩
  rcases hon with⟨h1,h2⟩ |⟨h1,h2⟩
  ·rcases hend _ h2 rfl with⟨h3,_⟩ |h3
   ·omega
   ·exact Or.inl ⟨h1,h2,h3⟩
  ·exact Or.inr ⟨h1,h2,(hend (started (formatF d2).1) rfl rfl).symm.imp id (·.2)⟩
end Go.Proofs.YtdkeiefgkgpcbaaGreatDoor
namespace Go.Proofs.YtdkeiefgkgpcbaaGreatDoor
open Go.RowKit
theorem e_rem {ρ:Operand→Value} {o:Oper} {x y:Operand} {T U:TypeId} (ho:o.op=.binOp .rem T x y U) {k:IntKind} {m n:Nat} (hx:ρ x=.int k m) (hy:ρ y=.int k n) (hn:0<n) (w:World):(execOp ρ o).run Tryz.prog w=.ok (.value (.int k ((m%n:Nat):Int))) w:=
 Fx.e_bin ho hx hy (fun w=>by
  rw[show binOp .rem T (.int k (m:Int)) (.int k (n:Int))=Op.intDiv .rem k m n by simp[binOp]]
  unfold Op.intDiv
  rw[if_neg (by omega),show((m:Int).tmod n)=((m%n:Nat):Int) by rw[Int.tmod_eq_emod_of_nonneg (by omega)];push_cast;rfl]
  rfl) w
theorem conv_u8i (c:UInt8) (w:World):(convert 5 3 (.int .u8 (c.toNat:Int))).run Tryz.prog w=.ok (.int .i64 (c.toNat:Int)) w:=by
 have:=c.toNat_lt
 rw[run_convert_int w 5 3 .u8 c.toNat (by rw[Tryz.underlying5];rfl) Tryz.underlying3,show Tryz.prog.intKind 3=.i64 by kernel_rfl,wrap_i64 (by omega) (by omega)]
def fX:Fr:=⟨68,1,0,mkS [120]⟩
set_option maxHeartbeats 2000000 in
theorem laid20_calls {D:Dat} {p:Option Addr} {c:Nat} {l:List UInt8} (size:UInt8) (hr:RowAt D 5 1 u8L p c l) (hl:l.length≤60) (w:World) (hD:Holds D w) (hU:GSums w):
  Calls Tryz.prog 13 #[.int .u8 (size.toNat:Int),.slice p l.length c] w (NewDev D (laidD size l) w):=by
 have hst:=Sx.start0 w hD
 have hn4:4≤laidN size∧laidN size≤67:=by unfold laidN;omega
 have HN:=Lib.hid (show(4:Int)+((size.toNat%64:Nat):Int)=(laidN size:Int) by unfold laidN;push_cast;rfl)
 obtain⟨R,hR⟩:∃R,laidD size l=R:=⟨_,rfl⟩
 rw[hR]
 unfold laidD at hR
 generalize laidN size=n at*
 obtain⟨hn4,hn67⟩:=hn4
 have HNw:=Lib.hid (fun wx hx=>dnew_calls (D:=D) n (by omega) (by omega) wx hx)
 have HF:Hid (∀wx,GSums wx→Calls Tryz.prog 34 #[.agg (frC fX)] wx (Ret (.tuple #[.string bX,.int .i64 0]) wx)):=Lib.hid (fun wx hg=>by
  have:=frEnc_calls fX (by unfold fX;simp only;omega) (by unfold fX;simp only;omega) (by unfold fX;simp only;omega) wx hg
  rw[show(frEnc fX).2=0 from bX_ok.1] at this
  exact this)
 have HG:Hid (∀wx,Below w.heap.size w wx→GSums wx):=Lib.hid (fun wx hb=>hU.below hb)
 have HI0:=Lib.hid (laidI_new n)
 obtain⟨X,hX⟩:∃X,laidGo n l (dvOf (List.replicate n b0))=X:=⟨_,rfl⟩
 have HR0:Hid (laidGo n (l.drop 0) (dvOf (List.replicate n b0))=X):=Lib.hid hX
 rw[hX] at hR
 replace hR:=Lib.hid hR
 have hac0:(dvOf (List.replicate n b0)).acts.length≤0:=Nat.le_refl _
 clear hX hU
 go_enter Tryz.func13,Tryz.ntmps13
 go_wp2_with (first|(with_reducible (refine xval rfl 13 rfl _ (fun w=>e_conv rfl rfl (conv_u8i size) w) ?_))|(with_reducible (refine xval rfl 14 rfl _ (fun w=>e_rem (n:=64) rfl rfl rfl (by decide) w) ?_))|(with_reducible (refine xval rfl 15 rfl (.int .i64 n) (fun w=>by rw[←HN.out];exact Fx.e_add rfl rfl rfl (by omega) w) ?_))|fail)
 refine(HNw.out _ hst.data).mono ?_
 rintro e w2 ⟨g,F,rfl,hd,hb,hF⟩
 have hst2:=hst
 clear hst
 have hst:Sx [] w w2 [] D F:=by
  have h1:=hst2.below hb
  exact⟨h1.st,hd.data,h1.apart,hd.lt,fun x _ p hp=>by simp at hp,hd.apart,fun x hx=>Or.inr (Nat.le_trans hst2.st.size (hF x hx))⟩
 clear hst2
 obtain⟨q,m0,hFq,hst1⟩:=hst.openDev hd
 clear hst
 generalize dvOf (List.replicate n b0)=d0 at*
 have hst:Sx [] w w2 (devL g d0 q++[]) D []:=hst1
 rw[List.append_nil] at hst
 have m:DevMem D d0 q:=m0
 clear hd hb hF HNw hFq m0 hst1
 go_wp2_with (first|(with_reducible (refine xval rfl 24 rfl (.agg (frC fX)) (fun w=>by kernel_rfl) ?_))|(with_reducible (refine callB (HF.out _ (HG.out _ hst.end)) hst ?_;clear hst;intro w' hst))|fail)
 go_loopw [10,11] (fun iv av wr=>∃(k:Nat) (d:Dv) (q:Dp),k≤l.length∧iv=.int .i64 k∧Hid (LaidI n d)∧d.acts.length≤k∧Hid (laidGo n (l.drop k) d=X)∧DevMem D d q∧Sx [] w wr (devL g d q) D []) (fun iv _ _=>l.length-(intOf iv).toNat)
 case atStart=>exact⟨0,d0,q,Nat.zero_le _,by go_num,HI0,hac0,HR0,m,hst⟩
 case round=>
  clear hst HR0 m HI0 hac0
  obtain⟨k,d,q,hk,rfl,HI,hac,HC,m,hst⟩:=hrel
  by_cases hlt:k<l.length
  ·obtain⟨g0,off,rfl⟩:=hr.at_some hlt
   have hld:LdD D 5 ⟨g0,off+k,none⟩ (.int .u8 ((l[k]).toNat:Int)):=hr.ld1 hlt rfl
   have hs:=laidI_step HI.out l[k]
   rw[List.drop_eq_getElem_cons hlt] at HC
   replace HC:laidGo n (l.drop (k+1)) (laidS n l[k] d)=X:=HC.out
   generalize l[k]=b at*
   have HSt:=Lib.hid (fun F wx (hd:DevW D F wx g d)=>dstate_calls hd ((b.toNat%n:Nat):Int))
   have HWr:=Lib.hid (fun F wx (hd:DevW D F wx g d)=>dwrite_calls hd ((b.toNat%n:Nat):Int) bX (by rw[bX_ok.2];decide) (by omega))
   have HEr:=Lib.hid (fun F wx (hd:DevW D F wx g d)=>derase_calls hd ((b.toNat%n:Nat):Int) (by omega))
   have HE3:=Lib.hid (show((b.toNat%3:Nat):Int)=0↔b.toNat%3=0 by omega)
   by_cases h0:dState d ((b.toNat%n:Nat):Int)=0
   ·have e0:laidS n b d=(dWrite d ((b.toNat%n:Nat):Int) bX).1:=by unfold laidS;rw[if_pos h0]
    have HE:=Lib.hid (decide_eq_true h0)
    rw[e0] at hs HC
    replace HC:=Lib.hid HC
    replace hs:=Lib.hid hs
    clear h0 HEr HE3 e0
    go_wp2_with (first|(with_reducible (refine xval rfl 40 rfl _ (fun w=>e_conv rfl rfl (conv_u8i b) w) ?_))|(with_reducible (refine xval rfl 42 rfl _ (fun w=>e_rem rfl rfl rfl (by omega) w) ?_))|(with_reducible (refine xval rfl 46 rfl _ (fun w=>Fx.e_eql rfl rfl rfl HE.out w) ?_))|(with_reducible refine xd rfl rfl rfl hst ?_)|(with_reducible (refine callOr HSt.out hst m ?_;clear hst;intro w' hst))|(with_reducible (refine callO HWr.out hst m ?_;clear hst m;intro w5 q5 hst m)))
    go_roundw
    case rel=>exact⟨k+1,_,q5,by omega,by go_num,Lib.hid hs.out.1,by have:=hs.out.2;omega,HC,m,hst⟩
    case measure=>simp[intOf];omega
   ·have HE:=Lib.hid (decide_eq_false h0)
    by_cases h3:b.toNat%3=0
    ·have e0:laidS n b d=(dErase d ((b.toNat%n:Nat):Int)).1:=by unfold laidS;rw[if_neg h0,if_pos h3]
     have H3:=Lib.hid (decide_eq_true (HE3.out.2 h3))
     rw[e0] at hs HC
     replace HC:=Lib.hid HC
     replace hs:=Lib.hid hs
     clear h0 HWr HE3 e0 h3
     go_wp2_with (first|(with_reducible (refine xval rfl 40 rfl _ (fun w=>e_conv rfl rfl (conv_u8i b) w) ?_))|(with_reducible (refine xval rfl 42 rfl _ (fun w=>e_rem rfl rfl rfl (by omega) w) ?_))|(with_reducible (refine xval rfl 46 rfl _ (fun w=>Fx.e_eql rfl rfl rfl HE.out w) ?_))|(with_reducible (refine xval rfl 55 rfl _ (fun w=>e_rem (n:=3) rfl rfl rfl (by decide) w) ?_))|(with_reducible (refine xval rfl 56 rfl _ (fun w=>Fx.e_eql rfl rfl rfl H3.out w) ?_))|(with_reducible refine xd rfl rfl rfl hst ?_)|(with_reducible (refine callOr HSt.out hst m ?_;clear hst;intro w' hst))|(with_reducible (refine callO HEr.out hst m ?_;clear hst m;intro w5 q5 hst m)))
     go_roundw
     case rel=>exact⟨k+1,_,q5,by omega,by go_num,Lib.hid hs.out.1,by have:=hs.out.2;omega,HC,m,hst⟩
     case measure=>simp[intOf];omega
    ·have e0:laidS n b d=d:=by unfold laidS;rw[if_neg h0,if_neg h3]
     have H3:=Lib.hid (decide_eq_false (fun h=>h3 (HE3.out.1 h)))
     rw[e0] at HC
     replace HC:=Lib.hid HC
     clear h0 HWr HE3 e0 h3 hs HEr
     go_wp2_with (first|(with_reducible (refine xval rfl 40 rfl _ (fun w=>e_conv rfl rfl (conv_u8i b) w) ?_))|(with_reducible (refine xval rfl 42 rfl _ (fun w=>e_rem rfl rfl rfl (by omega) w) ?_))|(with_reducible (refine xval rfl 46 rfl _ (fun w=>Fx.e_eql rfl rfl rfl HE.out w) ?_))|(with_reducible (refine xval rfl 55 rfl _ (fun w=>e_rem (n:=3) rfl rfl rfl (by decide) w) ?_))|(with_reducible (refine xval rfl 56 rfl _ (fun w=>Fx.e_eql rfl rfl rfl H3.out w) ?_))|(with_reducible refine xd rfl rfl rfl hst ?_)|(with_reducible (refine callOr HSt.out hst m ?_;clear hst;intro w' hst)))
     go_roundw
     case rel=>exact⟨k+1,d,q,by omega,by go_num,HI,by omega,HC,m,hst⟩
     case measure=>simp[intOf];omega
  ·obtain rfl:k=l.length:=by omega
   have hX:d=X:=by have:=HC.out;rwa [List.drop_length] at this
   have HFl:=Lib.hid (fun F wx (hd:DevW D F wx g d)=>dflush_calls hd)
   rw[HI.out.good.flush] at HFl
   subst hX
   clear HI HC hac
   go_wp2_with (first|fail |(with_reducible (refine callO HFl.out hst m ?_;clear hst m;intro w5 q5 hst m)))
   go_ret
   obtain⟨F',h1,h2,h3⟩:=Sx.closeDev0 hst m rfl
   rw[←hR.out]
   exact⟨g,F',rfl,h1,hst.end,fun x hx=>by rcases h3 x hx with h |h;simp at h;exact h⟩
end Go.Proofs.YtdkeiefgkgpcbaaGreatDoor
namespace Go.Proofs.YtdkeiefgkgpcbaaGreatDoor
open Go.RowKit
set_option maxHeartbeats 2000000 in
theorem mformat_calls {p pk:Option Addr} {c ck:Nat} {l:List UInt8} {keep:List Int} (size:UInt8) (w:World) (hr:l.length≤60→RowAt (snap w) 5 1 u8L p c l) (hk:keep.length≤20→RowAt (snap w) 3 1 inL pk ck keep) (hki:∀x∈keep,I64 x)
  (hU:GSums w) (hGB:GBegin w) (hGS:GSha w):
  Calls Tryz.prog 4 #[.int .u8 (size.toNat:Int),.slice p l.length c,.slice pk keep.length ck] w (Ret (.bool true) w):=by
 have hst:=Sx.start0 w (snap_holds w)
 have HG:Hid (∀wx,Below w.heap.size w wx→GSums wx∧GBegin wx∧GSha wx):=Lib.hid (fun wx hb=>⟨hU.below hb,hGB.below hb,hGS.below hb⟩)
 have HL:=Lib.hid (fun wx (hg:GSums wx∧GBegin wx∧GSha wx)=>lives_calls wx hg.1 hg.2.1 hg.2.2)
 have HNG:Hid (∀F:List Nat,(∀x∈F,x∈([]:List Nat)∨w.heap.size≤x)→NotG F):=Lib.hid (fun F hF=>by
  have h1:1<w.heap.size:=cell_lt (hU.at_ 0 (by decide))
  have h2:2<w.heap.size:=cell_lt (hGS.at_ 0 (by decide))
  have h3:=hGB.lt
  have h4:∀x,x<w.heap.size→x∉F:=fun x hx hm=>by
   rcases hF _ hm with h |h
   ·simp at h
   ·omega
  exact⟨h4 _ h1,h4 _ h2,h4 _ h3⟩)
 by_cases h60:60<l.length
 ·have g1:=Lib.hid (show decide ((60:Int)<(l.length:Int))=true from decide_eq_true (by omega))
  clear hr hk hki hU hGB hGS h60
  go_enter Tryz.func4,Tryz.ntmps4
  go_wp2_with (first|(with_reducible (refine xval rfl 17 rfl _ (fun w=>Fx.e_gtr rfl rfl rfl g1.out w) ?_))|fail |(with_reducible (refine callB (HL.out _ (HG.out _ hst.end)) hst ?_;clear hst;intro w' hst)))
  go_ret
  exact⟨rfl,hst.end⟩
 have g1:=Lib.hid (show decide ((60:Int)<(l.length:Int))=false from decide_eq_false (by omega))
 by_cases h20:20<keep.length
 ·have g2:=Lib.hid (show decide ((20:Int)<(keep.length:Int))=true from decide_eq_true (by omega))
  clear hr hk hki hU hGB hGS h60 h20
  go_enter Tryz.func4,Tryz.ntmps4
  go_wp2_with (first|(with_reducible (refine xval rfl 17 rfl _ (fun w=>Fx.e_gtr rfl rfl rfl g1.out w) ?_))|(with_reducible (refine xval rfl 21 rfl _ (fun w=>Fx.e_gtr rfl rfl rfl g2.out w) ?_))|fail |(with_reducible (refine callB (HL.out _ (HG.out _ hst.end)) hst ?_;clear hst;intro w' hst)))
  go_ret
  exact⟨rfl,hst.end⟩
 have g2:=Lib.hid (show decide ((20:Int)<(keep.length:Int))=false from decide_eq_false (by omega))
 replace hr:=hr (by omega)
 replace hk:=hk (by omega)
 obtain⟨hI,hsu,hac⟩:=laidD_ok size l
 have hn:laidN size≤400:=by unfold laidN;omega
 have HLd:=Lib.hid (fun wx hD hU=>laid20_calls size hr (by omega) wx hD hU)
 generalize laidD size l=d1 at*
 have HPl:=Lib.hid (fun g F wx (hd:DevW (snap w) F wx g d1)=>place_calls hd 2 (by unfold I64;omega))
 obtain⟨d2,h2⟩:∃d2,d2=({d1 with left:=((l.length%6:Nat):Int),keep:=keep}:Dv):=⟨_,rfl⟩
 obtain⟨hch,hcs⟩:=mf_cases hI hsu hac hn (by omega) keep h2
 have hoff2:d2.off=false:=by rw[h2];exact hI.good.off
 have hac2:d2.acts.length≤1000:=by rw[h2];show d1.acts.length≤1000;rw[hac];exact Nat.zero_le _
 have HFa:Hid (∀g F wx,DevW (snap w) F wx g d1→Calls Tryz.prog 15 #[.pointer (some ⟨g,0,none⟩),.int .i64 ((l.length%6:Nat):Int),.slice pk keep.length ck] wx (DevLay (.int .i64 0) (snap w) F wx g d2)):=Lib.hid (fun g F wx hd=>by
  have:=dfail_calls hd hI.good.off hk hki ((l.length%6:Nat):Int) (by omega) (by unfold I64;omega)
  rw[←h2] at this
  exact this)
 have HFm:=Lib.hid (fun g D F wx (hd:DevW D F wx g d2) (hf:NotG F) (hg:GSums wx∧GBegin wx∧GSha wx)=>format_calls hd hf hoff2 hch hac2 hg.1 hg.2.1 hg.2.2)
 clear h2 hch hoff2 hac2 hI hsu hac hn hr hk hki hU hGB hGS h60 h20
 generalize placeF d1 2=P at*
 obtain⟨at_,ok⟩:=P
 generalize formatF d2=R at*
 obtain⟨d3,e3⟩:=R
 simp only at HPl hcs HFm
 replace hcs:=Lib.hid hcs
 go_enter Tryz.func4,Tryz.ntmps4
 go_wp2_with (first|(with_reducible (refine xval rfl 17 rfl _ (fun w=>Fx.e_gtr rfl rfl rfl g1.out w) ?_))|(with_reducible (refine xval rfl 21 rfl _ (fun w=>Fx.e_gtr rfl rfl rfl g2.out w) ?_))|fail)
 refine(HLd.out _ hst.data (HG.out _ hst.end).1).mono ?_
 rintro e w2 ⟨g,F,rfl,hd,hb,hF⟩
 have hst2:=hst
 clear hst g1 g2 HLd
 have hst:Sx [] w w2 [] (snap w) F:=by
  have h1:=hst2.below hb
  exact⟨h1.st,hd.data,h1.apart,hd.lt,fun x _ p hp=>by simp at hp,hd.apart,fun x hx=>Or.inr (Nat.le_trans hst2.st.size (hF x hx))⟩
 clear hst2
 obtain⟨q,m0,hFq,hst1⟩:=hst.openDev hd
 clear hst
 have hst:Sx [] w w2 (devL g d1 q++[]) (snap w) []:=hst1
 rw[List.append_nil] at hst
 have m:DevMem (snap w) d1 q:=m0
 clear hd hb hF hFq m0 hst1
 go_wp2_with (first|(with_reducible (refine xval rfl 37 rfl _ (fun w=>e_rem (n:=6) rfl rfl rfl (by decide) w) ?_))|fail |(with_reducible (refine callOr (HPl.out g) hst m ?_;clear hst;intro w' hst)))
 refine callLay (fun F hd hF=>HFa.out g F _ hd) hst m ?_
 clear hst m
 intro w5 q5 D5 hD5 hst m
 go_wp2_with fail
 refine callLay (fun F hd hF=>HFm.out g D5 F _ hd (HNG.out F hF) (HG.out _ hst.end)) hst m ?_
 clear hst m
 intro w6 q6 D6 hD6 hst m
 clear hD5 hD6 HFa HFm HPl HNG
 have HUp:=Lib.hid (fun D F wx (hd:DevW D F wx g d3)=>dup_calls hd)
 rcases hcs.out with⟨rfl,rfl⟩ |⟨rfl,⟨rfl,hof,hG⟩ |⟨rfl,hof,hG |hG⟩⟩
 ·clear hcs HUp
  go_wp2_with (first|fail |(with_reducible (refine callB (HL.out _ (HG.out _ hst.end)) hst ?_;clear hst;intro w' hst)))
  go_ret
  exact⟨rfl,hst.end⟩
 rotate_left 2
 ·clear hcs
  have HSt:Hid (∀D F wx,DevW D F wx g d3→Calls Tryz.prog 18 #[.pointer (some ⟨g,0,none⟩)] wx (DevRet (.int .i64 0) D F wx g (started d3))):=Lib.hid (fun D F wx hd=>dstart_calls hd hof)
  simp only[hof,Bool.not_true,Bool.not_false] at HUp
  obtain⟨hof4,hl⟩:=hG
  have HLd4:=Lib.hid (fun D F wx (hd:DevW D F wx g (started d3)) (hg:GSums wx∧GBegin wx∧GSha wx)=>load_any hd hof4 hg.1 hg.2.1 hg.2.2)
  rw[hl] at HLd4
  clear hof hof4 hl
  go_wp2_with (first|(with_reducible (refine xval rfl 55 rfl (.bool false) (fun w=>by kernel_rfl) ?_))|fail |(with_reducible (refine callOr (HUp.out _) hst m ?_;clear hst;intro w' hst))|(with_reducible (refine callO (HSt.out _) hst m ?_;clear hst m;intro w7 q7 hst m)))
  refine callLd (fun F hd=>HLd4.out _ F _ hd (HG.out _ hst.end)) hst m ?_
  clear hst
  rintro w8 ⟨p',c',k',l'⟩ D8 hvt hT8 hD8 hst
  rw[show(ttL ⟨p',c',k',l'⟩).toArray=[.int .i64 k',.slice p' l'.length c'].toArray from rfl]
  clear hvt hT8 hD8 HLd4
  go_wp2_with (first|(with_reducible refine xnwS 12 rfl rfl rfl hst ?_;clear hst;intro b12 w' hst)|(with_reducible refine xnwS 13 rfl rfl rfl hst ?_;clear hst;intro b13 w' hst)|(with_reducible (refine xsa rfl rfl rfl rfl hst ?_;clear hst;intro w' hst))|(with_reducible (refine callB (HL.out _ (HG.out _ hst.end)) hst ?_;clear hst;intro w' hst)))
  go_ret
  exact⟨rfl,hst.end⟩
 all_goals
  clear hcs
  have HSt:Hid (∀D F wx,DevW D F wx g d3→d3.off=true→Calls Tryz.prog 18 #[.pointer (some ⟨g,0,none⟩)] wx (DevRet (.int .i64 0) D F wx g (started d3))):=Lib.hid (fun D F wx hd ho=>dstart_calls hd ho)
  simp only[hof,Bool.not_true,Bool.not_false] at HUp
  obtain⟨hof4,x,hl,hxn,hch⟩:=hG
  have HLd4:=Lib.hid (fun D F wx hd (hg:GSums wx∧GBegin wx∧GSha wx)=>load_any (D:=D) (F:=F) (w:=wx) (g:=g) hd hof4 hg.1 hg.2.1 hg.2.2)
  have HFt:=Lib.hid (fun D F wx hd (hg:GSums wx∧GBegin wx∧GSha wx)=>format_there (D:=D) (F:=F) (w:=wx) (g:=g) hd hof4 hch hg.1 hg.2.1 hg.2.2)
  rw[hl] at HLd4
  have HX:=Lib.hid (decide_eq_true hxn)
  replace hof:=Lib.hid hof
  clear hof4 hl hch hxn
  go_wp2_with (first|(with_reducible (refine xval rfl 55 rfl (.bool false) (fun w=>by kernel_rfl) ?_))|fail |(with_reducible (refine callOr (HUp.out _) hst m ?_;clear hst;intro w' hst))|(with_reducible (refine callO (fun F wx hd=>HSt.out _ F wx hd hof.out) hst m ?_;clear hst m;intro w7 q7 hst m)))
  refine callLd (fun F hd=>HLd4.out _ F _ hd (HG.out _ hst.end)) hst m ?_
  clear hst
  rintro w8 ⟨p',c',k',l'⟩ D8 hvt hT8 hD8 hst
  rw[show(ttL ⟨p',c',k',l'⟩).toArray=[.int .i64 k',.slice p' l'.length c'].toArray from rfl]
  replace m:=m.mono hD8
  have h1:(⟨k',l'.map (·.s)⟩:Tt)=⟨0,[]⟩:=hvt
  injection h1 with h1 h2
  subst h1
  have HSm:Hid (∀wx,Holds D8 wx→Calls Tryz.prog 12 #[.agg #[.int .i64 0,.slice p' l'.length c'],.agg #[.int .i64 0,.slice none 0 0]] wx (Ret (.bool true) wx)):=Lib.hid (fun wx hx=>samett_calls hT8 (TtAt.zero D8) h2 wx hx)
  clear hvt hT8 h2 HLd4 hD8
  go_wp2_with (first|(with_reducible refine xnwS 12 rfl rfl rfl hst ?_;clear hst;intro b12 w' hst)|(with_reducible refine xnwS 13 rfl rfl rfl hst ?_;clear hst;intro b13 w' hst)|(with_reducible (refine xval rfl 87 rfl _ (fun w=>Fx.e_eql rfl rfl rfl HX.out w) ?_))|(with_reducible (refine xval rfl 91 rfl (.agg #[.int .i64 0,.slice none 0 0]) (fun w=>by kernel_rfl) ?_))|(with_reducible first|refine x1 rfl rfl rfl hst ?_|refine xa rfl rfl rfl hst ?_|(refine xsa rfl rfl rfl rfl hst ?_;clear hst;intro w' hst))|(with_reducible (refine callB (HSm.out _ hst.data) hst ?_;clear hst;intro w' hst))|(with_reducible (refine callOr (fun F wx hd=>HFt.out _ F wx hd (HG.out _ hst.end)) hst m ?_;clear hst;intro w' hst))|(with_reducible (refine callOw (fun F hd=>HFt.out _ F _ hd (HG.out _ hst.end)) hst m ?_;clear hst;intro w' hst))|(with_reducible (refine callB (HL.out _ (HG.out _ hst.end)) hst ?_;clear hst;intro w' hst)))
  go_ret
  exact⟨rfl,hst.end⟩
end Go.Proofs.YtdkeiefgkgpcbaaGreatDoor
namespace Go.Proofs.YtdkeiefgkgpcbaaGreatDoor
open Go.ChangeShapes Go.WideShapes Go.ChangeAt Go.RowKit
section
variable {H:Type} {enc:TypeId×Value→H} {W:World} {m:Nat} {t:TypeId} {cs:List Value} {x:DataW H×List MemPlace}
theorem i64_of {n:Int} (h:(Lit.int .i64 n).wf=true):I64 n:=by
 simp[Lit.wf,IntKind.min,IntKind.max,IntKind.signed,IntKind.bits] at h
 unfold I64
 omega
end
instance:Inhabited Pu:=⟨pu0⟩
instance:Inhabited Rw:=⟨⟨none,0,[]⟩⟩
theorem cell_block {W:World} {a:Addr} {v:Value} (h:W.cell? a=some v):a.spot=none∧∃C T z,W.heap[a.block]? =some (.cells C T z)∧C[a.off]? =some v:=by
 unfold World.cell? at h
 split at h
 ·rename_i C T z hc
  split at h
  ·cases h
  ·rename_i hs
   exact⟨by simpa using hs,C,T,z,hc,h⟩
 ·cases h
theorem row_of_cells {α:Type} {enc:α→List Value} {k:Nat} [e:Enc enc k] (hk:0<k) {W:World} {T:TypeId} {a:Addr} {n c:Nat} (hn:n≤c) (hb:n≤1000000000) (F:Nat→α) (h:∀i,i<n→∀j,j<k→W.cell? (a.add (i*k+j))=(enc (F i))[j]?):
  RowAt (snap W) T k enc (some a) c ((List.range n).map F) where
 cap:=by simpa using hn
 big:=by simpa using hb
 at_ i hi:=by
  have hi':i<n:=by simpa using hi
  have h0:=h 0 (by omega) 0 hk
  rw[Nat.zero_mul,Nat.add_zero,List.getElem?_eq_getElem (by rw[e.len];exact hk)] at h0
  have h00:a.add 0=a:=by unfold Addr.add;rw[if_pos rfl]
  rw[h00] at h0
  obtain⟨hs,C,Tb,z,hc,_⟩:=cell_block h0
  obtain⟨g,off,sp⟩:=a
  simp only at hs
  subst hs
  refine⟨g,off,C,Tb,rfl,⟨z,hc⟩,fun j v hj=>?_⟩
  simp only[List.getElem_map,List.getElem_range] at hj
  have hjk:j<k:=by rw[←e.len (F i)];exact(List.getElem?_eq_some_iff.1 hj).1
  have h1:=h i hi' j hjk
  rw[hj,addr_add] at h1
  obtain⟨_,C',T',z',hc',hv⟩:=cell_block h1
  simp only at hc' hv
  rw[hc] at hc'
  injection hc' with hc'
  injection hc' with hc'
  rw[hc',Nat.add_assoc]
  exact hv
end Go.Proofs.YtdkeiefgkgpcbaaGreatDoor
namespace Go.Proofs.YtdkeiefgkgpcbaaGreatDoor
open Go.ChangeShapes Go.WideShapes Go.ChangeAt Go.RowKit
section
variable {H:Type} {enc:TypeId×Value→H} {W:World} {base:Nat} {v:Value} {d:DataW H} {p:List MemPlace}
theorem byte_of {a:Int} (hw:(Lit.int .u8 a).wf=true):∃c:UInt8,a=(c.toNat:Int):=by
 obtain⟨h0,h1⟩:=bounds_u8 hw
 refine⟨UInt8.ofNat a.toNat,?_⟩
 have e:(UInt8.ofNat a.toNat).toNat=a.toNat:=by simp;omega
 rw[e];omega
theorem open_byte (hv:Value.okWide Tryz.prog W .any base 5 v) (h:DataW.Trod enc Tryz.prog W 0 (fun _=>true) true 5 v d p):∃c:UInt8,v=.int .u8 (c.toNat:Int):=by
 obtain⟨n,rfl,_,_,hw⟩:=open_int Tryz.underlying5 hv h
 obtain⟨c,rfl⟩:=byte_of hw
 exact⟨c,rfl⟩
theorem open_row {α:Type} {f:α→List Value} [e:Enc f 1] {T TS:TypeId} (hS:Tryz.prog.underlying TS=some (.slice T)) (hc:Tryz.prog.cellsOf T=1) (x0:α) (P:α→Prop) (hP0:P x0)
  (each:∀(n:Nat) (v:Value) (x:DataW H×List MemPlace),DataW.trod enc Tryz.prog W 0 (fun _=>true) true n T [v]=some x→∃a,f a=[v]∧P a)
  (hv:Value.okWide Tryz.prog W .any base TS v) (h:DataW.Trod enc Tryz.prog W 0 (fun _=>true) true TS v d p) (mx:Nat) (hmx:mx≤1000000000):∃q c l,v=.slice q l.length c∧(l.length≤mx→RowAt (snap W) T 1 f q c l)∧∀x∈l,P x:=by
 obtain⟨a,len,cap,rfl⟩:=okWide_slice hS hv
 obtain⟨fuel,hf⟩:=h
 rcases Deep.open_slice1 hS hc hf with⟨hcs,_⟩ |⟨x,l,c,m,n,V,D,Pl,hcs,_,hl,hm,hmm,_,hx⟩
 ·simp[Value.cells] at hcs
  obtain⟨rfl,rfl,rfl⟩:=hcs
  exact⟨none,0,[],rfl,fun _=>RowAt.nil ..,by simp⟩
 ·simp[Value.cells] at hcs
  obtain⟨rfl,rfl,rfl⟩:=hcs
  have hm':m=cap:=by simpa using hmm
  subst hm'
  have ea:∀i,i<len→∃r:α,W.cell? (x.add i)=(f r)[0]? ∧P r:=fun i hi=>by
   obtain⟨h1,h2⟩:=hx i (by omega)
   obtain⟨r,e,hr⟩:=each _ _ _ h2
   exact⟨r,by rw[h1,e];rfl,hr⟩
  haveI:Inhabited α:=⟨x0⟩
  obtain⟨F,hF⟩:=Deep.choose_lt (α:=α) (p:=fun i r=>W.cell? (x.add i)=(f r)[0]? ∧P r) ea
  refine⟨some x,m,(List.range len).map F,by simp,fun hb=>row_of_cells (by decide) hl (by simp at hb;omega) F (fun i hi j hj=>?_),fun r hr=>?_⟩
  ·obtain rfl:j=0:=by omega
   rw[Nat.mul_one,Nat.add_zero,(hF i hi).1]
  ·obtain⟨i,hi,rfl⟩:=List.mem_map.1 hr
   exact(hF i (by simpa using hi)).2
theorem open_bytes60 (hv:Value.okWide Tryz.prog W .any base 47 v) (h:DataW.Trod enc Tryz.prog W 0 (fun _=>true) true 47 v d p):∃q c l,v=.slice q l.length c∧(l.length≤60→RowAt (snap W) 5 1 u8L q c l):=by
 obtain⟨q,c,l,h1,h2,_⟩:=open_row (f:=u8L) Tryz.underlying47 (by kernel_rfl) 0 (fun _=>True) trivial (fun n v x hx=>by
  obtain⟨a,e,_,hw⟩:=DataW.trod_int Tryz.underlying5 hx
  obtain⟨c,rfl⟩:=byte_of hw
  exact⟨c,by rw[e],trivial⟩) hv h 60 (by decide)
 exact⟨q,c,l,h1,h2⟩
theorem open_ints20 (hv:Value.okWide Tryz.prog W .any base 48 v) (h:DataW.Trod enc Tryz.prog W 0 (fun _=>true) true 48 v d p):∃q c l,v=.slice q l.length c∧(l.length≤20→RowAt (snap W) 3 1 inL q c l)∧∀x∈l,I64 x:=
 open_row (f:=inL) Tryz.underlying48 (by kernel_rfl) 0 I64 (by unfold I64;omega) (fun n v x hx=>by
  obtain⟨a,e,_,hw⟩:=DataW.trod_int Tryz.underlying3 hx
  exact⟨a,by rw[e],i64_of hw⟩) hv h 20 (by decide)
end
end Go.Proofs.YtdkeiefgkgpcbaaGreatDoor
