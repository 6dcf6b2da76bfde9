/- MountsFormat: a format lays an empty file system, wherever there is room, on a device without a chain; one in which the device fails leaves none, or that: for every input that can be read the call returns true, and the arguments read behind it as they read before; the three tables of sums and sha are tied to the program's text. -/
import Derived.Test.YtdkeiefgkgpcbaaGreatDoorRows
import Derived.Lib.LaidTab
import Derived.Stop.LaidErr
import Derived.MakeChecks
import Derived.Test.YtdkeiefgkgpcbaaGreatDoorTie
import Derived.Test.YtdkeiefgkgpcbaaGreatDoorCards
import Derived.WalkKit
import Derived.ProofKit
import Derived.OpenShut
import Derived.ShutString
import Derived.ChangeOld
import Derived.Below
import Derived.SizedLaws
import Derived.LaidMore
import Derived.Lay
import Derived.SevenTiedAt
import Derived.Stop.Joined
import Derived.Test.YtdkeiefgkgpcbaaGreatDoorF05
set_option linter.unusedVariables false
set_option maxRecDepth 100000
namespace Go.Proofs.YtdkeiefgkgpcbaaGreatDoor
open Go.RowKit
def sumsZ:List Int:=(List.range 16).map fun i=>(sumsT.getD i 0:Int)
def shaZ:List Int:=(List.range 64).map fun i=>((mk32 (shaT.getD i 0)).val:Int)
def shaBZ:List Int:=shaB.map fun x=>(x.val:Int)
theorem laidG {W:World} {l:List (String×DataW Unit)} (hl:l=[("sealingwax/sums.table",Lib.tabData .u32 sumsZ),("sealingwax/sha.table",Lib.tabData .u32 shaZ),("sealingwax/sha.begin",Lib.tabData .u32 shaBZ)]) (h:laidMetH Tryz.prog l W):GSums W∧GSha W∧GBegin W:=by
 subst hl
 rw[MakeChecks.laidMetH_plain _ _ _ (by kernel_rfl)] at h
 have t1:=Lib.tabIs_of_head (g:=1) (t:=287) (e:=223) (n:=16) (by kernel_rfl) (by kernel_rfl) Tryz.underlying287 Tryz.underlying223 (by kernel_rfl) (by kernel_rfl) h
 have t2:=Lib.tabIs_of_head (g:=2) (t:=298) (e:=223) (n:=64) (by kernel_rfl) (by kernel_rfl) Tryz.underlying298 Tryz.underlying223 (by kernel_rfl) (by kernel_rfl) h.tail
 have t3:=Lib.tabIs_of_head (g:=0) (t:=238) (e:=223) (n:=8) (by kernel_rfl) (by kernel_rfl) Tryz.underlying238 Tryz.underlying223 (by kernel_rfl) (by kernel_rfl) h.tail.tail
 refine⟨⟨fun i hi=>?_⟩,⟨fun i hi=>?_⟩,⟨fun i v hi=>?_⟩⟩
 ·have h1:=t1.cell (g:=1) (by kernel_rfl) i (by simpa[sumsZ] using hi)
  rw[h1]
  unfold sumsZ
  rw[List.getD_eq_getElem?_getD,List.getElem?_map,List.getElem?_range hi]
  rfl
 ·have h1:=t2.cell (g:=2) (by kernel_rfl) i (by simpa[shaZ] using hi)
  rw[h1]
  unfold shaZ
  rw[List.getD_eq_getElem?_getD,List.getElem?_map,List.getElem?_range hi]
  rfl
 ·have hi8:i<8:=(List.getElem?_eq_some_iff.1 hi).1
  have h1:=t3.cell (g:=0) (by kernel_rfl) i (show i<shaBZ.length from hi8)
  rw[h1,←hi]
  unfold shaBZ
  rw[List.getD_eq_getElem?_getD,List.getElem?_map,List.getElem?_map]
  have h2:shaB[i]? =some shaB[i]:=List.getElem?_eq_getElem hi8
  rw[h2]
  rfl
end Go.Proofs.YtdkeiefgkgpcbaaGreatDoor
namespace Go.Proofs.YtdkeiefgkgpcbaaGreatDoor.mountsFormat
open Go.ChangeShapes Go.WideShapes Go.ChangeAt Go.RowKit
theorem own:ownKnob Tryz.prog.godebug=none:=by kernel_rfl
theorem laidOut:laidOutB Tryz.prog=true:=by kernel_rfl
set_option maxRecDepth 100000 in
theorem lifted (os:Os) (started:os.Started) (H:Type) (enc:TypeId×Value→H):
  ReturnsInHanded {} Tryz.checked os 4 .any (fun w args=>(Rows.mountsFormatSpec.pre enc Tryz.prog Tryz.f4 Rows.mountsFormatRow.domain false w args∧laidMetH Tryz.prog Rows.mountsFormatRow.laid w)∧sizedMet enc Tryz.prog Tryz.f4 (OpenSpec.ofChange Rows.mountsFormatSpec) false w args)
   (Rows.mountsFormatSpec.post enc Tryz.prog Tryz.f4 false true false false):=by
 refine returnsInHanded_of_change_and (C:=Tryz.checked) (X:=fun w _=>laidMetH Tryz.prog Rows.mountsFormatRow.laid w) (fun _ _ _ hh h=>h.of_heap hh) own started (by kernel_rfl) Tryz.func4
  (ChangeSpec.witness_shaped (enc:=enc) (C:=Tryz.checked) (os:=os) (X:=fun w _=>laidMetH Tryz.prog Rows.mountsFormatRow.laid w) false (World.laidAll Tryz.prog os Rows.mountsFormatRow.laid) #[.int .u8 0,.slice none 0 0,.slice none 0 0] 8 (World.laidAll_os _ _ _)
   (World.shaped_of_ZipB (by kernel_rfl) (by kernel_rfl)) (by kernel_rfl) (by kernel_rfl) (by kernel_rfl)
   (by rw[MakeChecks.laidMetH_plain _ _ _ (by kernel_rfl)];exact laidMet_laidAll _ (by kernel_rfl) (by kernel_rfl))) ?_
 intro W base args ds gs before hval0 hW hcnd hsz0 hL _
 have hval:∀(j:Nat) t v,Tryz.f4.params[j]? =some t→args[j]? =some v→Value.okWide Tryz.prog W .any base t v:=hval0
 have hW':=hW
 obtain⟨p,q,hA0,hV,rfl,hfz,hnd⟩:=hW
 have hA:DataW.TrodAll enc Tryz.prog W 0 (fun _=>true) true Tryz.f4.params.toList args.toList ds p:=hA0
 rw[Tryz.params4] at hA hval
 obtain⟨v0,vs0,d0,ds0,p0,q0,hargs,rfl,rfl,h0,r0⟩:=trodAll_cons hA
 obtain⟨v1,vs1,d1,ds1,p1,q1,rfl,rfl,rfl,h1,r1⟩:=trodAll_cons r0
 obtain⟨v2,vs2,d2,ds2,p2,q2,rfl,rfl,rfl,h2,r2⟩:=trodAll_cons r1
 obtain⟨rfl,rfl,rfl⟩:=trodAll_nil r2
 obtain rfl:args=#[v0,v1,v2]:=by cases args;simp_all
 obtain⟨rfl,rfl⟩:=trodVars_none hV
 have k0:=h0
 have k1:=h1
 have k2:=h2
 have lt0:∀x∈p0,x.block<W.heap.size:=by obtain⟨m,hm⟩:=k0;exact DataW.trod_lt m _ _ _ hm
 have lt1:∀x∈p1,x.block<W.heap.size:=by obtain⟨m,hm⟩:=k1;exact DataW.trod_lt m _ _ _ hm
 have lt2:∀x∈p2,x.block<W.heap.size:=by obtain⟨m,hm⟩:=k2;exact DataW.trod_lt m _ _ _ hm
 obtain⟨size,rfl⟩:=open_byte (hval 0 5 v0 rfl rfl) h0
 obtain⟨a1,c1,l1,rfl,e1⟩:=open_bytes60 (hval 1 47 v1 rfl rfl) h1
 obtain⟨a2,c2,l2,rfl,e2,i2⟩:=open_ints20 (hval 2 48 v2 rfl rfl) h2
 obtain⟨g1,g2,g3⟩:=laidG (by kernel_rfl) hL
 clear hA0 hval0 hsz0
 refine(mformat_calls size W e1 e2 i2 g1 g3 g2).mono fun e W' ⟨he,bel⟩=>?_
 subst he
 exact⟨_,rfl,_,_,_,[],_,[],hW',trodAll_mk1 (shut_bool Tryz.underlying4 _),(trodAll_cons_mk (Below.trod laidOut (by kernel_rfl) (of_decide_eq_true (by kernel_rfl)) k0 bel lt0) (trodAll_cons_mk (Below.trod laidOut (by kernel_rfl) (of_decide_eq_true (by kernel_rfl)) k1 bel lt1) (trodAll_cons_mk (Below.trod laidOut (by kernel_rfl) (of_decide_eq_true (by kernel_rfl)) k2 bel lt2) trodAll_mk0))),rfl,bel.frame _,fun h=>by cases h⟩
theorem over:Rows.mountsFormatRow.holds Tryz.pinned (OpenSpec.ofChange Rows.mountsFormatSpec):=
 OpenClaim.holds_of_wide 4 Tryz.f4 rfl rfl rfl rfl rfl rfl rfl ⟨rfl,rfl,rfl,rfl,rfl⟩ rfl rfl rfl rfl rfl (by kernel_rfl) Tryz.func4 (by kernel_rfl)
  (of_decide_eq_true (by kernel_rfl)) (by unfold Func.isWrapper;first|(rw[if_pos (by decide+kernel)];kernel_rfl)|(rw[if_neg (by decide+kernel)];exact⟨rfl,rfl⟩))
  (fun os started H enc _=>lifted os started H enc)
end Go.Proofs.YtdkeiefgkgpcbaaGreatDoor.mountsFormat
namespace Go.Proofs.YtdkeiefgkgpcbaaGreatDoor
theorem mountsFormat_holds:Rows.MountsFormatCardSaid:=
 Claim7.holds_tied_plain_at .later [] [.data,.data,.data] true (true,"44404d3c6b4dca10751decef35bda2213d51fe443a8c8ec2c31aae5bc50fed4e") true
  mountsFormat.over (fun _ h=>by cases h) (by kernel_rfl) (fun _ h=>by cases h) mountsFormat_row_tie rfl ⟨rfl,rfl⟩ (by kernel_rfl) rfl
  (fun f fn hf hfn=>by
   obtain rfl:f=4:=Option.some.inj ((show Tryz.prog.funcNamed "sealingwax/sealingwaxlaw23.MountsFormat"=some 4 by kernel_rfl).symm.trans hf)|>.symm
   obtain rfl:fn=Tryz.f4:=(Option.some.inj (Tryz.func4.symm.trans hfn)).symm
   exact⟨by kernel_rfl,fun j t ht=>by
    rw[Tryz.params4] at ht
    have hm:t∈[5,47,48]:=by simpa using Array.mem_of_getElem? ht
    have hall:([5,47,48].all fun u=> !Tryz.prog.wantsStandIn u)=true:=by kernel_rfl
    exact(show Tryz.prog.wantsStandIn t=false by simpa using List.all_eq_true.1 hall t hm)⟩)
  (by kernel_rfl)
#print axioms mountsFormat_holds
end Go.Proofs.YtdkeiefgkgpcbaaGreatDoor
