/- Steps of the proof: Join, ScanBytes. -/
import Derived.Test.YtdkeiefgkgpcbaaGreatDoorP22
set_option linter.unusedVariables false
set_option linter.unusedSimpArgs false
set_option maxRecDepth 100000
namespace Go.Proofs.YtdkeiefgkgpcbaaGreatDoor
open Go.RowKit
theorem e_eqs {ρ:Operand→Value} {o:Oper} {x y:Operand} {T U:TypeId} {s u:ByteArray} {b:Bool} (ho:o.op=.binOp .eql T x y U) (hx:ρ x=.string s) (hy:ρ y=.string u) (hb:(s.toList==u.toList)=b) (w:World):(execOp ρ o).run Tryz.prog w=.ok (.value (.bool b)) w:=by
 unfold execOp
 rw[ho]
 have hg:(eqGuard .eql T x y (.string s) (.string u)).run Tryz.prog w=.ok () w:=rfl
 simp only[hx,hy,Sem.run_bind,hg,Result.andThen_ok,binOp_string_eql,hb]
 rfl
theorem Sx.endB {w0 w1 w:World} {L:List Blk} {D:Dat} {F:List Nat} (h:Sx [] w1 w L D F) (hb:Below w0.heap.size w0 w1):Below w0.heap.size w0 w:=hb.trans (h.end.mono hb.size)
def joinBad (kind ep:Int) (n i:Nat) (f:Fr×Int):Bool:=
 decide (f.2≠0)||(decide (f.1.kind≠kind)||(decide (f.1.epoch≠ep)||(decide (f.1.index≠i)||((!decide ((f.1.data.size:Int)=112)&& !decide ((i:Int)=(n:Int)-1))||((f.1.data.toList==noS.toList)&&decide ((0:Int)<i))))))
def joinGo (kind ep:Int) (n:Nat):Nat→List ByteArray→List UInt8→Option (List UInt8)
 |_,[],acc=>some acc
 |i,s::l,acc=>if joinBad kind ep n i (frDecF (ls s)) then none else joinGo kind ep n (i+1) l (acc++ls (frDecF (ls s)).1.data)
def joinF (kind ep:Int) (l:List ByteArray):List UInt8×Int:=
 if l.length=0 then([],10) else match joinGo kind ep l.length 0 l [] with
  |none=>([],10)
  |some s=>(s,0)
set_option maxHeartbeats 8000000 in
theorem join_calls {D:Dat} {p:Option Addr} {c:Nat} {l:List ByteArray} (w:World) (hr:RowAt D 9 1 strL p c l) (hD:Holds D w) (kind ep:Int) (hs:∀s∈l,s.size≤1000000) (hl:l.length≤100000) (hU:GSums w):
  Calls Tryz.prog 120 #[.slice p l.length c,.int .u8 kind,.int .i64 ep] w (Ret (.tuple #[.string (mkS (joinF kind ep l).1),.int .i64 (joinF kind ep l).2]) w):=by
 have hst:=Sx.start0 w hD
 have HDt:=Lib.hid (fun wx (hb:Below w.heap.size w wx)=>((Sx.start0 w hD).below hb).data)
 obtain⟨R,hR⟩:∃R,joinF kind ep l=R:=⟨_,rfl⟩
 rw[hR]
 have HR0:∀ {u:List UInt8×Int},R=u→Ending.returned (.tuple #[.string (mkS u.1),.int .i64 u.2])=.returned (.tuple #[.string (mkS R.1),.int .i64 R.2]):=fun e=>by rw[e]
 by_cases hz:l.length=0
 ·have HR:Hid (R=([],10)):=Lib.hid (by rw[←hR];unfold joinF;rw[if_pos hz])
  go_enter Tryz.func120,Tryz.ntmps120
  go_wp2_with (with_reducible (refine xnw rfl rfl hst ?_;clear hst;intro bn w' hst))
  go_ret2
  exact⟨HR0 HR.out,hst.end⟩
 have HC0:Hid ((match joinGo kind ep l.length 0 (l.drop 0) [] with |none=>([],10)|some s=>(s,0))=R):=Lib.hid (by rw[←hR];unfold joinF;rw[if_neg hz];rfl)
 clear hR
 have hne:((l.length:Int)==0)=false:=by rw[beq_eq_false_iff_ne];omega
 go_enter Tryz.func120,Tryz.ntmps120
 go_wp2_with (with_reducible (refine xnw rfl rfl hst ?_;clear hst;intro bn w' hst))
 obtain⟨b8,rfl⟩:∃b,b=bn:=⟨_,rfl⟩
 go_loopw [20] (fun iv wr=>∃(k:Nat) (acc:List UInt8),k≤l.length∧iv=.int .i64 k∧Hid ((match joinGo kind ep l.length k (l.drop k) acc with |none=>([],10)|some s=>(s,0))=R)∧Hid (acc.length≤255*k)∧Below w.heap.size w wr∧IsB w.heap.size b8 (Lib.byteCells acc) wr) (fun iv _=>l.length-(intOf iv).toNat)
 case atStart=>exact⟨0,[],Nat.zero_le _,by go_num,HC0,Lib.hid (Nat.le_refl _),hst.end,IsB.fresh hst.st⟩
 case round=>
  clear hst HC0
  obtain⟨k,acc,hk,rfl,HC,HLe,hb,hIs⟩:=hrel
  by_cases hlt:k<l.length
  ·obtain⟨g,off,rfl⟩:=hr.at_some hlt
   have hld:=hr.ld1 hlt rfl
   have hxs:=hs _ (List.getElem_mem hlt)
   have hC:=HC.out
   rw[List.drop_eq_getElem_cons hlt,joinGo] at hC
   generalize l[k]=x at*
   have hda:=frDecF_data (ls x)
   have HDc:=Lib.hid (fun wx (h:Sx [] wr wx [] D [])=>frDec_calls x wx hxs (hU.below (h.endB hb)))
   generalize frDecF (ls x)=q at*
   obtain⟨⟨kd,e2,ix,da⟩,er⟩:=q
   unfold joinBad at hC
   simp only at hC hda HDc
   obtain⟨d0,h0⟩:∃d,decide (er≠0)=d:=⟨_,rfl⟩
   obtain⟨d1,h1⟩:∃d,decide (kd≠kind)=d:=⟨_,rfl⟩
   obtain⟨d2,h2⟩:∃d,decide (e2≠ep)=d:=⟨_,rfl⟩
   obtain⟨d3,h3⟩:∃d,decide (ix≠(k:Int))=d:=⟨_,rfl⟩
   obtain⟨dF,hF⟩:∃d,decide ((da.size:Int)=112)=d:=⟨_,rfl⟩
   obtain⟨dL,hL⟩:∃d,decide ((k:Int)=(l.length:Int)-1)=d:=⟨_,rfl⟩
   obtain⟨d4,h4⟩:∃d,(da.toList==noS.toList)=d:=⟨_,rfl⟩
   obtain⟨d5,h5⟩:∃d,decide ((0:Int)<(k:Int))=d:=⟨_,rfl⟩
   rw[h0,h1,h2,h3,hF,hL,h4,h5] at hC
   have HRb:Hid ((d0||(d1||(d2||(d3||((!dF&& !dL)||(d4&&d5))))))=true→Ending.returned (.tuple #[.string (mkS []),.int .i64 10])=.returned (.tuple #[.string (mkS R.1),.int .i64 R.2])):=Lib.hid (fun h=>by
    rw[if_pos h] at hC
    exact HR0 (u:=([],10)) hC.symm)
   have HRn:Hid ((d0||(d1||(d2||(d3||((!dF&& !dL)||(d4&&d5))))))=false→Hid ((match joinGo kind ep l.length (k+1) (l.drop (k+1)) (acc++ls da) with |none=>([],10)|some s=>(s,0))=R)):=Lib.hid (fun h=>Lib.hid (by
    rw[if_neg (by rw[h];simp)] at hC
    exact hC))
   have HLn:Hid ((acc++ls da).length≤255*(k+1)):=Lib.hid (by
    have:=HLe.out
    rw[List.length_append,ls_length]
    omega)
   clear hC HC
   have hst:=Sx.start0 wr (HDt.out wr hb)
   cases d0
   ·cases d1
    ·cases d2
     ·cases d3
      ·cases dF
       ·cases dL
        ·go_wp2_with (first|(with_reducible (refine xval rfl 40 rfl (.bool false) (fun w=>Fx.e_neq rfl rfl rfl h0 w) ?_))|(with_reducible (refine xval rfl 45 rfl (.bool false) (fun w=>Fx.e_neq rfl rfl rfl h1 w) ?_))|(with_reducible (refine xval rfl 51 rfl (.bool false) (fun w=>Fx.e_neq rfl rfl rfl h2 w) ?_))|(with_reducible (refine xval rfl 57 rfl (.bool false) (fun w=>Fx.e_neq rfl rfl rfl h3 w) ?_))|(with_reducible (refine xval rfl 33 rfl (.bool false) (fun w=>Fx.e_eql rfl rfl rfl hF w) ?_))|(with_reducible (refine xval rfl 38 rfl (.bool false) (fun w=>Fx.e_eql rfl rfl rfl hL w) ?_))|(with_reducible (refine xval rfl 70 rfl (.bool d4) (fun w=>e_eqs rfl rfl rfl h4 w) ?_))|(with_reducible (refine xval rfl 73 rfl (.bool d5) (fun w=>Fx.e_gtr rfl rfl rfl h5 w) ?_))|(with_reducible first|refine x1 rfl rfl rfl hst ?_|refine xd rfl rfl rfl hst ?_|(refine xsa rfl rfl rfl rfl hst ?_;clear hst;intro w' hst)|(refine xnw rfl rfl hst ?_;clear hst;intro bn w' hst))|(with_reducible (refine callE (HDc.out _ hst) hst ?_;clear hst;intro w' hst)))
         go_ret2
         exact⟨HRb.out (by simp),hst.endB hb⟩
        ·cases d4
         ·go_wp2_with (first|(with_reducible (refine xval rfl 40 rfl (.bool false) (fun w=>Fx.e_neq rfl rfl rfl h0 w) ?_))|(with_reducible (refine xval rfl 45 rfl (.bool false) (fun w=>Fx.e_neq rfl rfl rfl h1 w) ?_))|(with_reducible (refine xval rfl 51 rfl (.bool false) (fun w=>Fx.e_neq rfl rfl rfl h2 w) ?_))|(with_reducible (refine xval rfl 57 rfl (.bool false) (fun w=>Fx.e_neq rfl rfl rfl h3 w) ?_))|(with_reducible (refine xval rfl 33 rfl (.bool false) (fun w=>Fx.e_eql rfl rfl rfl hF w) ?_))|(with_reducible (refine xval rfl 38 rfl (.bool true) (fun w=>Fx.e_eql rfl rfl rfl hL w) ?_))|(with_reducible (refine xval rfl 70 rfl (.bool false) (fun w=>e_eqs rfl rfl rfl h4 w) ?_))|(with_reducible (refine xval rfl 73 rfl (.bool d5) (fun w=>Fx.e_gtr rfl rfl rfl h5 w) ?_))|(with_reducible first|refine x1 rfl rfl rfl hst ?_|refine xd rfl rfl rfl hst ?_|(refine xsa rfl rfl rfl rfl hst ?_;clear hst;intro w' hst)|(refine xnw rfl rfl hst ?_;clear hst;intro bn w' hst))|(with_reducible (refine callE (HDc.out _ hst) hst ?_;clear hst;intro w' hst)))
          refine(write_calls w.heap.size b8 acc da _ (hIs.old hst.end) (by have:=HLe.out;omega) (hst.endB hb).size).mono ?_
          rintro e w8 ⟨rfl,hIs8,hK8⟩
          have hb8:=(hst.endB hb).trans hK8.1
          clear hst
          go_wp2_with fail
          go_roundw
          case rel=>exact⟨k+1,acc++ls da,by omega,by go_num,HRn.out (by simp),Lib.hid (HLn.out),hb8,hIs8⟩
          case measure=>simp[intOf];omega
         ·cases d5
          ·go_wp2_with (first|(with_reducible (refine xval rfl 40 rfl (.bool false) (fun w=>Fx.e_neq rfl rfl rfl h0 w) ?_))|(with_reducible (refine xval rfl 45 rfl (.bool false) (fun w=>Fx.e_neq rfl rfl rfl h1 w) ?_))|(with_reducible (refine xval rfl 51 rfl (.bool false) (fun w=>Fx.e_neq rfl rfl rfl h2 w) ?_))|(with_reducible (refine xval rfl 57 rfl (.bool false) (fun w=>Fx.e_neq rfl rfl rfl h3 w) ?_))|(with_reducible (refine xval rfl 33 rfl (.bool false) (fun w=>Fx.e_eql rfl rfl rfl hF w) ?_))|(with_reducible (refine xval rfl 38 rfl (.bool true) (fun w=>Fx.e_eql rfl rfl rfl hL w) ?_))|(with_reducible (refine xval rfl 70 rfl (.bool true) (fun w=>e_eqs rfl rfl rfl h4 w) ?_))|(with_reducible (refine xval rfl 73 rfl (.bool false) (fun w=>Fx.e_gtr rfl rfl rfl h5 w) ?_))|(with_reducible first|refine x1 rfl rfl rfl hst ?_|refine xd rfl rfl rfl hst ?_|(refine xsa rfl rfl rfl rfl hst ?_;clear hst;intro w' hst)|(refine xnw rfl rfl hst ?_;clear hst;intro bn w' hst))|(with_reducible (refine callE (HDc.out _ hst) hst ?_;clear hst;intro w' hst)))
           refine(write_calls w.heap.size b8 acc da _ (hIs.old hst.end) (by have:=HLe.out;omega) (hst.endB hb).size).mono ?_
           rintro e w8 ⟨rfl,hIs8,hK8⟩
           have hb8:=(hst.endB hb).trans hK8.1
           clear hst
           go_wp2_with fail
           go_roundw
           case rel=>exact⟨k+1,acc++ls da,by omega,by go_num,HRn.out (by simp),Lib.hid (HLn.out),hb8,hIs8⟩
           case measure=>simp[intOf];omega
          ·go_wp2_with (first|(with_reducible (refine xval rfl 40 rfl (.bool false) (fun w=>Fx.e_neq rfl rfl rfl h0 w) ?_))|(with_reducible (refine xval rfl 45 rfl (.bool false) (fun w=>Fx.e_neq rfl rfl rfl h1 w) ?_))|(with_reducible (refine xval rfl 51 rfl (.bool false) (fun w=>Fx.e_neq rfl rfl rfl h2 w) ?_))|(with_reducible (refine xval rfl 57 rfl (.bool false) (fun w=>Fx.e_neq rfl rfl rfl h3 w) ?_))|(with_reducible (refine xval rfl 33 rfl (.bool false) (fun w=>Fx.e_eql rfl rfl rfl hF w) ?_))|(with_reducible (refine xval rfl 38 rfl (.bool true) (fun w=>Fx.e_eql rfl rfl rfl hL w) ?_))|(with_reducible (refine xval rfl 70 rfl (.bool true) (fun w=>e_eqs rfl rfl rfl h4 w) ?_))|(with_reducible (refine xval rfl 73 rfl (.bool true) (fun w=>Fx.e_gtr rfl rfl rfl h5 w) ?_))|(with_reducible first|refine x1 rfl rfl rfl hst ?_|refine xd rfl rfl rfl hst ?_|(refine xsa rfl rfl rfl rfl hst ?_;clear hst;intro w' hst)|(refine xnw rfl rfl hst ?_;clear hst;intro bn w' hst))|(with_reducible (refine callE (HDc.out _ hst) hst ?_;clear hst;intro w' hst)))
           go_ret2
           exact⟨HRb.out (by simp),hst.endB hb⟩
       ·cases d4
        ·go_wp2_with (first|(with_reducible (refine xval rfl 40 rfl (.bool false) (fun w=>Fx.e_neq rfl rfl rfl h0 w) ?_))|(with_reducible (refine xval rfl 45 rfl (.bool false) (fun w=>Fx.e_neq rfl rfl rfl h1 w) ?_))|(with_reducible (refine xval rfl 51 rfl (.bool false) (fun w=>Fx.e_neq rfl rfl rfl h2 w) ?_))|(with_reducible (refine xval rfl 57 rfl (.bool false) (fun w=>Fx.e_neq rfl rfl rfl h3 w) ?_))|(with_reducible (refine xval rfl 33 rfl (.bool true) (fun w=>Fx.e_eql rfl rfl rfl hF w) ?_))|(with_reducible (refine xval rfl 38 rfl (.bool dL) (fun w=>Fx.e_eql rfl rfl rfl hL w) ?_))|(with_reducible (refine xval rfl 70 rfl (.bool false) (fun w=>e_eqs rfl rfl rfl h4 w) ?_))|(with_reducible (refine xval rfl 73 rfl (.bool d5) (fun w=>Fx.e_gtr rfl rfl rfl h5 w) ?_))|(with_reducible first|refine x1 rfl rfl rfl hst ?_|refine xd rfl rfl rfl hst ?_|(refine xsa rfl rfl rfl rfl hst ?_;clear hst;intro w' hst)|(refine xnw rfl rfl hst ?_;clear hst;intro bn w' hst))|(with_reducible (refine callE (HDc.out _ hst) hst ?_;clear hst;intro w' hst)))
         refine(write_calls w.heap.size b8 acc da _ (hIs.old hst.end) (by have:=HLe.out;omega) (hst.endB hb).size).mono ?_
         rintro e w8 ⟨rfl,hIs8,hK8⟩
         have hb8:=(hst.endB hb).trans hK8.1
         clear hst
         go_wp2_with fail
         go_roundw
         case rel=>exact⟨k+1,acc++ls da,by omega,by go_num,HRn.out (by simp),Lib.hid (HLn.out),hb8,hIs8⟩
         case measure=>simp[intOf];omega
        ·cases d5
         ·go_wp2_with (first|(with_reducible (refine xval rfl 40 rfl (.bool false) (fun w=>Fx.e_neq rfl rfl rfl h0 w) ?_))|(with_reducible (refine xval rfl 45 rfl (.bool false) (fun w=>Fx.e_neq rfl rfl rfl h1 w) ?_))|(with_reducible (refine xval rfl 51 rfl (.bool false) (fun w=>Fx.e_neq rfl rfl rfl h2 w) ?_))|(with_reducible (refine xval rfl 57 rfl (.bool false) (fun w=>Fx.e_neq rfl rfl rfl h3 w) ?_))|(with_reducible (refine xval rfl 33 rfl (.bool true) (fun w=>Fx.e_eql rfl rfl rfl hF w) ?_))|(with_reducible (refine xval rfl 38 rfl (.bool dL) (fun w=>Fx.e_eql rfl rfl rfl hL w) ?_))|(with_reducible (refine xval rfl 70 rfl (.bool true) (fun w=>e_eqs rfl rfl rfl h4 w) ?_))|(with_reducible (refine xval rfl 73 rfl (.bool false) (fun w=>Fx.e_gtr rfl rfl rfl h5 w) ?_))|(with_reducible first|refine x1 rfl rfl rfl hst ?_|refine xd rfl rfl rfl hst ?_|(refine xsa rfl rfl rfl rfl hst ?_;clear hst;intro w' hst)|(refine xnw rfl rfl hst ?_;clear hst;intro bn w' hst))|(with_reducible (refine callE (HDc.out _ hst) hst ?_;clear hst;intro w' hst)))
          refine(write_calls w.heap.size b8 acc da _ (hIs.old hst.end) (by have:=HLe.out;omega) (hst.endB hb).size).mono ?_
          rintro e w8 ⟨rfl,hIs8,hK8⟩
          have hb8:=(hst.endB hb).trans hK8.1
          clear hst
          go_wp2_with fail
          go_roundw
          case rel=>exact⟨k+1,acc++ls da,by omega,by go_num,HRn.out (by simp),Lib.hid (HLn.out),hb8,hIs8⟩
          case measure=>simp[intOf];omega
         ·go_wp2_with (first|(with_reducible (refine xval rfl 40 rfl (.bool false) (fun w=>Fx.e_neq rfl rfl rfl h0 w) ?_))|(with_reducible (refine xval rfl 45 rfl (.bool false) (fun w=>Fx.e_neq rfl rfl rfl h1 w) ?_))|(with_reducible (refine xval rfl 51 rfl (.bool false) (fun w=>Fx.e_neq rfl rfl rfl h2 w) ?_))|(with_reducible (refine xval rfl 57 rfl (.bool false) (fun w=>Fx.e_neq rfl rfl rfl h3 w) ?_))|(with_reducible (refine xval rfl 33 rfl (.bool true) (fun w=>Fx.e_eql rfl rfl rfl hF w) ?_))|(with_reducible (refine xval rfl 38 rfl (.bool dL) (fun w=>Fx.e_eql rfl rfl rfl hL w) ?_))|(with_reducible (refine xval rfl 70 rfl (.bool true) (fun w=>e_eqs rfl rfl rfl h4 w) ?_))|(with_reducible (refine xval rfl 73 rfl (.bool true) (fun w=>Fx.e_gtr rfl rfl rfl h5 w) ?_))|(with_reducible first|refine x1 rfl rfl rfl hst ?_|refine xd rfl rfl rfl hst ?_|(refine xsa rfl rfl rfl rfl hst ?_;clear hst;intro w' hst)|(refine xnw rfl rfl hst ?_;clear hst;intro bn w' hst))|(with_reducible (refine callE (HDc.out _ hst) hst ?_;clear hst;intro w' hst)))
          go_ret2
          exact⟨HRb.out (by simp),hst.endB hb⟩
      ·go_wp2_with (first|(with_reducible (refine xval rfl 40 rfl (.bool false) (fun w=>Fx.e_neq rfl rfl rfl h0 w) ?_))|(with_reducible (refine xval rfl 45 rfl (.bool false) (fun w=>Fx.e_neq rfl rfl rfl h1 w) ?_))|(with_reducible (refine xval rfl 51 rfl (.bool false) (fun w=>Fx.e_neq rfl rfl rfl h2 w) ?_))|(with_reducible (refine xval rfl 57 rfl (.bool true) (fun w=>Fx.e_neq rfl rfl rfl h3 w) ?_))|(with_reducible (refine xval rfl 33 rfl (.bool dF) (fun w=>Fx.e_eql rfl rfl rfl hF w) ?_))|(with_reducible (refine xval rfl 38 rfl (.bool dL) (fun w=>Fx.e_eql rfl rfl rfl hL w) ?_))|(with_reducible (refine xval rfl 70 rfl (.bool d4) (fun w=>e_eqs rfl rfl rfl h4 w) ?_))|(with_reducible (refine xval rfl 73 rfl (.bool d5) (fun w=>Fx.e_gtr rfl rfl rfl h5 w) ?_))|(with_reducible first|refine x1 rfl rfl rfl hst ?_|refine xd rfl rfl rfl hst ?_|(refine xsa rfl rfl rfl rfl hst ?_;clear hst;intro w' hst)|(refine xnw rfl rfl hst ?_;clear hst;intro bn w' hst))|(with_reducible (refine callE (HDc.out _ hst) hst ?_;clear hst;intro w' hst)))
       go_ret2
       exact⟨HRb.out (by simp),hst.endB hb⟩
     ·go_wp2_with (first|(with_reducible (refine xval rfl 40 rfl (.bool false) (fun w=>Fx.e_neq rfl rfl rfl h0 w) ?_))|(with_reducible (refine xval rfl 45 rfl (.bool false) (fun w=>Fx.e_neq rfl rfl rfl h1 w) ?_))|(with_reducible (refine xval rfl 51 rfl (.bool true) (fun w=>Fx.e_neq rfl rfl rfl h2 w) ?_))|(with_reducible (refine xval rfl 57 rfl (.bool d3) (fun w=>Fx.e_neq rfl rfl rfl h3 w) ?_))|(with_reducible (refine xval rfl 33 rfl (.bool dF) (fun w=>Fx.e_eql rfl rfl rfl hF w) ?_))|(with_reducible (refine xval rfl 38 rfl (.bool dL) (fun w=>Fx.e_eql rfl rfl rfl hL w) ?_))|(with_reducible (refine xval rfl 70 rfl (.bool d4) (fun w=>e_eqs rfl rfl rfl h4 w) ?_))|(with_reducible (refine xval rfl 73 rfl (.bool d5) (fun w=>Fx.e_gtr rfl rfl rfl h5 w) ?_))|(with_reducible first|refine x1 rfl rfl rfl hst ?_|refine xd rfl rfl rfl hst ?_|(refine xsa rfl rfl rfl rfl hst ?_;clear hst;intro w' hst)|(refine xnw rfl rfl hst ?_;clear hst;intro bn w' hst))|(with_reducible (refine callE (HDc.out _ hst) hst ?_;clear hst;intro w' hst)))
      go_ret2
      exact⟨HRb.out (by simp),hst.endB hb⟩
    ·go_wp2_with (first|(with_reducible (refine xval rfl 40 rfl (.bool false) (fun w=>Fx.e_neq rfl rfl rfl h0 w) ?_))|(with_reducible (refine xval rfl 45 rfl (.bool true) (fun w=>Fx.e_neq rfl rfl rfl h1 w) ?_))|(with_reducible (refine xval rfl 51 rfl (.bool d2) (fun w=>Fx.e_neq rfl rfl rfl h2 w) ?_))|(with_reducible (refine xval rfl 57 rfl (.bool d3) (fun w=>Fx.e_neq rfl rfl rfl h3 w) ?_))|(with_reducible (refine xval rfl 33 rfl (.bool dF) (fun w=>Fx.e_eql rfl rfl rfl hF w) ?_))|(with_reducible (refine xval rfl 38 rfl (.bool dL) (fun w=>Fx.e_eql rfl rfl rfl hL w) ?_))|(with_reducible (refine xval rfl 70 rfl (.bool d4) (fun w=>e_eqs rfl rfl rfl h4 w) ?_))|(with_reducible (refine xval rfl 73 rfl (.bool d5) (fun w=>Fx.e_gtr rfl rfl rfl h5 w) ?_))|(with_reducible first|refine x1 rfl rfl rfl hst ?_|refine xd rfl rfl rfl hst ?_|(refine xsa rfl rfl rfl rfl hst ?_;clear hst;intro w' hst)|(refine xnw rfl rfl hst ?_;clear hst;intro bn w' hst))|(with_reducible (refine callE (HDc.out _ hst) hst ?_;clear hst;intro w' hst)))
     go_ret2
     exact⟨HRb.out (by simp),hst.endB hb⟩
   ·go_wp2_with (first|(with_reducible (refine xval rfl 40 rfl (.bool true) (fun w=>Fx.e_neq rfl rfl rfl h0 w) ?_))|(with_reducible (refine xval rfl 45 rfl (.bool d1) (fun w=>Fx.e_neq rfl rfl rfl h1 w) ?_))|(with_reducible (refine xval rfl 51 rfl (.bool d2) (fun w=>Fx.e_neq rfl rfl rfl h2 w) ?_))|(with_reducible (refine xval rfl 57 rfl (.bool d3) (fun w=>Fx.e_neq rfl rfl rfl h3 w) ?_))|(with_reducible (refine xval rfl 33 rfl (.bool dF) (fun w=>Fx.e_eql rfl rfl rfl hF w) ?_))|(with_reducible (refine xval rfl 38 rfl (.bool dL) (fun w=>Fx.e_eql rfl rfl rfl hL w) ?_))|(with_reducible (refine xval rfl 70 rfl (.bool d4) (fun w=>e_eqs rfl rfl rfl h4 w) ?_))|(with_reducible (refine xval rfl 73 rfl (.bool d5) (fun w=>Fx.e_gtr rfl rfl rfl h5 w) ?_))|(with_reducible first|refine x1 rfl rfl rfl hst ?_|refine xd rfl rfl rfl hst ?_|(refine xsa rfl rfl rfl rfl hst ?_;clear hst;intro w' hst)|(refine xnw rfl rfl hst ?_;clear hst;intro bn w' hst))|(with_reducible (refine callE (HDc.out _ hst) hst ?_;clear hst;intro w' hst)))
    go_ret2
    exact⟨HRb.out (by simp),hst.endB hb⟩
  ·obtain rfl:k=l.length:=by omega
   have HRe:Hid (R=(acc,0)):=Lib.hid (by have:=HC.out;rw[List.drop_length,joinGo] at this;exact this.symm)
   go_wp2_with fail
   refine(builder_string_calls w.heap.size b8 acc _ hIs hb.size).mono ?_
   rintro e w8 ⟨rfl,hIs8,hK8⟩
   go_wp2_with fail
   go_ret2
   exact⟨HR0 HRe.out,hb.trans hK8.1⟩
end Go.Proofs.YtdkeiefgkgpcbaaGreatDoor
namespace Go.Proofs.YtdkeiefgkgpcbaaGreatDoor
open Go.RowKit
def blkGo (d:Dv) (start:Int):Nat→List ByteArray×Int
 |0=>([],0)
 |k+1=>if(blkGo d start k).2≠0 then blkGo d start k else if(dRead d (start+k)).2≠0 then([],(dRead d (start+k)).2) else((blkGo d start k).1++[(dRead d (start+k)).1],0)
def blocksF (d:Dv) (start count:Int):List ByteArray×Int:=
 if(d.now.length:Int)<count∨(d.now.length:Int)-count<start then([],2) else blkGo d start count.toNat
theorem blkGo_stay {d:Dv} {start:Int} {k:Nat} (h:(blkGo d start k).2≠0):∀m,blkGo d start (k+m)=blkGo d start k
 |0=>rfl
 |m+1=>by
  have ih:=blkGo_stay h m
  rw[←Nat.add_assoc]
  rw[blkGo,ih,if_pos h]
theorem blkGo_size {d:Dv} (hd:d.Ok) {start:Int}:∀k,∀s∈(blkGo d start k).1,s.size≤1000
 |0=>by simp[blkGo]
 |k+1=>by
  rw[blkGo]
  split
  ·exact blkGo_size hd k
  ·split
   ·simp
   ·intro s hs
    rcases List.mem_append.1 hs with hs |hs
    ·exact blkGo_size hd k s hs
    ·obtain rfl:=List.mem_singleton.1 hs;exact dRead_size hd _
theorem blkGo_len {d:Dv} {start:Int}:∀k,(blkGo d start k).1.length≤k
 |0=>by simp[blkGo]
 |k+1=>by
  have:=blkGo_len (d:=d) (start:=start) k
  rw[blkGo]
  split
  ·omega
  ·split
   ·simp
   ·rw[List.length_append,List.length_singleton];omega
theorem perm_kb (x y:Blk) (A:List Blk):(x::y::(A++[])).Perm (x::(A++[y])):=perm_count fun z=>by
 simp only[List.count_append,List.count_cons,List.count_nil]
 omega
theorem perm_bk (y:Blk) (A:List Blk):(A++[y]).Perm (y::(A++[])):=perm_count fun z=>by
 simp only[List.count_append,List.count_cons,List.count_nil]
 omega
def BlocksPost (w:World) (r:List ByteArray×Int) (e:Ending) (w':World):Prop:=
 ∃v Lo,e=.returned (.tuple #[v,.int .i64 r.2])∧OwnR 9 1 strL Lo v r.1∧St [] w w' Lo
set_option maxHeartbeats 8000000 in
theorem blocks_calls {D:Dat} {F:List Nat} {w:World} {g:Nat} {d:Dv} (h:DevW D F w g d) (start count:Int) (hs:0≤start∧start≤1000000) (hc:0≤count∧count≤1000000):
  Calls Tryz.prog 119 #[.pointer (some ⟨g,0,none⟩),.agg #[.int .i64 start,.int .i64 count]] w (BlocksPost w (blocksF d start count)):=by
 have hst:=Sx.start0 w h.data
 have hmax:=h.ok.max
 have HLn:=Lib.hid (fun wx (hb:Below w.heap.size w wx)=>dlen_calls (h.below hb))
 have HRd:=Lib.hid (fun i wx (hb:Below w.heap.size w wx)=>dread_calls (h.below hb) i)
 obtain⟨R,hR⟩:∃R,blocksF d start count=R:=⟨_,rfl⟩
 rw[hR]
 have HR0:∀ {u:List ByteArray×Int} {v:Value},R=u→Ending.returned (.tuple #[v,.int .i64 u.2])=.returned (.tuple #[v,.int .i64 R.2]):=fun e=>by rw[e]
 unfold blocksF at hR
 generalize d.now.length=N at*
 clear h
 by_cases h2:(N:Int)<count
 ·rw[if_pos (Or.inl h2)] at hR
  have HR:=Lib.hid hR.symm
  have HD2:=Lib.hid (decide_eq_true h2)
  clear hR
  go_enter Tryz.func119,Tryz.ntmps119
  go_wp2_with (with_reducible (refine xba rfl rfl hst rfl ?_;clear hst;intro bb w' hst))
  obtain⟨b3,rfl⟩:∃b,b=bb:=⟨_,rfl⟩
  refine Fx.go (fun _=>false) (fun i=> !(i==1||i==5||i==10||i==12||i==17||i==19||i==21)) (fun _=>false) (List.range 25) rfl hst (by kernel_rfl) (by kernel_rfl) (by kernel_rfl) (by kernel_rfl) (by kernel_rfl) ?_
  show Fx.wpLX _ _ _ [0,1,2,3,4,5,6,7,8,9,10,11,12,13,14,15,16,17,18,19,20,21,22,23,24] _ _
  refine Fx.fa rfl rfl rfl rfl rfl rfl ?_
  refine Fx.l1 rfl rfl rfl rfl rfl rfl ?_
  refine Fx.val (v:=.bool false) rfl rfl rfl rfl (Fx.e_lss rfl rfl rfl (decide_eq_false (by omega))) ?_
  refine Fx.val (v:=.bool false) rfl rfl rfl rfl (Fx.e_mv rfl rfl) ?_
  refine Fx.fa rfl rfl rfl (by kernel_rfl) rfl rfl ?_
  refine Fx.l1 rfl rfl rfl (by kernel_rfl) rfl rfl ?_
  refine Fx.val (v:=.bool false) rfl rfl rfl (by kernel_rfl) (Fx.e_lss rfl rfl rfl (decide_eq_false (by omega))) ?_
  refine Fx.val (v:=.bool false) rfl rfl rfl rfl (Fx.e_pkF rfl rfl rfl) ?_
  refine Fx.val (v:=.bool false) rfl rfl rfl rfl (Fx.e_mv rfl rfl) ?_
  refine Fx.fa rfl rfl rfl (by kernel_rfl) rfl rfl ?_
  refine Fx.l1 rfl rfl rfl (by kernel_rfl) rfl rfl ?_
  refine Fx.val (v:=.pointer (some ⟨g,0,none⟩)) rfl rfl rfl (by kernel_rfl) (Fx.e_mv rfl rfl) ?_
  refine Fx.callB rfl rfl (fun w h=>h) (fun w h=>HLn.out w h.end) rfl (by kernel_rfl) (fun w=>by kernel_rfl) ?_
  refine Fx.val (v:=.bool true) rfl rfl rfl (by kernel_rfl) (Fx.e_gtr rfl rfl rfl HD2.out) ?_
  refine Fx.val (v:=.bool true) rfl rfl rfl rfl (Fx.e_pkF rfl rfl rfl) ?_
  refine Fx.val (v:=.bool true) rfl rfl rfl rfl (Fx.e_mv rfl rfl) ?_
  refine Fx.skip rfl rfl (by kernel_rfl) rfl ?_
  refine Fx.skipB rfl rfl (by kernel_rfl) (fun w h=>h) ?_
  refine Fx.skip rfl rfl (by kernel_rfl) rfl ?_
  refine Fx.skipB rfl rfl (by kernel_rfl) (fun w h=>h) ?_
  refine Fx.skip rfl rfl (by kernel_rfl) rfl ?_
  refine Fx.skipB rfl rfl (by kernel_rfl) (fun w h=>h) ?_
  refine Fx.skip rfl rfl (by kernel_rfl) rfl ?_
  refine Fx.skip rfl rfl (by kernel_rfl) rfl ?_
  refine Fx.val (v:=.bool true) rfl rfl rfl rfl (Fx.e_pkT rfl rfl rfl) ?_
  clear hst
  intro w' hst
  generalize hact:Fx.mkO _ _=act
  have hv0:act.tmps.getD 0 undef=.pointer (some ⟨g,0,none⟩):=by rw[←hact];kernel_rfl
  have hv1:act.tmps.getD 1 undef=.agg #[.int .i64 start,.int .i64 count]:=by rw[←hact];kernel_rfl
  have hv2:act.tmps.getD 2 undef=undef:=by rw[←hact];kernel_rfl
  have hv3:act.tmps.getD 3 undef=.pointer (some ⟨b3,0,none⟩):=by rw[←hact];kernel_rfl
  have hv4:act.tmps.getD 4 undef=.slice none 0 0:=by rw[←hact];kernel_rfl
  have hv5:act.tmps.getD 5 undef=.int .i64 0:=by rw[←hact];kernel_rfl
  have hv34:act.tmps.getD 34 undef=.bool true:=by rw[←hact];kernel_rfl
  obtain⟨fZ,hfZ,hact2⟩:=act_lit act 58 (by rw[←hact];kernel_rfl) (by rw[←hact];kernel_rfl)
  clear hact
  have he0:fZ 0=.pointer (some ⟨g,0,none⟩):=(hfZ 0).symm.trans hv0
  have he1:fZ 1=.agg #[.int .i64 start,.int .i64 count]:=(hfZ 1).symm.trans hv1
  have he2:fZ 2=undef:=(hfZ 2).symm.trans hv2
  have he3:fZ 3=.pointer (some ⟨b3,0,none⟩):=(hfZ 3).symm.trans hv3
  have he4:fZ 4=.slice none 0 0:=(hfZ 4).symm.trans hv4
  have he5:fZ 5=.int .i64 0:=(hfZ 5).symm.trans hv5
  have he34:fZ 34=.bool true:=(hfZ 34).symm.trans hv34
  have hlit:(List.range 58).map fZ=(.pointer (some ⟨g,0,none⟩)::.agg #[.int .i64 start,.int .i64 count]::undef::.pointer (some ⟨b3,0,none⟩)::.slice none 0 0::.int .i64 0::fZ 6::fZ 7::fZ 8::fZ 9::fZ 10::fZ 11::fZ 12::fZ 13::fZ 14::fZ 15::fZ 16::fZ 17::fZ 18::fZ 19::fZ 20::fZ 21::fZ 22::fZ 23::fZ 24::fZ 25::fZ 26::fZ 27::fZ 28::fZ 29::fZ 30::fZ 31::fZ 32::fZ 33::.bool true::fZ 35::fZ 36::fZ 37::fZ 38::fZ 39::fZ 40::fZ 41::fZ 42::fZ 43::fZ 44::fZ 45::fZ 46::fZ 47::fZ 48::fZ 49::fZ 50::fZ 51::fZ 52::fZ 53::fZ 54::fZ 55::fZ 56::fZ 57::[]):=by simp only[show List.range 58=[0,1,2,3,4,5,6,7,8,9,10,11,12,13,14,15,16,17,18,19,20,21,22,23,24,25,26,27,28,29,30,31,32,33,34,35,36,37,38,39,40,41,42,43,44,45,46,47,48,49,50,51,52,53,54,55,56,57] from rfl,List.map_cons,List.map_nil,he0,he1,he2,he3,he4,he5,he34]
  rw[hlit] at hact2
  clear hfZ hlit hv0 he0 hv1 he1 hv2 he2 hv3 he3 hv4 he4 hv5 he5 hv34 he34
  subst hact2
  go_wp2_with fail
  go_ret2
  exact⟨_,[],HR0 HR.out,by rw[HR.out];exact OwnR.none _,hst.endF⟩
 by_cases h3:(N:Int)-count<start
 ·rw[if_pos (Or.inr h3)] at hR
  have HR:=Lib.hid hR.symm
  have hle:=h2
  have HD2:=Lib.hid (decide_eq_false h2)
  have HD3:=Lib.hid (decide_eq_true h3)
  clear hR
  go_enter Tryz.func119,Tryz.ntmps119
  go_wp2_with (with_reducible (refine xba rfl rfl hst rfl ?_;clear hst;intro bb w' hst))
  obtain⟨b3,rfl⟩:∃b,b=bb:=⟨_,rfl⟩
  refine Fx.go (fun _=>false) (fun i=> !(i==1||i==5||i==10||i==12||i==17||i==19||i==21)) (fun _=>false) (List.range 25) rfl hst (by kernel_rfl) (by kernel_rfl) (by kernel_rfl) (by kernel_rfl) (by kernel_rfl) ?_
  show Fx.wpLX _ _ _ [0,1,2,3,4,5,6,7,8,9,10,11,12,13,14,15,16,17,18,19,20,21,22,23,24] _ _
  refine Fx.fa rfl rfl rfl rfl rfl rfl ?_
  refine Fx.l1 rfl rfl rfl rfl rfl rfl ?_
  refine Fx.val (v:=.bool false) rfl rfl rfl rfl (Fx.e_lss rfl rfl rfl (decide_eq_false (by omega))) ?_
  refine Fx.val (v:=.bool false) rfl rfl rfl rfl (Fx.e_mv rfl rfl) ?_
  refine Fx.fa rfl rfl rfl (by kernel_rfl) rfl rfl ?_
  refine Fx.l1 rfl rfl rfl (by kernel_rfl) rfl rfl ?_
  refine Fx.val (v:=.bool false) rfl rfl rfl (by kernel_rfl) (Fx.e_lss rfl rfl rfl (decide_eq_false (by omega))) ?_
  refine Fx.val (v:=.bool false) rfl rfl rfl rfl (Fx.e_pkF rfl rfl rfl) ?_
  refine Fx.val (v:=.bool false) rfl rfl rfl rfl (Fx.e_mv rfl rfl) ?_
  refine Fx.fa rfl rfl rfl (by kernel_rfl) rfl rfl ?_
  refine Fx.l1 rfl rfl rfl (by kernel_rfl) rfl rfl ?_
  refine Fx.val (v:=.pointer (some ⟨g,0,none⟩)) rfl rfl rfl (by kernel_rfl) (Fx.e_mv rfl rfl) ?_
  refine Fx.callB rfl rfl (fun w h=>h) (fun w h=>HLn.out w h.end) rfl (by kernel_rfl) (fun w=>by kernel_rfl) ?_
  refine Fx.val (v:=.bool false) rfl rfl rfl (by kernel_rfl) (Fx.e_gtr rfl rfl rfl HD2.out) ?_
  refine Fx.val (v:=.bool false) rfl rfl rfl rfl (Fx.e_pkF rfl rfl rfl) ?_
  refine Fx.val (v:=.bool false) rfl rfl rfl rfl (Fx.e_mv rfl rfl) ?_
  refine Fx.fa rfl rfl rfl (by kernel_rfl) rfl rfl ?_
  refine Fx.l1 rfl rfl rfl (by kernel_rfl) rfl rfl ?_
  refine Fx.val (v:=.pointer (some ⟨g,0,none⟩)) rfl rfl rfl (by kernel_rfl) (Fx.e_mv rfl rfl) ?_
  refine Fx.callB rfl rfl (fun w h=>h) (fun w h=>HLn.out w h.end) rfl (by kernel_rfl) (fun w=>by kernel_rfl) ?_
  refine Fx.fa rfl rfl rfl (by kernel_rfl) rfl rfl ?_
  refine Fx.l1 rfl rfl rfl (by kernel_rfl) rfl rfl ?_
  refine Fx.val (v:=.int .i64 ((N:Int)-count)) rfl rfl rfl (by kernel_rfl) (Fx.e_sub (m:=(N:Int)) (n:=count) rfl rfl rfl (by omega)) ?_
  refine Fx.val (v:=.bool true) rfl rfl rfl (by kernel_rfl) (Fx.e_gtr rfl rfl rfl HD3.out) ?_
  refine Fx.val (v:=.bool true) rfl rfl rfl rfl (Fx.e_pkF rfl rfl rfl) ?_
  clear hst
  intro w' hst
  generalize hact:Fx.mkO _ _=act
  have hv0:act.tmps.getD 0 undef=.pointer (some ⟨g,0,none⟩):=by rw[←hact];kernel_rfl
  have hv1:act.tmps.getD 1 undef=.agg #[.int .i64 start,.int .i64 count]:=by rw[←hact];kernel_rfl
  have hv2:act.tmps.getD 2 undef=undef:=by rw[←hact];kernel_rfl
  have hv3:act.tmps.getD 3 undef=.pointer (some ⟨b3,0,none⟩):=by rw[←hact];kernel_rfl
  have hv4:act.tmps.getD 4 undef=.slice none 0 0:=by rw[←hact];kernel_rfl
  have hv5:act.tmps.getD 5 undef=.int .i64 0:=by rw[←hact];kernel_rfl
  have hv34:act.tmps.getD 34 undef=.bool true:=by rw[←hact];kernel_rfl
  obtain⟨fZ,hfZ,hact2⟩:=act_lit act 58 (by rw[←hact];kernel_rfl) (by rw[←hact];kernel_rfl)
  clear hact
  have he0:fZ 0=.pointer (some ⟨g,0,none⟩):=(hfZ 0).symm.trans hv0
  have he1:fZ 1=.agg #[.int .i64 start,.int .i64 count]:=(hfZ 1).symm.trans hv1
  have he2:fZ 2=undef:=(hfZ 2).symm.trans hv2
  have he3:fZ 3=.pointer (some ⟨b3,0,none⟩):=(hfZ 3).symm.trans hv3
  have he4:fZ 4=.slice none 0 0:=(hfZ 4).symm.trans hv4
  have he5:fZ 5=.int .i64 0:=(hfZ 5).symm.trans hv5
  have he34:fZ 34=.bool true:=(hfZ 34).symm.trans hv34
  have hlit:(List.range 58).map fZ=(.pointer (some ⟨g,0,none⟩)::.agg #[.int .i64 start,.int .i64 count]::undef::.pointer (some ⟨b3,0,none⟩)::.slice none 0 0::.int .i64 0::fZ 6::fZ 7::fZ 8::fZ 9::fZ 10::fZ 11::fZ 12::fZ 13::fZ 14::fZ 15::fZ 16::fZ 17::fZ 18::fZ 19::fZ 20::fZ 21::fZ 22::fZ 23::fZ 24::fZ 25::fZ 26::fZ 27::fZ 28::fZ 29::fZ 30::fZ 31::fZ 32::fZ 33::.bool true::fZ 35::fZ 36::fZ 37::fZ 38::fZ 39::fZ 40::fZ 41::fZ 42::fZ 43::fZ 44::fZ 45::fZ 46::fZ 47::fZ 48::fZ 49::fZ 50::fZ 51::fZ 52::fZ 53::fZ 54::fZ 55::fZ 56::fZ 57::[]):=by simp only[show List.range 58=[0,1,2,3,4,5,6,7,8,9,10,11,12,13,14,15,16,17,18,19,20,21,22,23,24,25,26,27,28,29,30,31,32,33,34,35,36,37,38,39,40,41,42,43,44,45,46,47,48,49,50,51,52,53,54,55,56,57] from rfl,List.map_cons,List.map_nil,he0,he1,he2,he3,he4,he5,he34]
  rw[hlit] at hact2
  clear hfZ hlit hv0 he0 hv1 he1 hv2 he2 hv3 he3 hv4 he4 hv5 he5 hv34 he34
  subst hact2
  go_wp2_with fail
  go_ret2
  exact⟨_,[],HR0 HR.out,by rw[HR.out];exact OwnR.none _,hst.endF⟩
 rw[if_neg (by simp only[not_or];exact⟨h2,h3⟩)] at hR
 have HR:=Lib.hid hR.symm
 have hle:=h2
 have HD2:=Lib.hid (decide_eq_false h2)
 have HD3:=Lib.hid (decide_eq_false h3)
 clear hR
 go_enter Tryz.func119,Tryz.ntmps119
 go_wp2_with (with_reducible (refine xba rfl rfl hst rfl ?_;clear hst;intro bb w' hst))
 obtain⟨b3,rfl⟩:∃b,b=bb:=⟨_,rfl⟩
 refine Fx.go (fun _=>false) (fun i=> !(i==1||i==5||i==10||i==12||i==17||i==19||i==21)) (fun _=>false) (List.range 25) rfl hst (by kernel_rfl) (by kernel_rfl) (by kernel_rfl) (by kernel_rfl) (by kernel_rfl) ?_
 show Fx.wpLX _ _ _ [0,1,2,3,4,5,6,7,8,9,10,11,12,13,14,15,16,17,18,19,20,21,22,23,24] _ _
 refine Fx.fa rfl rfl rfl rfl rfl rfl ?_
 refine Fx.l1 rfl rfl rfl rfl rfl rfl ?_
 refine Fx.val (v:=.bool false) rfl rfl rfl rfl (Fx.e_lss rfl rfl rfl (decide_eq_false (by omega))) ?_
 refine Fx.val (v:=.bool false) rfl rfl rfl rfl (Fx.e_mv rfl rfl) ?_
 refine Fx.fa rfl rfl rfl (by kernel_rfl) rfl rfl ?_
 refine Fx.l1 rfl rfl rfl (by kernel_rfl) rfl rfl ?_
 refine Fx.val (v:=.bool false) rfl rfl rfl (by kernel_rfl) (Fx.e_lss rfl rfl rfl (decide_eq_false (by omega))) ?_
 refine Fx.val (v:=.bool false) rfl rfl rfl rfl (Fx.e_pkF rfl rfl rfl) ?_
 refine Fx.val (v:=.bool false) rfl rfl rfl rfl (Fx.e_mv rfl rfl) ?_
 refine Fx.fa rfl rfl rfl (by kernel_rfl) rfl rfl ?_
 refine Fx.l1 rfl rfl rfl (by kernel_rfl) rfl rfl ?_
 refine Fx.val (v:=.pointer (some ⟨g,0,none⟩)) rfl rfl rfl (by kernel_rfl) (Fx.e_mv rfl rfl) ?_
 refine Fx.callB rfl rfl (fun w h=>h) (fun w h=>HLn.out w h.end) rfl (by kernel_rfl) (fun w=>by kernel_rfl) ?_
 refine Fx.val (v:=.bool false) rfl rfl rfl (by kernel_rfl) (Fx.e_gtr rfl rfl rfl HD2.out) ?_
 refine Fx.val (v:=.bool false) rfl rfl rfl rfl (Fx.e_pkF rfl rfl rfl) ?_
 refine Fx.val (v:=.bool false) rfl rfl rfl rfl (Fx.e_mv rfl rfl) ?_
 refine Fx.fa rfl rfl rfl (by kernel_rfl) rfl rfl ?_
 refine Fx.l1 rfl rfl rfl (by kernel_rfl) rfl rfl ?_
 refine Fx.val (v:=.pointer (some ⟨g,0,none⟩)) rfl rfl rfl (by kernel_rfl) (Fx.e_mv rfl rfl) ?_
 refine Fx.callB rfl rfl (fun w h=>h) (fun w h=>HLn.out w h.end) rfl (by kernel_rfl) (fun w=>by kernel_rfl) ?_
 refine Fx.fa rfl rfl rfl (by kernel_rfl) rfl rfl ?_
 refine Fx.l1 rfl rfl rfl (by kernel_rfl) rfl rfl ?_
 refine Fx.val (v:=.int .i64 ((N:Int)-count)) rfl rfl rfl (by kernel_rfl) (Fx.e_sub (m:=(N:Int)) (n:=count) rfl rfl rfl (by omega)) ?_
 refine Fx.val (v:=.bool false) rfl rfl rfl (by kernel_rfl) (Fx.e_gtr rfl rfl rfl HD3.out) ?_
 refine Fx.val (v:=.bool false) rfl rfl rfl rfl (Fx.e_pkF rfl rfl rfl) ?_
 clear hst
 intro w' hst
 generalize hact:Fx.mkO _ _=act
 have hv0:act.tmps.getD 0 undef=.pointer (some ⟨g,0,none⟩):=by rw[←hact];kernel_rfl
 have hv1:act.tmps.getD 1 undef=.agg #[.int .i64 start,.int .i64 count]:=by rw[←hact];kernel_rfl
 have hv2:act.tmps.getD 2 undef=undef:=by rw[←hact];kernel_rfl
 have hv3:act.tmps.getD 3 undef=.pointer (some ⟨b3,0,none⟩):=by rw[←hact];kernel_rfl
 have hv4:act.tmps.getD 4 undef=.slice none 0 0:=by rw[←hact];kernel_rfl
 have hv5:act.tmps.getD 5 undef=.int .i64 0:=by rw[←hact];kernel_rfl
 have hv34:act.tmps.getD 34 undef=.bool false:=by rw[←hact];kernel_rfl
 obtain⟨fZ,hfZ,hact2⟩:=act_lit act 58 (by rw[←hact];kernel_rfl) (by rw[←hact];kernel_rfl)
 clear hact
 have he0:fZ 0=.pointer (some ⟨g,0,none⟩):=(hfZ 0).symm.trans hv0
 have he1:fZ 1=.agg #[.int .i64 start,.int .i64 count]:=(hfZ 1).symm.trans hv1
 have he2:fZ 2=undef:=(hfZ 2).symm.trans hv2
 have he3:fZ 3=.pointer (some ⟨b3,0,none⟩):=(hfZ 3).symm.trans hv3
 have he4:fZ 4=.slice none 0 0:=(hfZ 4).symm.trans hv4
 have he5:fZ 5=.int .i64 0:=(hfZ 5).symm.trans hv5
 have he34:fZ 34=.bool false:=(hfZ 34).symm.trans hv34
 have hlit:(List.range 58).map fZ=(.pointer (some ⟨g,0,none⟩)::.agg #[.int .i64 start,.int .i64 count]::undef::.pointer (some ⟨b3,0,none⟩)::.slice none 0 0::.int .i64 0::fZ 6::fZ 7::fZ 8::fZ 9::fZ 10::fZ 11::fZ 12::fZ 13::fZ 14::fZ 15::fZ 16::fZ 17::fZ 18::fZ 19::fZ 20::fZ 21::fZ 22::fZ 23::fZ 24::fZ 25::fZ 26::fZ 27::fZ 28::fZ 29::fZ 30::fZ 31::fZ 32::fZ 33::.bool false::fZ 35::fZ 36::fZ 37::fZ 38::fZ 39::fZ 40::fZ 41::fZ 42::fZ 43::fZ 44::fZ 45::fZ 46::fZ 47::fZ 48::fZ 49::fZ 50::fZ 51::fZ 52::fZ 53::fZ 54::fZ 55::fZ 56::fZ 57::[]):=by simp only[show List.range 58=[0,1,2,3,4,5,6,7,8,9,10,11,12,13,14,15,16,17,18,19,20,21,22,23,24,25,26,27,28,29,30,31,32,33,34,35,36,37,38,39,40,41,42,43,44,45,46,47,48,49,50,51,52,53,54,55,56,57] from rfl,List.map_cons,List.map_nil,he0,he1,he2,he3,he4,he5,he34]
 rw[hlit] at hact2
 clear hfZ hlit hv0 he0 hv1 he1 hv2 he2 hv3 he3 hv4 he4 hv5 he5 hv34 he34
 subst hact2
 go_wp2_with (with_reducible refine x1 rfl rfl rfl hst ?_)
 obtain⟨M,hM⟩:∃M:Nat,count=M:=⟨count.toNat,by omega⟩
 subst hM
 rw[Int.toNat_natCast] at HR
 go_loopw [6,37] (fun ov iv wr=>∃(k:Nat) (Lo:List Blk),k≤M∧iv=.int .i64 k∧Hid ((blkGo d start k).2=0)∧Hid (OwnR 9 1 strL Lo ov (blkGo d start k).1)∧Sx [] w wr ((b3,#[.int .i64 start,.int .i64 (M:Int)],36)::(Lo++[])) D []) (fun _ iv _=>M-(intOf iv).toNat)
 case atStart=>exact⟨0,[],Nat.zero_le _,by go_num,Lib.hid rfl,Lib.hid (OwnR.none _),hst⟩
 case round=>
  clear hst
  obtain⟨k,Lo,hk,rfl,HZ,HO,hst⟩:=hrel
  by_cases hlt:k<M
  ·have HS:blkGo d start (k+1)=if(dRead d (start+k)).2≠0 then([],(dRead d (start+k)).2) else((blkGo d start k).1++[(dRead d (start+k)).1],0):=by rw[blkGo,if_neg (by simp[HZ.out])]
   have hbl:=blkGo_len (d:=d) (start:=start) k
   have HRk:=Lib.hid (fun wx (hb:Below w.heap.size w wx)=>HRd.out (start+k) wx hb)
   generalize dRead d (start+k)=r at*
   obtain⟨da,er⟩:=r
   simp only at HS HRk
   have hown:=HO.out
   generalize (blkGo d start k).1=m at*
   obtain⟨p1,c1,rfl⟩:=hown.slice
   by_cases her:er=0
   ·subst her
    rw[if_neg (by simp)] at HS
    have HS:=Lib.hid HS
    go_wp2_with (first|(with_reducible refine x1 rfl rfl rfl hst ?_)|(with_reducible (refine callB (HRk.out _ hst.end) hst ?_;clear hst;intro w' hst))|(with_reducible refine xmk rfl 54 rfl hst #[.string da] 9 (fun b=>.slice (some ⟨b,0,none⟩) 1 1) (fun w=>by kernel_rfl) ?_;clear hst;intro b w' hst;have hst:=hst.perm (perm_kb ..))|(with_reducible refine xap1 (T:=9) rfl _ _ rfl da rfl rfl rfl hst hown rfl (by omega) ?_;clear hst;intro p4 c4 w4 Lo4 hown4 hst;have hst:=hst.perm (perm_bk ..)))
    go_roundw
    case rel=>exact⟨k+1,Lo4,by omega,by go_num,Lib.hid (by rw[HS.out]),Lib.hid (by rw[HS.out];exact hown4),hst⟩
    case measure=>simp[intOf];omega
   ·rw[if_pos her] at HS
    have HR2:Hid (R=([],er)):=Lib.hid (by
     have h1:=blkGo_stay (d:=d) (start:=start) (k:=k+1) (by rw[HS];exact her) (M-(k+1))
     rw[show k+1+(M-(k+1))=M by omega,HS] at h1
     rw[HR.out,h1])
    clear HS
    go_wp2_with (first|(with_reducible refine x1 rfl rfl rfl hst ?_)|(with_reducible (refine callB (HRk.out _ hst.end) hst ?_;clear hst;intro w' hst)))
    go_ret2
    exact⟨_,[],HR0 HR2.out,by rw[HR2.out];exact OwnR.none _,hst.endF⟩
  ·obtain rfl:k=M:=by omega
   have hown:=HO.out
   obtain⟨p1,c1,rfl⟩:=hown.slice
   have HR2:Hid (R=((blkGo d start k).1,0)):=Lib.hid (by rw[HR.out,←HZ.out])
   generalize (blkGo d start k).1=m at*
   go_wp2_with fail
   go_ret2
   exact⟨_,Lo,HR0 HR2.out,by rw[HR2.out];exact hown,by simpa using hst.drop.st⟩
end Go.Proofs.YtdkeiefgkgpcbaaGreatDoor
