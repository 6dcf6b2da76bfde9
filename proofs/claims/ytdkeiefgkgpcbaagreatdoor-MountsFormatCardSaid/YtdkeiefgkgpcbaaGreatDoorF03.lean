/- Steps of the proof: ChainP. -/
import Derived.Test.YtdkeiefgkgpcbaaGreatDoorF02
set_option linter.unusedVariables false
set_option linter.unusedSimpArgs false
set_option maxRecDepth 100000
namespace Go.Proofs.YtdkeiefgkgpcbaaGreatDoor
open Go.RowKit
theorem partB_all (s:List UInt8):∀n,(List.range n).flatMap (partB s)=s.take (112*n)
 |0=>by simp
 |n+1=>by
  rw[List.range_succ,List.flatMap_append,partB_all s n,Nat.mul_add,Nat.mul_one,List.take_add]
  simp[partB]
theorem frCk {kind ep:Int} {s:List UInt8} {i:Nat} (hk:kind=68∨kind=80∨kind=83) (he:1≤ep∧ep≤1073741824) (hi:i≤65535):frCheck ⟨kind,ep,i,mkS (partB s i)⟩=0:=by
 unfold frCheck
 rw[if_pos hk,if_neg (by simp only;omega),if_neg]
 have:(partB s i).length≤112:=by unfold partB;rw[List.length_take];omega
 simp only[size_mkS]
 omega
theorem joinGo_spl {kind ep:Int} {s:List UInt8} {n:Nat} (hk:kind=68∨kind=80∨kind=83) (he:1≤ep∧ep≤1073741824) (hn:(n:Int)=pkCount s.length) (hs:s.length≤1000000):
  ∀(m i:Nat) (acc:List UInt8),i+m=n→joinGo kind ep n i ((List.range' i m).map (splB kind ep s)) acc=some (acc++(List.range' i m).flatMap (partB s))
 |0,i,acc,_=>by simp[joinGo]
 |m+1,i,acc,h=>by
  have hp:(partB s i).length=min 112 (s.length-112*i):=by unfold partB;rw[List.length_take,List.length_drop]
  have hn':(n:Int)=max 1 ((s.length:Int) / 112+min 1 ((s.length:Int)%112)):=by rw[hn];unfold pkCount;rw[if_neg (by omega)]
  have hi:i≤65535:=by omega
  have hb:ls (splB kind ep s i)=(frEnc ⟨kind,ep,i,mkS (partB s i)⟩).1:=by unfold splB;rw[ls_mkS]
  have hj:joinBad kind ep n i (⟨kind,ep,i,mkS (partB s i)⟩,0)=false:=by
   unfold joinBad
   simp only[size_mkS,ne_eq,not_true_eq_false,decide_false,Bool.false_or,Bool.or_eq_false_iff,Bool.and_eq_false_iff,Bool.not_eq_false',decide_eq_true_eq,decide_eq_false_iff_not]
   constructor
   ·by_cases h1:i+1=n
    ·exact Or.inr (by omega)
    ·exact Or.inl (decide_eq_true (by omega))
   ·by_cases h1:i=0
    ·exact Or.inr (by omega)
    ·refine Or.inl ?_
     cases hq:((mkS (partB s i)).toList==noS.toList) with
     |false=>rfl
     |true=>
      have h2:=toList_inj (eq_of_beq hq)
      have h3:=congrArg ByteArray.size h2
      rw[size_mkS] at h3
      have h4:noS.size=0:=rfl
      omega
  rw[List.range'_succ,List.map_cons,List.flatMap_cons]
  unfold joinGo
  rw[hb,frDec_enc (frCk hk he hi),hj]
  simp only[Bool.false_eq_true,if_false]
  rw[joinGo_spl hk he hn hs m (i+1) _ (by omega)]
  simp only[ls_mkS,List.append_assoc]
theorem joinF_spl {kind ep:Int} {s:List UInt8} (hk:kind=68∨kind=80∨kind=83) (he:1≤ep∧ep≤1073741824) (hs:s.length≤1000000):joinF kind ep (splL kind ep s)=(s,0):=by
 have hl:=splL_length kind ep s
 have h1:1≤pkCount s.length:=by unfold pkCount;rw[if_neg (by omega)];omega
 obtain⟨n,hn⟩:∃n,(splL kind ep s).length=n:=⟨_,rfl⟩
 have hg:=joinGo_spl (n:=n) hk he (by rw[←hn];exact hl) hs n 0 [] (by omega)
 have hr:splL kind ep s=(List.range' 0 n).map (splB kind ep s):=by
  unfold splL at hn ⊢
  rw[List.length_map,List.length_range] at hn
  rw[hn,List.range_eq_range']
 unfold joinF
 rw[hn,if_neg (by omega),hr,hg]
 simp only[List.nil_append]
 rw[←List.range_eq_range',partB_all,List.take_of_length_le]
 have:(n:Int)=max 1 ((s.length:Int) / 112+min 1 ((s.length:Int)%112)):=by rw[←hn,hl];unfold pkCount;rw[if_neg (by omega)]
 omega
structure CmOk (last:Option Sl) (c:Cm):Prop where
 n:c.sl.n=lastN last
 ok:slOk c.sl=true
 fol:slFol c.sl last=true
 pos:0≤c.start
 parts:∃A tx,c.blocks=A++(splL 68 c.sl.n tx++[mkS (slBlk c.sl).1])∧(∀b∈A++splL 68 c.sl.n tx,(slOf b).2≠0)∧c.sl.start=c.start+A.length∧c.sl.len=tx.length∧c.sl.content=shaF tx∧c.sl.count=pkCount tx.length∧encF c.ents=(tx,0)
 hash:∀e∈c.ents,e.hash.length=32
 name:∀e∈c.ents,e.name.size≤maxLen
theorem lay_name (s:Int):∀(l:List Pu) (n:Int),(∀x∈l,x.e.Wf)→∀e∈(lay s n l).1,e.name.size≤maxLen
 | [],n,_=>by simp[lay]
 |p::l,n,h=>by
  intro e he
  simp only[lay,List.mem_cons] at he
  rcases he with rfl |he
  ·have:=(h p (by simp)).name
   unfold layE maxLen
   split
   ·simp only;omega
   ·omega
  ·exact lay_name s l _ (fun x hx=>h x (by simp[hx])) e he
theorem make_fol {last:Option Sl} {clock:Int} {l:List Pu} {start:Int} (h:makeErr last clock l start=0):slFol (mkSl last clock l start) last=true:=by
 unfold makeErr at h
 split at h
 ·rename_i h1;exact absurd h h1
 ·split at h
  ·cases h
  ·split at h
   ·rename_i h2;exact absurd h h2
   ·split at h
    ·rename_i h3
     rw[Bool.and_eq_true] at h3
     exact h3.2
    ·cases h
theorem splL_other {kind ep:Int} {s:List UInt8} (hk:kind=68∨kind=80) (he:1≤ep∧ep≤1073741824) (hs:s.length≤1000000):∀b∈splL kind ep s,(slOf b).2≠0:=by
 intro b hb
 have h2:(splL kind ep s).length≤10000:=splL_len kind ep s hs
 unfold splL at hb h2
 obtain⟨i,hi,rfl⟩:=List.mem_map.1 hb
 rw[List.length_map,List.length_range] at h2
 have:=List.mem_range.1 hi
 unfold splB
 exact slOf_other (frCk (by omega) he (by omega)) (by simp only;omega)
theorem comC_ok {d:Dv} {last:Option Sl} {i:Nat} {l:List Pu} (h:makeErr last i l (comAt d l)=0) (hp:0≤comAt d l) (hl:l.length≤5) (hw:∀x∈l,x.e.Wf) (ht:∀x∈l,x.text.size≤999999):CmOk last (comC d last i l):=by
 obtain⟨hn,hx,hok⟩:=make_parts h
 have hso:=(slOk_iff _).1 hok
 have he:1≤lastN last∧lastN last≤1073741824:=⟨hso.1,hso.2.1⟩
 have hck:chkF l=0:=by
  by_cases hc:chkF l=0
  ·exact hc
  ·unfold needF at hn;rw[if_pos hc] at hn;exact absurd hn hc
 refine⟨rfl,hok,make_fol h,hp,⟨putBlocks (lastN last) l,(mkTx l (comAt d l)).1,rfl,?_,?_,rfl,rfl,rfl,?_⟩,lay_hash _ l 0 hw,lay_name _ l 0 hw⟩
 ·intro b hb
  rcases List.mem_append.1 hb with hb |hb
  ·unfold putBlocks at hb
   obtain⟨x,hx,hb⟩:=List.mem_flatMap.1 hb
   split at hb
   ·exact splL_other (Or.inr rfl) he (by rw[ls_length];have:=ht x hx;omega) b hb
   ·cases hb
  ·exact splL_other (Or.inl rfl) he (mkTx_big hl hw) b hb
 ·show comAt d l+(lay (comAt d l) 0 l).2=comAt d l+(putBlocks (lastN last) l).length
  rw[putBlocks_count (lastN last) (comAt d l) l 0 (chk_len hck)]
  omega
 ·show mkTx l (comAt d l)=_
  exact Prod.ext (by rfl) hx
theorem seal_of {s:Sl} (h:slOk s=true):slOf (mkS (slBlk s).1)=(nS s,0):=by
 refine slOf_blk h ?_
 have hso:=(slOk_iff _).1 h
 have h1:=hso.1
 have h2:=hso.2.1
 unfold frCheck
 have:=slTxt_size s
 rw[if_pos (Or.inr (Or.inr rfl)),if_neg (by simp only;omega),if_neg (by simp only;omega)]
theorem dPut_now {d:Dv} {k:Nat} {b:ByteArray} (j:Nat) (hk:k<d.now.length):(dPut d (.write k b)).now.getD j b0=if j=k then⟨1,b⟩ else d.now.getD j b0:=by
 unfold dPut Ac.at_ doneF
 simp only[Int.toNat_natCast,List.getD_eq_getElem?_getD,List.getElem?_set]
 by_cases hj:k=j
 ·subst hj;simp[hk]
 ·rw[if_neg hj,if_neg (Ne.symm hj)]
theorem dState_lt {d:Dv} {k:Nat} (h:dState d k=0):k<d.now.length∧(d.now.getD k b0).st=0:=by
 unfold dState at h
 split at h
 ·cases h
 ·exact⟨by omega,h⟩
theorem cwGo_now (start last:Nat):∀(l:List ByteArray) (i:Nat) (d:Dv),Good d→(∀b∈l,b.size=128)→(∀k:Nat,start+i≤k→k<start+i+l.length→dState d k=0)→
  (cwGo start last i l d).1.now.length=d.now.length∧(∀k,k<start+i∨start+i+l.length≤k→(cwGo start last i l d).1.now.getD k b0=d.now.getD k b0)∧
  ∀j (h:j<l.length),(cwGo start last i l d).1.now.getD (start+i+j) b0=⟨1,l[j]⟩
 | [],i,d,h,_,_=>by
  unfold cwGo
  rw[h.flush]
  exact⟨rfl,fun _ _=>rfl,fun j h=>by cases h⟩
 |b::l,i,d,h,hl,hs=>by
  obtain⟨d2,hd2,hg2,hn2⟩:∃d2,(if i=last then dFlush d else(d,0))=(d2,0)∧Good d2∧d2.now=d.now:=by
   split
   ·exact⟨_,h.flush,⟨h.off,h.left⟩,rfl⟩
   ·exact⟨d,rfl,h,rfl⟩
  have hs2:∀k,dState d2 k=dState d k:=fun k=>by unfold dState;rw[hn2]
  have hs0:=dState_lt (hs (start+i) (by omega) (by simp only[List.length_cons];omega))
  have hw:dWrite d2 ((start:Int)+i) b=(dPut d2 (.write ((start+i:Nat):Int) b),0):=by
   have:=hg2.write (k:=start+i) (b:=b) (hl b (by simp)) (by rw[hs2];exact hs _ (by omega) (by simp only[List.length_cons];omega))
   rw[←this]
   push_cast
   rfl
  have hp:=fun j=>dPut_now (d:=d2) (k:=start+i) (b:=b) j (by rw[hn2];exact hs0.1)
  have ih:=cwGo_now start last l (i+1) (dPut d2 (.write ((start+i:Nat):Int) b)) (hg2.put _) (fun b hb=>hl b (by simp[hb])) (fun k hk hk2=>by
   rw[dState_put (by omega),hs2]
   exact hs k (by omega) (by simp only[List.length_cons];omega))
  unfold cwGo
  rw[hd2]
  simp only[hw,ne_eq,not_true_eq_false,if_false]
  obtain⟨i1,i2,i3⟩:=ih
  refine⟨?_,fun k hk=>?_,fun j hj=>?_⟩
  ·rw[i1];unfold dPut;simp only[List.length_set,hn2]
  ·rw[i2 k (by simp only[List.length_cons] at hk;omega),hp,if_neg (by simp only[List.length_cons] at hk;omega),hn2]
  ·cases j with
   |zero=>rw[i2 _ (by omega),hp,if_pos (by omega)];rfl
   |succ j=>
    have:=i3 j (by simpa using hj)
    rw[show start+i+(j+1)=start+(i+1)+j by omega,this]
    rfl
def Dull (b:Bk):Prop:=0≤b.st∧(b.st≠0→b.st≠2→(slOf b.data).2≠0)
theorem Dull.blank {b:Bk} (h:b.st=0):Dull b:=⟨by omega,fun h1=>absurd h h1⟩
structure Inv (d:Dv) (cs:List Cm):Prop where
 off:d.off=false
 ok:∀j (h:j<cs.length),CmOk (lastS (cs.take j)) cs[j]
 has:∀c∈cs,∀i (h:i<c.blocks.length),d.now.getD (c.start.toNat+i) b0=⟨1,c.blocks[i]⟩∧c.start.toNat+i<d.now.length
 els:∀k,k<d.now.length→Dull (d.now.getD k b0)∨∃c∈cs,∃i,i<c.blocks.length∧k=c.start.toNat+i
theorem Inv.step {d:Dv} {cs:List Cm} (h:Inv d cs) (hG:Good d) {i:Nat} {l:List Pu} (hno:comNo d (lastS cs) i l=false) (hl:l.length≤5) (hw:∀x∈l,x.e.Wf) (ht:∀x∈l,x.text.size≤999999):
  Good (comD d (comC d (lastS cs) i l))∧Inv (comD d (comC d (lastS cs) i l)) (cs++[comC d (lastS cs) i l]):=by
 unfold comNo at hno
 simp only[Bool.or_eq_false_iff,Bool.not_eq_false',decide_eq_false_iff_not,ne_eq,Decidable.not_not] at hno
 obtain⟨⟨hn,hp⟩,hm⟩:=hno
 obtain⟨h1,h2,h3⟩:=placeF_blank hp
 have hmg:=make_good hm ht (mkTx_big hl hw)
 have hg:=cWrite_good hG hp hmg.1 hmg.2
 have hok:=comC_ok (d:=d) hm h2 hl hw ht
 obtain⟨s,hs⟩:=Int.eq_ofNat_of_zero_le h2
 rw[hs] at h3
 obtain⟨c,hc⟩:∃c,comC d (lastS cs) i l=c:=⟨_,rfl⟩
 have hcb:c.blocks=makeB (lastS cs) i l (comAt d l):=by rw[←hc];rfl
 have hcs:c.start=s:=by rw[←hc];exact hs
 have hcc:c.count=c.blocks.length:=by rw[hcb,←hmg.1,←hc];rfl
 have hcw:comD d c=(cwGo (s:Nat) (c.blocks.length-1) 0 c.blocks d).1:=by
  unfold comD cWrite
  rw[if_neg (by rw[hcc];have h9:c.count=(needF l).1:=(by rw[←hc];rfl);omega),hcs]
 have hgd:Good (comD d c):=by
  unfold comD
  rw[←hc]
  exact hg.2.1
 rw[hc] at hok ⊢
 have hcl:((c.blocks.length:Nat):Int)=(needF l).1:=by rw[←hcc,←hc];rfl
 obtain⟨n1,n2,n3⟩:=cwGo_now s (c.blocks.length-1) c.blocks 0 d hG (by rw[hcb];exact hmg.2) (fun k hk hk2=>h3 k (by omega) (by omega))
 rw[←hcw] at n1 n2 n3
 have hcst:c.start.toNat=s:=by rw[hcs];rfl
 refine⟨hgd,hgd.off,fun j hj=>?_,fun x hx k hk=>?_,fun k hk=>?_⟩
 ·by_cases hlt:j<cs.length
  ·rw[List.getElem_append_left hlt,List.take_append_of_le_length (by omega)]
   exact h.ok j hlt
  ·have:j=cs.length:=by rw[List.length_append,List.length_singleton] at hj;omega
   subst this
   simp only[List.getElem_append_right (Nat.le_refl _),Nat.sub_self,List.getElem_cons_zero]
   rw[List.take_append_of_le_length (by omega),List.take_length]
   exact hok
 ·rcases List.mem_append.1 hx with hx |hx
  ·obtain⟨e1,e2⟩:=h.has x hx k hk
   refine⟨?_,by rw[n1];exact e2⟩
   rw[n2,e1]
   by_cases hin:s≤x.start.toNat+k∧x.start.toNat+k<s+c.blocks.length
   ·have:=(dState_lt (h3 (x.start.toNat+k) (by omega) (by omega))).2
    rw[e1] at this
    cases this
   ·omega
  ·obtain rfl:=List.mem_singleton.1 hx
   rw[hcst]
   have:=n3 k hk
   rw[Nat.add_zero] at this
   refine⟨this,?_⟩
   rw[n1]
   exact(dState_lt (h3 (s+k) (by omega) (by omega))).1
 ·rw[n1] at hk
  by_cases hin:s≤k∧k<s+c.blocks.length
  ·exact Or.inr ⟨c,by simp,k-s,by omega,by omega⟩
  ·rw[n2 k (by omega)]
   rcases h.els k hk with h4 |⟨x,hx,j,hj,e⟩
   ·exact Or.inl h4
   ·exact Or.inr ⟨x,by simp[hx],j,hj,e⟩
section
variable {d:Dv} {cs:List Cm} (h:Inv d cs)
include h
theorem Inv.read {k:Nat} (hk:k<d.now.length):dRead d k=if(d.now.getD k b0).st=0 then(noS,41) else if(d.now.getD k b0).st=2 then(noS,42) else((d.now.getD k b0).data,0):=by
 have hb:dBlock d k=0:=by
  unfold dBlock
  rw[show dOn d=0 by unfold dOn;rw[h.off];rfl]
  have h0:0≤dState d k:=by
   unfold dState
   rw[if_neg (by omega)]
   show 0≤(d.now.getD k b0).st
   rcases h.els k hk with h0 |⟨c,hc,i,hi,rfl⟩
   ·exact h0.1
   ·rw[(h.has c hc i hi).1]
    show(0:Int)≤1
    decide
  rw[if_neg (by omega)]
 have hst:dState d k=(d.now.getD k b0).st:=by unfold dState;rw[if_neg (by omega)];rfl
 unfold dRead
 rw[hb,hst]
 rfl
theorem Inv.num:∀j (hj:j<cs.length),(cs[j]).sl.n=(j:Int)+1
 |0,hj=>by
  rw[(h.ok 0 hj).n]
  rfl
 |j+1,hj=>by
  have h1:=Inv.num j (by omega)
  rw[(h.ok (j+1) hj).n]
  unfold lastS
  rw[List.getLast?_take]
  simp only[Nat.add_one_ne_zero,if_false,Nat.add_sub_cancel,List.getElem?_eq_getElem (show j<cs.length by omega),Option.some_or,Option.or_some,Option.map_some,Option.getD_some]
  unfold lastN
  simp only[h1]
  push_cast
  rfl
theorem Inv.fnd {f:Fnd} (hf:f∈fnds d d.now.length):∃c∈cs,f.s=nS c.sl:=by
 unfold fnds at hf
 obtain⟨k,hk,hf⟩:=List.mem_flatMap.1 hf
 have hk:=List.mem_range.1 hk
 unfold fndAt at hf
 split at hf
 ·rename_i hr
  obtain rfl:=List.mem_singleton.1 hf
  rcases h.els k hk with h0 |⟨c,hc,i,hi,rfl⟩
  ·rw[h.read hk] at hr
   split at hr
   ·exact absurd hr.1 (by simp)
   ·split at hr
    ·exact absurd hr.1 (by simp)
    ·rename_i a1 a2
     exact absurd hr.2 (h0.2 a1 a2)
  ·refine⟨c,hc,?_⟩
   obtain⟨e1,_⟩:=h.has c hc i hi
   rw[h.read hk,e1] at hr ⊢
   simp only[show ¬((1:Int)=0) by omega,show ¬((1:Int)=2) by omega,if_false] at hr ⊢
   obtain⟨j,hj,rfl⟩:=List.mem_iff_getElem.1 hc
   obtain⟨A,tx,hb,ho,_⟩:=(h.ok j hj).parts
   have hmem:(cs[j]).blocks[i]∈(A++splL 68 (cs[j]).sl.n tx)++[mkS (slBlk (cs[j]).sl).1]:=by simp only[List.append_assoc,←hb];exact List.getElem_mem hi
   rcases List.mem_append.1 hmem with hm |hm
   ·exact absurd hr.2 (ho _ hm)
   ·rw[List.mem_singleton.1 hm,seal_of (h.ok j hj).ok]
 ·cases hf
theorem Inv.found {j:Nat} (hj:j<cs.length):∃f∈fnds d d.now.length,f.s=nS (cs[j]).sl:=by
 obtain⟨A,tx,hb,_⟩:=(h.ok j hj).parts
 have hl:(A++splL 68 (cs[j]).sl.n tx).length<(cs[j]).blocks.length:=by rw[hb,←List.append_assoc,List.length_append (bs:=[_])];simp
 obtain⟨e1,e2⟩:=h.has _ (List.getElem_mem hj) _ hl
 have hx:(cs[j]).blocks[(A++splL 68 (cs[j]).sl.n tx).length]=mkS (slBlk (cs[j]).sl).1:=by
  have h1:(cs[j]).blocks[(A++splL 68 (cs[j]).sl.n tx).length]? =some (mkS (slBlk (cs[j]).sl).1):=by
   rw[hb,←List.append_assoc,List.getElem?_append_right (Nat.le_refl _)]
   simp
  rw[List.getElem?_eq_getElem hl] at h1
  exact Option.some.inj h1
 obtain⟨k,hk⟩:∃k,(cs[j]).start.toNat+(A++splL 68 (cs[j]).sl.n tx).length=k:=⟨_,rfl⟩
 rw[hx] at e1
 rw[hk] at e1 e2
 have hr:=h.read e2
 rw[e1] at hr
 simp only[show ¬((1:Int)=0) by omega,show ¬((1:Int)=2) by omega,if_false] at hr
 refine⟨⟨nS (cs[j]).sl,k⟩,?_,rfl⟩
 unfold fnds
 refine List.mem_flatMap.2 ⟨k,List.mem_range.2 e2,?_⟩
 unfold fndAt
 rw[hr,seal_of (h.ok j hj).ok]
 simp
theorem Inv.same {f:Fnd} (hf:f∈fnds d d.now.length) {j:Nat} (hn:f.s.n=(j:Int)+1):∃hj:j<cs.length,f.s=nS (cs[j]).sl:=by
 obtain⟨c,hc,hs⟩:=h.fnd hf
 obtain⟨i,hi,rfl⟩:=List.mem_iff_getElem.1 hc
 have h1:=h.num i hi
 rw[hs] at hn
 have h2:(cs[i]).sl.n=(j:Int)+1:=hn
 obtain rfl:i=j:=by omega
 exact⟨hi,hs⟩
theorem Inv.next_some {j:Nat} (hj:j<cs.length):∃f,chainNext (fnds d d.now.length) ((j:Int)+1) ((lastS (cs.take j)).map nS)=some f∧f.s=nS (cs[j]).sl:=by
 obtain⟨f,hf,hs⟩:=h.found hj
 have hn:f.s.n=(j:Int)+1:=by rw[hs];exact h.num j hj
 unfold chainNext
 cases hq:((fnds d d.now.length).filter (fun f=>f.s.n=(j:Int)+1)).find? (fun f=>slFol f.s ((lastS (cs.take j)).map nS)) with
 |none=>
  have:=List.find?_eq_none.1 hq f (List.mem_filter.2 ⟨hf,by simpa using hn⟩)
  rw[hs,slFol_nS,(h.ok j hj).fol] at this
  exact absurd rfl this
 |some f'=>
  obtain⟨h1,h2⟩:=List.mem_filter.1 (List.mem_of_find?_eq_some hq)
  obtain⟨_,h3⟩:=h.same h1 (by simpa using h2)
  exact⟨f',rfl,h3⟩
theorem Inv.next_none {j:Nat} (hj:cs.length≤j) (last:Option Sl):chainNext (fnds d d.now.length) ((j:Int)+1) last=none:=by
 unfold chainNext
 cases hq:((fnds d d.now.length).filter (fun f=>f.s.n=(j:Int)+1)).find? (fun f=>slFol f.s last) with
 |none=>rfl
 |some f'=>
  obtain⟨h1,h2⟩:=List.mem_filter.1 (List.mem_of_find?_eq_some hq)
  obtain⟨h3,_⟩:=h.same h1 (by simpa using h2)
  omega
omit h in
theorem lastS_succ {cs:List Cm} {j:Nat} (hj:j<cs.length):lastS (cs.take (j+1))=some (cs[j]).sl:=by
 unfold lastS
 rw[List.getLast?_take]
 simp[List.getElem?_eq_getElem hj]
theorem Inv.chainGo_eq:∀(k j:Nat),cs.length-j≤k→(chainGo (fnds d d.now.length) k ((j:Int)+1) ((lastS (cs.take j)).map nS)).map (·.s)=(cs.drop j).map (fun c=>nS c.sl)
 |0,j,hk=>by
  rw[List.drop_eq_nil_of_le (by omega)]
  rfl
 |k+1,j,hk=>by
  unfold chainGo
  by_cases hj:j<cs.length
  ·obtain⟨f,h1,h2⟩:=h.next_some hj
   have ih:=Inv.chainGo_eq k (j+1) (by omega)
   rw[lastS_succ hj,Option.map_some,←h2] at ih
   push_cast at ih
   rw[h1,List.drop_eq_getElem_cons hj]
   show(f::chainGo _ k _ (some f.s)).map (·.s)=_
   rw[List.map_cons,List.map_cons,ih,h2]
  ·rw[h.next_none (by omega),List.drop_eq_nil_of_le (by omega)]
   rfl
theorem Inv.left:∀(m j:Nat),j+m=cs.length→m≤leftN (fnds d d.now.length) ((j:Int)+1)
 |0,_,_=>Nat.zero_le _
 |m+1,j,hm=>by
  obtain⟨f,hf,hs⟩:=h.found (show j<cs.length by omega)
  have h1:=leftN_lt hf (n:=(j:Int)+1) (by rw[hs];exact h.num j (by omega))
  have ih:=Inv.left m (j+1) (by omega)
  push_cast at ih
  omega
theorem Inv.chain:(chainF d).map (·.s)=cs.map (fun c=>nS c.sl):=by
 have h1:=h.left cs.length 0 (by omega)
 exact h.chainGo_eq (leftN (fnds d d.now.length) 1+1) 0 (by simp only[Int.natCast_zero,Int.zero_add] at h1;omega)
omit h in
theorem blkGo_has {d:Dv} {start:Nat} {l:List ByteArray} (h:∀i (hi:i<l.length),dRead d ((start:Int)+i)=(l[i],0)):∀k,k≤l.length→blkGo d start k=(l.take k,0)
 |0,_=>rfl
 |k+1,hk=>by
  have ih:=blkGo_has h k (by omega)
  unfold blkGo
  rw[ih,h k (by omega)]
  simp only[ne_eq,not_true_eq_false,if_false]
  rw[List.take_succ_eq_append_getElem (by omega)]
theorem Inv.ents {j:Nat} (hj:j<cs.length):entriesF d (nS (cs[j]).sl)=((cs[j]).ents,0):=by
 have hm:=List.getElem_mem hj
 have ho:=h.ok j hj
 obtain⟨c,hc⟩:∃c,cs[j]=c:=⟨_,rfl⟩
 rw[hc] at hm ho ⊢
 obtain⟨A,tx,hb,_,h1,h2,h3,h4,h5⟩:=ho.parts
 have hso:=(slOk_iff _).1 ho.ok
 have htx:tx.length≤57344:=by have:=hso.2.2.2.2.2.1;omega
 have hn:1≤c.sl.n∧c.sl.n≤1073741824:=⟨hso.1,hso.2.1⟩
 have hsl:=splL_length 68 c.sl.n tx
 obtain⟨L,hL⟩:∃L,splL 68 c.sl.n tx=L:=⟨_,rfl⟩
 have hjn:=joinF_spl (kind:=68) (ep:=c.sl.n) (s:=tx) (Or.inl rfl) hn (by omega)
 rw[hL] at hb hsl hjn
 have hlen:c.blocks.length=A.length+L.length+1:=by rw[hb];simp;omega
 have hst:c.sl.start=((c.start.toNat+A.length:Nat):Int):=by have:=ho.pos;omega
 have hrd:∀i (hi:i<L.length),dRead d (((c.start.toNat+A.length:Nat):Int)+i)=(L[i],0):=by
  intro i hi
  obtain⟨e1,e2⟩:=h.has c hm (A.length+i) (by omega)
  have hx:c.blocks[A.length+i]'(by omega)=L[i]:=by
   have h6:c.blocks[A.length+i]? =some L[i]:=by
    rw[hb,List.getElem?_append_right (by omega),List.getElem?_append_left (by omega)]
    simp[hi]
   rw[List.getElem?_eq_getElem (by omega)] at h6
   exact Option.some.inj h6
  rw[hx] at e1
  have:=h.read e2
  rw[e1] at this
  rw[show(((c.start.toNat+A.length:Nat):Int)+i)=((c.start.toNat+(A.length+i):Nat):Int) by push_cast;omega,this]
  rfl
 have hfit:=(h.has c hm (A.length+L.length) (by omega)).2
 have hblk:blocksF d (nS c.sl).start (nS c.sl).count=(L,0):=by
  show blocksF d c.sl.start c.sl.count=(L,0)
  unfold blocksF
  rw[hst,h4,←hsl,if_neg (by omega),Int.toNat_natCast,blkGo_has hrd _ (Nat.le_refl _),List.take_length]
 have hby:bytesF d (nS c.sl)=(tx,0):=by
  unfold bytesF
  rw[slOk_nS,ho.ok,hblk]
  have hjn':joinF 68 (nS c.sl).n L=(tx,0):=hjn
  simp only[hjn',Bool.true_eq_false,if_false,ne_eq,not_true_eq_false,decide_false,Bool.false_or]
  rw[show(nS c.sl).len=tx.length from h2,show(nS c.sl).content=h32 (shaF tx) by unfold nS;simp only[h3],h32_h32]
  simp
 have hdec:=dec_enc (more:=[]) h5 ho.hash
 rw[List.append_nil,if_pos rfl] at hdec
 unfold entriesF
 rw[hby]
 simp only[ne_eq,not_true_eq_false,if_false,hdec]
def cmFold:List Cm→Tt→Option Tt
 | [],t=>some t
 |c::cs,t=>if(allTt t c.ents c.sl.clock).2=0 then cmFold cs (allTt t c.ents c.sl.clock).1 else none
theorem Inv.loadGo_eq:∀(m j:Nat),j+m=cs.length→∀t,loadGo d ((cs.drop j).map fun c=>nS c.sl) t=cmFold (cs.drop j) t
 |0,j,hm,t=>by
  rw[List.drop_eq_nil_of_le (by omega)]
  rfl
 |m+1,j,hm,t=>by
  have hj:j<cs.length:=by omega
  rw[List.drop_eq_getElem_cons hj,List.map_cons]
  unfold loadGo cmFold
  rw[h.ents hj]
  simp only[if_true]
  rw[show(nS (cs[j]).sl).clock=(cs[j]).sl.clock from rfl]
  split
  ·exact Inv.loadGo_eq m (j+1) (by omega) _
  ·rfl
def cmRes (cs:List Cm):Tt×Sl×Int:=if cs=[] then(tt0,sl0,4) else match cmFold cs tt0 with
  |none=>(tt0,sl0,210)
  |some t=>(t,(cs.map fun c=>nS c.sl).getD (cs.length-1) sl0,0)
theorem Inv.load:loadF d=cmRes cs:=by
 have hc:=h.chain
 have hlen:(chainF d).length=cs.length:=by rw[←List.length_map (f:=(·.s)),hc,List.length_map]
 unfold loadF cmRes
 rw[h.off,hc,hlen]
 simp only[Bool.false_eq_true,if_false]
 by_cases h0:cs=[]
 ·rw[if_pos h0,if_pos (List.length_eq_zero_iff.1 (by rw[hlen,h0];rfl))]
 ·rw[if_neg h0,if_neg (fun h1=>h0 (List.length_eq_zero_iff.1 (by rw[←hlen,h1];rfl)))]
  have:=h.loadGo_eq cs.length 0 (by omega) tt0
  rw[List.drop_zero] at this
  rw[this]
  cases cmFold cs tt0<;>rfl
end
end Go.Proofs.YtdkeiefgkgpcbaaGreatDoor
