/- Steps of the proof: Good, Beyond, Commits. -/
import Derived.Test.YtdkeiefgkgpcbaaGreatDoorP25
set_option linter.unusedVariables false
set_option linter.unusedSimpArgs false
set_option maxRecDepth 100000
namespace Go.Proofs.YtdkeiefgkgpcbaaGreatDoor
open Go.RowKit
def BR (S:List Int) (r:Rn):Prop:=0≤r.s∧∀k:Nat,r.s≤k→(k:Int)<r.s+r.c→S[k]? =some 0
theorem freeGo_blank (S:List Int):∀(l:List Int) (i:Nat) (f:Int) (out:List Rn),S.drop i=l→(0≤f→∀k:Nat,f≤k→k<i→S[k]? =some 0)→(∀r∈out,BR S r)→∀r∈freeGo i f l out,BR S r
 | [],_,_,_,_,_,h=>h
 |s::l,i,f,out,hd,hf,h=>by
  have hi:S[i]? =some s:=by
   have:=congrArg (·[0]?) hd
   simpa[List.getElem?_drop] using this
  have hd':S.drop (i+1)=l:=by
   have:=congrArg List.tail hd
   simpa[List.tail_drop] using this
  unfold freeGo
  split
  ·rename_i h1
   refine freeGo_blank S l (i+1) i out hd' (fun _ k hk hk2=>?_) h
   obtain rfl:k=i:=by omega
   rw[hi,h1.1]
  ·split
   ·rename_i h1 h2
    refine freeGo_blank S l (i+1) (-1) _ hd' (by omega) (fun r hr=>?_)
    rcases List.mem_append.1 hr with hr |hr
    ·exact h r hr
    ·obtain rfl:=List.mem_singleton.1 hr
     exact⟨h2.2,fun k hk hk2=>hf h2.2 k hk (by simp only at hk2;omega)⟩
   ·rename_i h1 h2
    refine freeGo_blank S l (i+1) f out hd' (fun h0 k hk hk2=>?_) h
    by_cases hki:k=i
    ·subst hki
     have:s=0:=by
      by_cases hs:s=0
      ·exact hs
      ·exact absurd ⟨hs,h0⟩ h2
     rw[hi,this]
    ·exact hf h0 k hk (by omega)
theorem rTake_true {l:List Rn} {n:Int} (h:(rTake l n).2=true):1≤n∧∃r∈l,n≤r.c∧(rTake l n).1.s=r.s:=by
 unfold rTake at h ⊢
 split at h
 ·cases h
 ·rename_i h1
  rw[if_neg h1]
  refine⟨by omega,?_⟩
  split at h
  ·cases h
  ·rename_i i hi
   obtain⟨hlt,hp,_⟩:=List.findIdx?_eq_some_iff_getElem.1 hi
   refine⟨l[i],List.getElem_mem hlt,by simpa using hp,?_⟩
   simp[List.getD,hlt]
theorem placeF_blank {d:Dv} {n:Int} (h:(placeF d n).2=true):1≤n∧0≤(placeF d n).1∧∀k:Nat,(placeF d n).1≤k→(k:Int)<(placeF d n).1+n→dState d k=0:=by
 unfold placeF at h ⊢
 split at h
 ·cases h
 ·rename_i h1
  rw[if_neg h1]
  obtain⟨h2,r,hr,hn,hs⟩:=rTake_true h
  have hb:=freeGo_blank (dStates d++[1]) (dStates d++[1]) 0 (-1) [] rfl (by omega) (by simp) r hr
  simp only
  rw[hs]
  refine⟨h2,hb.1,fun k hk hk2=>?_⟩
  have h3:=hb.2 k hk (by omega)
  by_cases hlt:k<(dStates d).length
  ·rw[List.getElem?_append_left hlt] at h3
   unfold dStates at h3 hlt
   rw[List.length_map] at hlt
   rw[List.getElem?_map,List.getElem?_eq_getElem hlt] at h3
   rw[dState_at hlt]
   simpa using h3
  ·rw[List.getElem?_append_right (by omega)] at h3
   by_cases hk0:k-(dStates d).length=0
   ·rw[hk0] at h3;simp at h3
   ·rw[List.getElem?_eq_none (by simp;omega)] at h3;cases h3
structure Good (d:Dv):Prop where
 off:d.off=false
 left:d.left= -1
theorem Good.on {d:Dv} (h:Good d):dOn d=0:=by unfold dOn;rw[h.off];rfl
theorem Good.fails {d:Dv} (h:Good d):dFails d=(d,false):=by unfold dFails;rw[h.left];rfl
theorem Good.flush {d:Dv} (h:Good d):dFlush d=({d with sure:=d.now,acts:=[]},0):=by
 unfold dFlush
 rw[if_neg (by rw[h.on];decide),h.fails]
 rfl
theorem Good.write {d:Dv} (h:Good d) {k:Nat} {b:ByteArray} (hb:b.size=128) (hs:dState d k=0):dWrite d k b=(dPut d (.write k b),0):=by
 unfold dWrite dBlock
 rw[h.on,hs]
 simp only[hb]
 unfold dDo
 rw[h.fails]
 rfl
theorem Good.put {d:Dv} (h:Good d) (x:Ac):Good (dPut d x):=⟨h.off,h.left⟩
theorem dState_put {d:Dv} {k j:Nat} {b:ByteArray} (hkj:j≠k):dState (dPut d (.write k b)) j=dState d j:=by
 unfold dState dPut Ac.at_
 simp only[List.length_set,Int.toNat_natCast]
 split
 ·rfl
 ·simp[List.getD,List.getElem?_set,Ne.symm hkj]
theorem cwGo_good (start last:Nat):∀(l:List ByteArray) (i:Nat) (d:Dv),Good d→(∀b∈l,b.size=128)→(∀k:Nat,start+i≤k→k<start+i+l.length→dState d k=0)→
  (cwGo start last i l d).2=0∧Good (cwGo start last i l d).1∧(cwGo start last i l d).1.acts=[]
 | [],i,d,h,_,_=>by
  unfold cwGo
  rw[h.flush]
  exact⟨rfl,⟨h.off,h.left⟩,rfl⟩
 |b::l,i,d,h,hl,hs=>by
  obtain⟨d2,hd2,hg2,hs2⟩:∃d2,(if i=last then dFlush d else(d,0))=(d2,0)∧Good d2∧∀k,dState d2 k=dState d k:=by
   split
   ·exact⟨_,h.flush,⟨h.off,h.left⟩,fun k=>rfl⟩
   ·exact⟨d,rfl,h,fun k=>rfl⟩
  have hw:dWrite d2 ((start:Int)+i) b=(dPut d2 (.write ((start+i:Nat):Int) b),0):=by
   have:=hg2.write (k:=start+i) (b:=b) (hl b (by simp)) (by rw[hs2];exact hs _ (by omega) (by simp only[List.length_cons];omega))
   rw[←this]
   push_cast
   rfl
  unfold cwGo
  rw[hd2]
  simp only[hw,ne_eq,not_true_eq_false,if_false]
  refine cwGo_good start last l (i+1) _ (hg2.put _) (fun b hb=>hl b (by simp[hb])) (fun k hk hk2=>?_)
  rw[dState_put (by omega),hs2]
  exact hs k (by omega) (by simp only[List.length_cons];omega)
theorem cWrite_good {d:Dv} {n:Int} {l:List ByteArray} (h:Good d) (hp:(placeF d n).2=true) (hn:n=l.length) (hl:∀b∈l,b.size=128):
  (cWrite d (placeF d n).1 n l).2=0∧Good (cWrite d (placeF d n).1 n l).1∧(cWrite d (placeF d n).1 n l).1.acts=[]:=by
 obtain⟨h1,h2,h3⟩:=placeF_blank hp
 obtain⟨s,hs⟩:=Int.eq_ofNat_of_zero_le h2
 rw[hs] at h3 ⊢
 unfold cWrite
 rw[if_neg (by omega)]
 exact cwGo_good s _ l 0 d h hl (fun k hk hk2=>h3 k (by omega) (by omega))
theorem frEnc_128 {f:Fr} (h:frCheck f=0):(frEnc f).1.length=128:=by
 have hd:f.data.size≤112:=by
  unfold frCheck at h
  split at h
  ·split at h
   ·cases h
   ·split at h
    ·cases h
    ·omega
  ·cases h
 have ht:=frText_len f hd
 unfold frEnc
 rw[if_pos h]
 simp only[show List.range 4=[0,1,2,3] from rfl,List.flatMap_cons,List.flatMap_nil,List.length_append,List.length_take,List.length_drop,ht,List.length_cons,List.length_nil]
 omega
theorem splB_len {kind ep:Int} {s:List UInt8} {i:Nat} (hk:kind=68∨kind=80∨kind=83) (he:1≤ep∧ep≤1073741824) (hi:i≤65535):(splB kind ep s i).size=128:=by
 unfold splB
 rw[size_mkS]
 refine frEnc_128 ?_
 unfold frCheck
 rw[if_pos hk,if_neg (by simp only;omega),if_neg]
 have:(partB s i).length≤112:=by unfold partB;rw[List.length_take];omega
 simp only[size_mkS]
 omega
theorem splL_128 {kind ep:Int} {s:List UInt8} (hk:kind=68∨kind=80∨kind=83) (he:1≤ep∧ep≤1073741824) (hs:s.length≤1000000):∀b∈splL kind ep s,b.size=128:=by
 intro b hb
 unfold splL at hb
 obtain⟨i,hi,rfl⟩:=List.mem_map.1 hb
 have h2:(splL kind ep s).length≤10000:=splL_len kind ep s hs
 unfold splL at h2
 rw[List.length_map,List.length_range] at h2
 have:=List.mem_range.1 hi
 exact splB_len hk he (by omega)
theorem splL_length (kind ep:Int) (s:List UInt8):((splL kind ep s).length:Int)=pkCount s.length:=by
 unfold splL
 rw[List.length_map,List.length_range]
 have:0≤pkCount s.length:=by unfold pkCount;split<;>omega
 omega
theorem putBlocks_128 {ep:Int} (he:1≤ep∧ep≤1073741824) {l:List Pu} (ht:∀x∈l,x.text.size≤999999):∀b∈putBlocks ep l,b.size=128:=by
 intro b hb
 unfold putBlocks at hb
 obtain⟨x,hx,hb⟩:=List.mem_flatMap.1 hb
 split at hb
 ·exact splL_128 (Or.inr (Or.inl rfl)) he (by rw[ls_length];have:=ht x hx;omega) b hb
 ·cases hb
theorem chk_len {l:List Pu} (h:chkF l=0):∀x∈l,x.e.kind=2→x.e.len=x.text.size:=by
 intro x hx hk
 unfold chkF at h
 split at h
 ·cases h
 ·split at h
  ·cases h
  ·rename_i h2
   have h3:puBad x=false:=by
    cases hb:puBad x with
    |false=>rfl
    |true=>exact absurd (List.any_eq_true.2 ⟨x,hx,hb⟩) h2
   unfold puBad at h3
   simp[hk] at h3
   exact h3.1
theorem putBlocks_count (ep s:Int):∀(l:List Pu) (n:Int),(∀x∈l,x.e.kind=2→x.e.len=x.text.size)→(lay s n l).2=n+(putBlocks ep l).length
 | [],n,_=>by simp[lay,putBlocks]
 |p::l,n,h=>by
  have h1:=putBlocks_count ep s l (layN n p) (fun x hx=>h x (by simp[hx]))
  simp only[lay]
  rw[h1]
  unfold putBlocks layN
  rw[List.flatMap_cons,List.length_append]
  push_cast
  split
  ·rename_i hk
   rw[splL_length,ls_length,←h p (by simp) hk]
   omega
  ·simp only[List.length_nil];omega
theorem putL2_len {n:Int} (h:withinB n 512=true):(putL n 2).length=2:=by
 simp[withinB] at h
 unfold putL putF
 rw[if_pos (by simp[fitsB,sizeB];omega)]
 exact be_length' 2 n.toNat
theorem entBytes_same {e e':Ent} (hc:checkB e=true) (hc':checkB e'=true) (h:e'=e∨(e.kind=2∧e'={e with start:=e'.start})):(entBytes e').length=(entBytes e).length:=by
 rcases h with h |⟨hk,h⟩
 ·rw[h]
 ·have hk':e'.kind=2:=by rw[h];exact hk
  have w1:withinB e.start 512=true:=by
   have h3:stepOk e 3=true:=by
    unfold checkB at hc
    rw[hk] at hc
    simp[fieldsL] at hc
    exact hc.1.2.2
   unfold stepOk at h3
   simp at h3
   exact h3.2.1
  have w2:withinB e'.start 512=true:=by
   have h3:stepOk e' 3=true:=by
    unfold checkB at hc'
    rw[hk'] at hc'
    simp[fieldsL] at hc'
    exact hc'.1.2.2
   unfold stepOk at h3
   simp at h3
   exact h3.2.1
  generalize e'.start=s at h w2
  subst h
  unfold entBytes
  simp only[hk,fieldsL]
  simp[fieldBytes,putL2_len w1,putL2_len w2]
def Same2 (e e':Ent):Prop:=e'=e∨(e.kind=2∧e'={e with start:=e'.start})
theorem ents_same:∀(l l':List Ent),l.length=l'.length→(∀(i:Nat) (h:i<l.length) (h':i<l'.length),Same2 l[i] l'[i])→l.all checkB=true→l'.all checkB=true→(l'.flatMap entBytes).length=(l.flatMap entBytes).length
 | [],[],_,_,_,_=>rfl
 | [],_::_,h,_,_,_=>by cases h
 |_::_,[],h,_,_,_=>by cases h
 |e::l,e'::l',hl,h,hc,hc'=>by
  simp only[List.all_cons,Bool.and_eq_true] at hc hc'
  have h1:=ents_same l l' (by simpa using hl) (fun i hi hi'=>by have:=h (i+1) (by simp;omega) (by simp;omega);simpa using this) hc.2 hc'.2
  have h2:=entBytes_same hc.1 hc'.1 (h 0 (by simp) (by simp))
  simp only[List.flatMap_cons,List.length_append,h1,h2]
theorem lay_z0 (s:Int):∀(l:List Pu) (n:Int),(lay s n l).1.map z0=(lay 0 n l).1.map z0
 | [],n=>rfl
 |p::l,n=>by
  simp only[lay,List.map_cons]
  rw[lay_z0 s l (layN n p)]
  congr 1
  unfold layE
  split
  ·rename_i hk
   simp[z0,hk]
  ·rfl
theorem z0_same (e:Ent):Same2 e (z0 e):=by
 unfold z0 Same2
 split
 ·exact Or.inr ⟨by assumption,rfl⟩
 ·exact Or.inl rfl
theorem encF_ok {l:List Ent} (h:(encF l).2=0):l.all checkB=true∧(encF l).1=encBytes l:=by
 unfold encF at h ⊢
 split at h
 ·rename_i hc
  rw[if_pos hc]
  split at h
  ·rename_i h2
   rw[if_pos h2]
   exact⟨hc,rfl⟩
  ·cases h
 ·cases h
theorem mkTx_len {l:List Pu} {start:Int} (h:(mkTx l start).2=0) (h2:(encF (needE l)).2=0):(mkTx l start).1.length=(encF (needE l)).1.length:=by
 obtain⟨c1,e1⟩:=encF_ok h
 obtain⟨c2,e2⟩:=encF_ok h2
 unfold mkTx
 rw[e1,e2]
 have hz:needE l=(lay start 0 l).1.map z0:=(lay_z0 start l 0).symm
 unfold encBytes
 rw[List.length_append,List.length_append]
 have hlen:(lay start 0 l).1.length=(needE l).length:=by rw[hz,List.length_map]
 have:=ents_same (lay start 0 l).1 (needE l) hlen (fun i hi hi'=>by
  simp only[hz,List.getElem_map]
  exact z0_same _) c1 c2
 rw[this,hlen]
theorem make_parts {last:Option Sl} {clock:Int} {l:List Pu} {start:Int} (h:makeErr last clock l start=0):(needF l).2=0∧(mkTx l start).2=0∧slOk (mkSl last clock l start)=true:=by
 unfold makeErr at h
 split at h
 ·rename_i h1;exact absurd h h1
 ·rename_i h1
  split at h
  ·cases h
  ·split at h
   ·rename_i h2;exact absurd h h2
   ·rename_i h2
    split at h
    ·rename_i h3
     rw[Bool.and_eq_true] at h3
     exact⟨by simpa using h1,by simpa using h2,h3.1⟩
    ·cases h
theorem make_good {last:Option Sl} {clock:Int} {l:List Pu} {start:Int} (h:makeErr last clock l start=0) (ht:∀x∈l,x.text.size≤999999) (hbig:(mkTx l start).1.length≤1000000):
  (needF l).1=(makeB last clock l start).length∧∀b∈makeB last clock l start,b.size=128:=by
 obtain⟨hn,hx,hok⟩:=make_parts h
 have hso:=(slOk_iff _).1 hok
 have he:1≤lastN last∧lastN last≤1073741824:=⟨hso.1,hso.2.1⟩
 have hb:slBlk (mkSl last clock l start)=frEnc ⟨83,lastN last,0,slTxt (mkSl last clock l start)⟩:=by unfold slBlk;rw[if_pos hok];rfl
 have hck:chkF l=0:=by
  by_cases hc:chkF l=0
  ·exact hc
  ·unfold needF at hn;rw[if_pos hc] at hn;exact hn
 have hen:(encF (needE l)).2=0:=by
  by_cases hc:(encF (needE l)).2=0
  ·exact hc
  ·unfold needF at hn;rw[if_neg (by simp[hck]),if_pos hc] at hn;exact hn
 constructor
 ·unfold needF makeB
  rw[if_neg (by simp[hck]),if_neg (by simp[hen])]
  simp only[List.length_append,List.length_singleton]
  push_cast
  rw[splL_length,mkTx_len hx hen,putBlocks_count (lastN last) 0 l 0 (chk_len hck)]
  omega
 ·intro b hbm
  unfold makeB at hbm
  simp only[List.mem_append,List.mem_singleton] at hbm
  rcases hbm with hbm |hbm |rfl
  ·exact putBlocks_128 he ht b hbm
  ·exact splL_128 (Or.inl rfl) he hbig b hbm
  ·rw[size_mkS,hb]
   refine frEnc_128 ?_
   unfold frCheck
   have:=slTxt_size (mkSl last clock l start)
   rw[if_pos (Or.inr (Or.inr rfl)),if_neg (by simp only;omega),if_neg (by simp only;omega)]
theorem lay_hash (s:Int):∀(l:List Pu) (n:Int),(∀x∈l,x.e.Wf)→∀e∈(lay s n l).1,e.hash.length=32
 | [],n,_=>by simp[lay]
 |p::l,n,h=>by
  intro e he
  simp only[lay,List.mem_cons] at he
  rcases he with rfl |he
  ·have:=(h p (by simp)).hash
   unfold layE
   split<;>exact this
  ·exact lay_hash s l _ (fun x hx=>h x (by simp[hx])) e he
theorem mkTx_big {l:List Pu} {start:Int} (hl:l.length≤5) (hw:∀x∈l,x.e.Wf):(mkTx l start).1.length≤1000000:=by
 unfold mkTx encF
 have h1:=ents_len (l:=(lay start 0 l).1) (lay_hash start l 0 hw)
 have h2:=putL_len (lay start 0 l).1.length 2
 have h3:=lay_len start l 0
 split
 ·split
  ·simp only[encBytes,List.length_append]
   omega
  ·simp
 ·simp
end Go.Proofs.YtdkeiefgkgpcbaaGreatDoor
namespace Go.Proofs.YtdkeiefgkgpcbaaGreatDoor
open Go.RowKit
instance fldEn4:Fx.FldT 66 4 4:=⟨fun ad w=>by kernel_rfl⟩
instance puc4 (p:Pu):CellAt (puC p) 4 (.string p.e.name):=⟨rfl⟩
structure Rw where
 p:Option Addr
 c:Nat
 l:List Pu
def rwL (r:Rw):List Value:=[.slice r.p r.l.length r.c]
instance encRw:Enc rwL 1:=⟨fun _=>rfl,fun x v hv=>by simp[rwL] at hv;subst hv;rfl⟩
instance eltRw:Elt 62 1:=⟨.slice none 0 0,24,by kernel_rfl,rfl,by decide,by decide⟩
instance sltRw:SlT 22 62:=⟨Tryz.underlying22⟩
instance oneRw:OneT 62:=⟨fun w=>by kernel_rfl,by kernel_rfl⟩
end Go.Proofs.YtdkeiefgkgpcbaaGreatDoor
namespace Go.Proofs.YtdkeiefgkgpcbaaGreatDoor
open Go.RowKit
structure Cm where
 start:Int
 count:Int
 blocks:List ByteArray
 ents:List Ent
 sl:Sl
def lastS (l:List Cm):Option Sl:=l.getLast?.map (·.sl)
def comAt (d:Dv) (l:List Pu):Int:=(placeF d (needF l).1).1
def comNo (d:Dv) (last:Option Sl) (i:Nat) (l:List Pu):Bool:=decide ((needF l).2≠0)|| !(placeF d (needF l).1).2||decide (makeErr last i l (comAt d l)≠0)
def comC (d:Dv) (last:Option Sl) (i:Nat) (l:List Pu):Cm:=⟨comAt d l,(needF l).1,makeB last i l (comAt d l),(lay (comAt d l) 0 l).1,mkSl last i l (comAt d l)⟩
def comD (d:Dv) (c:Cm):Dv:=(cWrite d c.start c.count c.blocks).1
structure PlIs (D:Dat) (p:Pl) (c:Cm):Prop where
 start:p.start=c.start
 count:p.count=c.count
 sl:p.sl=c.sl
 nb:p.nb=c.blocks.length
 blocks:RowAt D 9 1 strL p.pb p.cb c.blocks
 ne:p.ne=c.ents.length
 ents:RowAt D 66 39 entL p.pe p.ce c.ents
 ok:slOk c.sl=true
theorem PlIs.mono {D D':Dat} {p:Pl} {c:Cm} (h:PlIs D p c) (hs:∀p,D p→D' p):PlIs D' p c:=⟨h.start,h.count,h.sl,h.nb,h.blocks.mono hs,h.ne,h.ents.mono hs,h.ok⟩
theorem Sx.after {S:List Nat} {w0 w w':World} {D0 D:Dat} {L:List Blk} (h:Sx S w0 w [] D0 []) (hs:Sx [] w w' L D []):Sx S w0 w' L D []:=by
 have h1:=h.take hs.st
 rw[List.append_nil] at h1
 exact⟨h1.st,hs.data,hs.apart,by simp,by simp,by simp,by simp⟩
instance ctxApp {Lo L0 X:List Blk} {C:List Blk→List Blk} [h:Ctx L0 X C]:Ctx (Lo++L0) X (fun Y=>Lo++C Y):=⟨by rw[←h.eq],fun Y=>((h.perm Y).append_left Lo).trans (by rw[←List.append_assoc,←List.append_assoc];exact List.perm_append_comm.append_right _)⟩
instance sltPl:SlT 26 43:=⟨Tryz.underlying26⟩
end Go.Proofs.YtdkeiefgkgpcbaaGreatDoor
