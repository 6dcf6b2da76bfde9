/- Steps of the proof: Good, Beyond, BeyNo, Commits. -/
import Derived.Test.YtdkeiefgkgpcbaaGreatDoorP24
set_option linter.unusedVariables false
set_option linter.unusedSimpArgs false
set_option maxRecDepth 100000
namespace Go.Proofs.YtdkeiefgkgpcbaaGreatDoor
open Go.RowKit
def BR (S:List Int) (r:Rn):Prop:=0≤r.s∧∀k:Nat,r.s≤k→(k:Int)<r.s+r.c→S[k]? =some 0
theorem yaa (S:List Int):∀(l:List Int) (i:Nat) (f:Int) (out:List Rn),S.drop i=l→(0≤f→∀k:Nat,f≤k→k<i→S[k]? =some 0)→(∀r∈out,BR S r)→∀r∈freeGo i f l out,BR S r
 | [],_,_,_,_,_,h=>h
 |s::l,i,f,out,hd,hf,h=>by
  have hi:S[i]? =some s:=by
   have:=congrArg (·[0]?) hd;simpa[List.getElem?_drop] using this
  have hd':S.drop (i+1)=l:=by
   have:=congrArg List.tail hd;simpa[List.tail_drop] using this
  unfold freeGo;split
  ·rename_i h1
   refine yaa S l (i+1) i out hd' (fun _ k hk hk2=>?_) h;obtain rfl:k=i:=by omega
   rw[hi,h1.1]
  ·split
   ·rename_i h1 h2
    refine yaa S l (i+1) (-1) _ hd' (by omega) (fun r hr=>?_);rcases List.mem_append.1 hr with hr |hr
    ·exact h r hr
    ·obtain rfl:=List.mem_singleton.1 hr
     exact⟨h2.2,fun k hk hk2=>hf h2.2 k hk (by simp only at hk2;omega)⟩
   ·rename_i h1 h2
    refine yaa S l (i+1) f out hd' (fun h0 k hk hk2=>?_) h
    by_cases hki:k=i
    ·subst hki
     have:s=0:=by
      by_cases hs:s=0
      ·exact hs
      ·exact absurd ⟨hs,h0⟩ h2
     rw[hi,this]
    ·exact hf h0 k hk (by omega)
theorem yab {l:List Rn} {n:Int} (h:(rTake l n).2=true):1≤n∧∃r∈l,n≤r.c∧(rTake l n).1.s=r.s:=by
 unfold rTake at h ⊢;split at h
 ·cases h
 ·rename_i h1
  rw[if_neg h1];refine⟨by omega,?_⟩;split at h
  ·cases h
  ·rename_i i hi
   obtain⟨hlt,hp,_⟩:=List.findIdx?_eq_some_iff_getElem.1 hi;refine⟨l[i],List.getElem_mem hlt,by simpa using hp,?_⟩;simp[List.getD,hlt]
theorem yac {d:Dv} {n:Int} (h:(placeF d n).2=true):1≤n∧0≤(placeF d n).1∧∀k:Nat,(placeF d n).1≤k→(k:Int)<(placeF d n).1+n→dState d k=0:=by
 unfold placeF at h ⊢;split at h
 ·cases h
 ·rename_i h1
  rw[if_neg h1];obtain⟨h2,r,hr,hn,hs⟩:=yab h;have hb:=yaa (dStates d++[1]) (dStates d++[1]) 0 (-1) [] rfl (by omega) (by simp) r hr;simp only;rw[hs];refine⟨h2,hb.1,fun k hk hk2=>?_⟩;have h3:=hb.2 k hk (by omega)
  by_cases hlt:k<(dStates d).length
  ·rw[List.getElem?_append_left hlt] at h3
   unfold dStates at h3 hlt;rw[List.length_map] at hlt;rw[List.getElem?_map,List.getElem?_eq_getElem hlt] at h3;rw[dState_at hlt];simpa using h3
  ·rw[List.getElem?_append_right (by omega)] at h3
   by_cases hk0:k-(dStates d).length=0
   ·rw[hk0] at h3;simp at h3
   ·rw[List.getElem?_eq_none (by simp;omega)] at h3;cases h3
structure Good (d:Dv):Prop where
 off:d.off=false
 left:d.left= -1
theorem Good.on {d:Dv} (h:Good d):dOn d=0:=by unfold dOn;rw[h.off];rfl
theorem Good.fails {d:Dv} (h:Good d):dFails d=(d,false):=by unfold dFails;rw[h.left];rfl
theorem Good.flush {d:Dv} (h:Good d):dFlush d=({d with sure:=d.now,acts:=[]},0):=by
 unfold dFlush;rw[if_neg (by rw[h.on];decide),h.fails];rfl
theorem Good.write {d:Dv} (h:Good d) {k:Nat} {b:ByteArray} (hb:b.size=128) (hs:dState d k=0):dWrite d k b=(dPut d (.write k b),0):=by
 unfold dWrite dBlock;rw[h.on,hs];simp only[hb];unfold dDo;rw[h.fails];rfl
theorem Good.put {d:Dv} (h:Good d) (x:Ac):Good (dPut d x):=⟨h.off,h.left⟩
theorem yad {d:Dv} {k j:Nat} {b:ByteArray} (hkj:j≠k):dState (dPut d (.write k b)) j=dState d j:=by
 unfold dState dPut Ac.at_;simp only[List.length_set,Int.toNat_natCast];split
 ·rfl
 ·simp[List.getD,List.getElem?_set,Ne.symm hkj]
theorem yae (start last:Nat):∀(l:List ByteArray) (i:Nat) (d:Dv),Good d→(∀b∈l,b.size=128)→(∀k:Nat,start+i≤k→k<start+i+l.length→dState d k=0)→
  (cwGo start last i l d).2=0∧Good (cwGo start last i l d).1∧(cwGo start last i l d).1.acts=[]
 | [],i,d,h,_,_=>by
  unfold cwGo;rw[h.flush];exact⟨rfl,⟨h.off,h.left⟩,rfl⟩
 |b::l,i,d,h,hl,hs=>by
  obtain⟨d2,hd2,hg2,hs2⟩:∃d2,(if i=last then dFlush d else(d,0))=(d2,0)∧Good d2∧∀k,dState d2 k=dState d k:=by
   split
   ·exact⟨_,h.flush,⟨h.off,h.left⟩,fun k=>rfl⟩
   ·exact⟨d,rfl,h,fun k=>rfl⟩
  have hw:dWrite d2 ((start:Int)+i) b=(dPut d2 (.write ((start+i:Nat):Int) b),0):=by
   have:=hg2.write (k:=start+i) (b:=b) (hl b (by simp)) (by rw[hs2];exact hs _ (by omega) (by simp only[List.length_cons];omega));rw[←this];push_cast;rfl
  unfold cwGo;rw[hd2];simp only[hw,ne_eq,not_true_eq_false,if_false];refine yae start last l (i+1) _ (hg2.put _) (fun b hb=>hl b (by simp[hb])) (fun k hk hk2=>?_);rw[yad (by omega),hs2];exact hs k (by omega) (by simp only[List.length_cons];omega)
theorem yaf {d:Dv} {n:Int} {l:List ByteArray} (h:Good d) (hp:(placeF d n).2=true) (hn:n=l.length) (hl:∀b∈l,b.size=128):
  (cWrite d (placeF d n).1 n l).2=0∧Good (cWrite d (placeF d n).1 n l).1∧(cWrite d (placeF d n).1 n l).1.acts=[]:=by
 obtain⟨h1,h2,h3⟩:=yac hp;obtain⟨s,hs⟩:=Int.eq_ofNat_of_zero_le h2;rw[hs] at h3 ⊢;unfold cWrite;rw[if_neg (by omega)];exact yae s _ l 0 d h hl (fun k hk hk2=>h3 k (by omega) (by omega))
theorem yag {f:Fr} (h:frCheck f=0):(frEnc f).1.length=128:=by
 have hd:f.data.size≤112:=by
  unfold frCheck at h;split at h
  ·split at h
   ·cases h
   ·split at h
    ·cases h
    ·omega
  ·cases h
 have ht:=frText_len f hd;unfold frEnc;rw[if_pos h];simp only[show List.range 4=[0,1,2,3] from rfl,List.flatMap_cons,List.flatMap_nil,List.length_append,List.length_take,List.length_drop,ht,List.length_cons,List.length_nil];omega
theorem yah {kind ep:Int} {s:List UInt8} {i:Nat} (hk:kind=68∨kind=80∨kind=83) (he:1≤ep∧ep≤1073741824) (hi:i≤65535):(splB kind ep s i).size=128:=by
 unfold splB;rw[size_mkS];refine yag ?_;unfold frCheck;rw[if_pos hk,if_neg (by simp only;omega),if_neg];have:(partB s i).length≤112:=by unfold partB;rw[List.length_take];omega
 simp only[size_mkS];omega
theorem yai {kind ep:Int} {s:List UInt8} (hk:kind=68∨kind=80∨kind=83) (he:1≤ep∧ep≤1073741824) (hs:s.length≤1000000):∀b∈splL kind ep s,b.size=128:=by
 intro b hb;unfold splL at hb;obtain⟨i,hi,rfl⟩:=List.mem_map.1 hb;have h2:(splL kind ep s).length≤10000:=splL_len kind ep s hs;unfold splL at h2;rw[List.length_map,List.length_range] at h2;have:=List.mem_range.1 hi;exact yah hk he (by omega)
theorem yaj (kind ep:Int) (s:List UInt8):((splL kind ep s).length:Int)=pkCount s.length:=by
 unfold splL;rw[List.length_map,List.length_range];have:0≤pkCount s.length:=by unfold pkCount;split<;>omega
 omega
theorem yak {ep:Int} (he:1≤ep∧ep≤1073741824) {l:List Pu} (ht:∀x∈l,x.text.size≤999999):∀b∈putBlocks ep l,b.size=128:=by
 intro b hb;unfold putBlocks at hb;obtain⟨x,hx,hb⟩:=List.mem_flatMap.1 hb;split at hb
 ·exact yai (Or.inr (Or.inl rfl)) he (by rw[ls_length];have:=ht x hx;omega) b hb
 ·cases hb
theorem yal {l:List Pu} (h:chkF l=0):∀x∈l,x.e.kind=2→x.e.len=x.text.size:=by
 intro x hx hk;unfold chkF at h;split at h
 ·cases h
 ·split at h
  ·cases h
  ·rename_i h2
   have h3:puBad x=false:=by
    cases hb:puBad x with
    |false=>rfl
    |true=>exact absurd (List.any_eq_true.2 ⟨x,hx,hb⟩) h2
   unfold puBad at h3;simp[hk] at h3;exact h3.1
theorem yam (ep s:Int):∀(l:List Pu) (n:Int),(∀x∈l,x.e.kind=2→x.e.len=x.text.size)→(lay s n l).2=n+(putBlocks ep l).length
 | [],n,_=>by simp[lay,putBlocks]
 |p::l,n,h=>by
  have h1:=yam ep s l (layN n p) (fun x hx=>h x (by simp[hx]));simp only[lay];rw[h1];unfold putBlocks layN;rw[List.flatMap_cons,List.length_append];push_cast;split
  ·rename_i hk
   rw[yaj,ls_length,←h p (by simp) hk];omega
  ·simp only[List.length_nil];omega
theorem yan {n:Int} (h:withinB n 512=true):(putL n 2).length=2:=by
 simp[withinB] at h;unfold putL putF;rw[if_pos (by simp[fitsB,sizeB];omega)];exact be_length' 2 n.toNat
theorem yao {e e':Ent} (hc:checkB e=true) (hc':checkB e'=true) (h:e'=e∨(e.kind=2∧e'={e with start:=e'.start})):(entBytes e').length=(entBytes e).length:=by
 rcases h with h |⟨hk,h⟩
 ·rw[h]
 ·have hk':e'.kind=2:=by rw[h];exact hk
  have w1:withinB e.start 512=true:=by
   have h3:stepOk e 3=true:=by
    unfold checkB at hc;rw[hk] at hc;simp[fieldsL] at hc;exact hc.1.2.2
   unfold stepOk at h3;simp at h3;exact h3.2.1
  have w2:withinB e'.start 512=true:=by
   have h3:stepOk e' 3=true:=by
    unfold checkB at hc';rw[hk'] at hc';simp[fieldsL] at hc';exact hc'.1.2.2
   unfold stepOk at h3;simp at h3;exact h3.2.1
  generalize e'.start=s at h w2;subst h;unfold entBytes;simp only[hk,fieldsL];simp[fieldBytes,yan w1,yan w2]
def Same2 (e e':Ent):Prop:=e'=e∨(e.kind=2∧e'={e with start:=e'.start})
theorem yap:∀(l l':List Ent),l.length=l'.length→(∀(i:Nat) (h:i<l.length) (h':i<l'.length),Same2 l[i] l'[i])→l.all checkB=true→l'.all checkB=true→(l'.flatMap entBytes).length=(l.flatMap entBytes).length
 | [],[],_,_,_,_=>rfl
 | [],_::_,h,_,_,_=>by cases h
 |_::_,[],h,_,_,_=>by cases h
 |e::l,e'::l',hl,h,hc,hc'=>by
  simp only[List.all_cons,Bool.and_eq_true] at hc hc';have h1:=yap l l' (by simpa using hl) (fun i hi hi'=>by have:=h (i+1) (by simp;omega) (by simp;omega);simpa using this) hc.2 hc'.2;have h2:=yao hc.1 hc'.1 (h 0 (by simp) (by simp));simp only[List.flatMap_cons,List.length_append,h1,h2]
theorem yaq (s:Int):∀(l:List Pu) (n:Int),(lay s n l).1.map z0=(lay 0 n l).1.map z0
 | [],n=>rfl
 |p::l,n=>by
  simp only[lay,List.map_cons];rw[yaq s l (layN n p)];congr 1;unfold layE;split
  ·rename_i hk
   simp[z0,hk]
  ·rfl
theorem yar (e:Ent):Same2 e (z0 e):=by
 unfold z0 Same2;split
 ·exact Or.inr ⟨by assumption,rfl⟩
 ·exact Or.inl rfl
theorem yas {l:List Ent} (h:(encF l).2=0):l.all checkB=true∧(encF l).1=encBytes l:=by
 unfold encF at h ⊢;split at h
 ·rename_i hc
  rw[if_pos hc];split at h
  ·rename_i h2
   rw[if_pos h2];exact⟨hc,rfl⟩
  ·cases h
 ·cases h
theorem yat {l:List Pu} {start:Int} (h:(mkTx l start).2=0) (h2:(encF (needE l)).2=0):(mkTx l start).1.length=(encF (needE l)).1.length:=by
 obtain⟨c1,e1⟩:=yas h;obtain⟨c2,e2⟩:=yas h2;unfold mkTx;rw[e1,e2];have hz:needE l=(lay start 0 l).1.map z0:=(yaq start l 0).symm;unfold encBytes;rw[List.length_append,List.length_append];have hlen:(lay start 0 l).1.length=(needE l).length:=by rw[hz,List.length_map]
 have:=yap (lay start 0 l).1 (needE l) hlen (fun i hi hi'=>by
  simp only[hz,List.getElem_map]
  exact yar _) c1 c2
 rw[this,hlen]
theorem yau {last:Option Sl} {clock:Int} {l:List Pu} {start:Int} (h:makeErr last clock l start=0):(needF l).2=0∧(mkTx l start).2=0∧slOk (mkSl last clock l start)=true:=by
 unfold makeErr at h;split at h
 ·rename_i h1;exact absurd h h1
 ·rename_i h1
  split at h
  ·cases h
  ·split at h
   ·rename_i h2;exact absurd h h2
   ·rename_i h2
    split at h
    ·rename_i h3
     rw[Bool.and_eq_true] at h3;exact⟨by simpa using h1,by simpa using h2,h3.1⟩
    ·cases h
theorem yav {last:Option Sl} {clock:Int} {l:List Pu} {start:Int} (h:makeErr last clock l start=0) (ht:∀x∈l,x.text.size≤999999) (hbig:(mkTx l start).1.length≤1000000):
  (needF l).1=(makeB last clock l start).length∧∀b∈makeB last clock l start,b.size=128:=by
 obtain⟨hn,hx,hok⟩:=yau h;have hso:=(slOk_iff _).1 hok;have he:1≤lastN last∧lastN last≤1073741824:=⟨hso.1,hso.2.1⟩;have hb:slBlk (mkSl last clock l start)=frEnc ⟨83,lastN last,0,slTxt (mkSl last clock l start)⟩:=by unfold slBlk;rw[if_pos hok];rfl
 have hck:chkF l=0:=by
  by_cases hc:chkF l=0
  ·exact hc
  ·unfold needF at hn;rw[if_pos hc] at hn;exact hn
 have hen:(encF (needE l)).2=0:=by
  by_cases hc:(encF (needE l)).2=0
  ·exact hc
  ·unfold needF at hn;rw[if_neg (by simp[hck]),if_pos hc] at hn;exact hn
 constructor
 ·unfold needF makeB
  rw[if_neg (by simp[hck]),if_neg (by simp[hen])];simp only[List.length_append,List.length_singleton];push_cast;rw[yaj,yat hx hen,yam (lastN last) 0 l 0 (yal hck)];omega
 ·intro b hbm
  unfold makeB at hbm;simp only[List.mem_append,List.mem_singleton] at hbm;rcases hbm with hbm |hbm |rfl
  ·exact yak he ht b hbm
  ·exact yai (Or.inl rfl) he hbig b hbm
  ·rw[size_mkS,hb]
   refine yag ?_;unfold frCheck;have:=slTxt_size (mkSl last clock l start);rw[if_pos (Or.inr (Or.inr rfl)),if_neg (by simp only;omega),if_neg (by simp only;omega)]
theorem yaw (s:Int):∀(l:List Pu) (n:Int),(∀x∈l,x.e.Wf)→∀e∈(lay s n l).1,e.hash.length=32
 | [],n,_=>by simp[lay]
 |p::l,n,h=>by
  intro e he;simp only[lay,List.mem_cons] at he;rcases he with rfl |he
  ·have:=(h p (by simp)).hash
   unfold layE;split<;>exact this
  ·exact yaw s l _ (fun x hx=>h x (by simp[hx])) e he
theorem yax {l:List Pu} {start:Int} (hl:l.length≤5) (hw:∀x∈l,x.e.Wf):(mkTx l start).1.length≤1000000:=by
 unfold mkTx encF;have h1:=ents_len (l:=(lay start 0 l).1) (yaw start l 0 hw);have h2:=putL_len (lay start 0 l).1.length 2;have h3:=lay_len start l 0;split
 ·split
  ·simp only[encBytes,List.length_append]
   omega
  ·simp
 ·simp
def beyP (x:Pu):Bool:=decide ((400:Int)<x.text.size)||decide ((100:Int)<x.e.name.size)
def bey19 (l:List Pu) (m:Int):Bool:=decide (m<(l.length:Int))||l.any beyP
instance fldEn4:Fx.FldT 66 4 4:=⟨fun ad w=>by kernel_rfl⟩
instance puc4 (p:Pu):CellAt (puC p) 4 (.string p.e.name):=⟨rfl⟩
set_option maxHeartbeats 2000000 in
theorem yay {D:Dat} {p:Option Addr} {c:Nat} {l:List Pu} (m:Int) (hr:(l.length:Int)≤m→RowAt D 68 40 puL p c l) (w:World) (hD:Holds D w):
  Calls Tryz.prog 27 #[.slice p l.length c,.int .i64 m] w (Ret (.bool (bey19 l m)) w):=by
 have hst:=Sx.start0 w hD
 by_cases hm:m<(l.length:Int)
 ·have HB:Hid (bey19 l m=true):=Lib.hid (by unfold bey19;rw[decide_eq_true hm];rfl)
  go_enter Tryz.func27,Tryz.ntmps27;go_wp2_with (first|(with_reducible refine xval rfl 9 rfl (.bool true) (fun w=>Fx.e_gtr rfl rfl rfl (decide_eq_true hm) w) ?_)|fail);go_ret;exact⟨by rw[HB.out];rfl,hst.end⟩
 ·replace hr:=hr (by omega)
  have hcap:=hr.cap;have hbg:=hr.big;have HB:Hid (bey19 l m=l.any beyP):=Lib.hid (by unfold bey19;rw[decide_eq_false hm];rfl);go_enter Tryz.func27,Tryz.ntmps27;go_wp2_with (first|(with_reducible refine xval rfl 9 rfl (.bool false) (fun w=>Fx.e_gtr rfl rfl rfl (decide_eq_false hm) w) ?_)|fail);clear hm;go_loopw [5] (fun iv wr=>∃k:Nat,k≤l.length∧iv=.int .i64 k∧Hid ((l.take k).any beyP=false)∧Sx [] w wr [] D []) (fun iv _=>l.length-(intOf iv).toNat)
  case atStart=>exact⟨0,Nat.zero_le _,by go_num,Lib.hid (by simp),hst⟩
  case round=>
   clear hst;obtain⟨k,hk,rfl,HK,hst⟩:=hrel
   by_cases hlt:k<l.length
   ·obtain⟨g,off,rfl⟩:=hr.at_some hlt
    have e1:LdD D 9 ⟨g,off+k*40+39,none⟩ (.string l[k].text):=hr.ldf hlt 39 rfl rfl;have e2:LdD D 9 ⟨g,off+k*40+4,none⟩ (.string l[k].e.name):=hr.ldf hlt 4 rfl rfl;have HR:beyP l[k]=true→Hid (bey19 l m=true):=fun h1=>Lib.hid (by rw[HB.out];exact List.any_eq_true.2 ⟨_,List.getElem_mem hlt,h1⟩)
    have HN:beyP l[k]=false→Hid ((l.take (k+1)).any beyP=false):=fun h1=>Lib.hid (by rw[List.take_succ_eq_append_getElem hlt,List.any_append,HK.out,List.any_cons,h1];rfl)
    generalize l[k]=x at*
    by_cases ht:(400:Int)<x.text.size
    ·have HR:=HR (by unfold beyP;rw[decide_eq_true ht];rfl)
     have HT:=Lib.hid (decide_eq_true ht);clear ht HN;go_wp2_with (first|(with_reducible refine xval rfl 22 rfl (.bool true) (fun w=>Fx.e_gtr rfl rfl rfl HT.out w) ?_)|(with_reducible refine xd rfl rfl rfl hst ?_));go_ret;exact⟨by rw[HR.out];rfl,hst.end⟩
    ·by_cases hn:(100:Int)<x.e.name.size
     ·have HR:=HR (by unfold beyP;rw[decide_eq_true hn];simp)
      have HT:=Lib.hid (decide_eq_false ht);have HU:=Lib.hid (decide_eq_true hn);clear ht hn HN;go_wp2_with (first|(with_reducible refine xval rfl 22 rfl (.bool false) (fun w=>Fx.e_gtr rfl rfl rfl HT.out w) ?_)|(with_reducible refine xval rfl 31 rfl (.bool true) (fun w=>Fx.e_gtr rfl rfl rfl HU.out w) ?_)|(with_reducible refine xd rfl rfl rfl hst ?_));go_ret;exact⟨by rw[HR.out];rfl,hst.end⟩
     ·have HN:=HN (by unfold beyP;rw[decide_eq_false ht,decide_eq_false hn];rfl)
      have HT:=Lib.hid (decide_eq_false ht);have HU:=Lib.hid (decide_eq_false hn);clear ht hn HR;go_wp2_with (first|(with_reducible refine xval rfl 22 rfl (.bool false) (fun w=>Fx.e_gtr rfl rfl rfl HT.out w) ?_)|(with_reducible refine xval rfl 31 rfl (.bool false) (fun w=>Fx.e_gtr rfl rfl rfl HU.out w) ?_)|(with_reducible refine xd rfl rfl rfl hst ?_));go_roundw
      case rel=>exact⟨k+1,by omega,by go_num,HN,hst⟩
      case measure=>simp[intOf];omega
   ·obtain rfl:k=l.length:=by omega
    go_wp2_with fail;go_ret;have:=HK.out;rw[List.take_length] at this;exact⟨by rw[HB.out,this];rfl,hst.end⟩
structure Rw where
 p:Option Addr
 c:Nat
 l:List Pu
def rwL (r:Rw):List Value:=[.slice r.p r.l.length r.c]
instance encRw:Enc rwL 1:=⟨fun _=>rfl,fun x v hv=>by simp[rwL] at hv;subst hv;rfl⟩
instance eltRw:Elt 62 1:=⟨.slice none 0 0,24,by kernel_rfl,rfl,by decide,by decide⟩
instance sltRw:SlT 22 62:=⟨Tryz.underlying22⟩
instance oneRw:OneT 62:=⟨fun w=>by kernel_rfl,by kernel_rfl⟩
def bey21 (l:List Rw):Bool:=decide ((6:Int)<(l.length:Int))||l.any fun r=>bey19 r.l 5
set_option maxHeartbeats 2000000 in
theorem yaz {D:Dat} {p:Option Addr} {c:Nat} {l:List Rw} (hr:l.length≤6→RowAt D 62 1 rwL p c l) (hrs:∀r∈l,r.l.length≤5→RowAt D 68 40 puL r.p r.c r.l) (w:World) (hD:Holds D w):
  Calls Tryz.prog 7 #[.slice p l.length c] w (Ret (.bool (bey21 l)) w):=by
 have hst:=Sx.start0 w hD
 by_cases hm:(6:Int)<(l.length:Int)
 ·have HB:Hid (bey21 l=true):=Lib.hid (by unfold bey21;rw[decide_eq_true hm];rfl)
  go_enter Tryz.func7,Tryz.ntmps7;go_wp2_with (first|(with_reducible refine xval rfl 6 rfl (.bool true) (fun w=>Fx.e_gtr rfl rfl rfl (decide_eq_true hm) w) ?_)|fail);go_ret;exact⟨by rw[HB.out];rfl,hst.end⟩
 ·replace hr:=hr (by omega)
  have hcap:=hr.cap;have hbg:=hr.big;have HB:Hid (bey21 l=l.any fun r=>bey19 r.l 5):=Lib.hid (by unfold bey21;rw[decide_eq_false hm];rfl);go_enter Tryz.func7,Tryz.ntmps7;go_wp2_with (first|(with_reducible refine xval rfl 6 rfl (.bool false) (fun w=>Fx.e_gtr rfl rfl rfl (decide_eq_false hm) w) ?_)|fail);clear hm;go_loopw [3] (fun iv wr=>∃k:Nat,k≤l.length∧iv=.int .i64 k∧Hid (((l.take k).any fun r=>bey19 r.l 5)=false)∧Sx [] w wr [] D []) (fun iv _=>l.length-(intOf iv).toNat)
  case atStart=>exact⟨0,Nat.zero_le _,by go_num,Lib.hid (by simp),hst⟩
  case round=>
   clear hst;obtain⟨k,hk,rfl,HK,hst⟩:=hrel
   by_cases hlt:k<l.length
   ·obtain⟨g,off,rfl⟩:=hr.at_some hlt
    have hld:=hr.ld1 hlt rfl;have hrx:=hrs _ (List.getElem_mem hlt);have HR:bey19 l[k].l 5=true→Hid (bey21 l=true):=fun h1=>Lib.hid (by rw[HB.out];exact List.any_eq_true.2 ⟨_,List.getElem_mem hlt,h1⟩)
    have HN:bey19 l[k].l 5=false→Hid (((l.take (k+1)).any fun r=>bey19 r.l 5)=false):=fun h1=>Lib.hid (by rw[List.take_succ_eq_append_getElem hlt,List.any_append,HK.out,List.any_cons,h1];rfl)
    generalize l[k]=x at*;have HC:=Lib.hid (fun w hD=>yay 5 (fun h=>hrx (by omega)) w hD);generalize bey19 x.l 5=b at*
    cases b with
    |true=>
     have HR2:=HR rfl;clear HN HR;go_wp2_with (first|(with_reducible refine xd rfl rfl rfl hst ?_)|(with_reducible refine callB (HC.out _ hst.data) hst ?_;clear hst;intro w' hst));go_ret;exact⟨by rw[HR2.out];rfl,hst.end⟩
    |false=>
     have HN2:=HN rfl;clear HR HN;go_wp2_with (first|(with_reducible refine xd rfl rfl rfl hst ?_)|(with_reducible refine callB (HC.out _ hst.data) hst ?_;clear hst;intro w' hst));go_roundw
     case rel=>exact⟨k+1,by omega,by go_num,HN2,hst⟩
     case measure=>simp[intOf];omega
   ·obtain rfl:k=l.length:=by omega
    go_wp2_with fail;go_ret;have:=HK.out;rw[List.take_length] at this;exact⟨by rw[HB.out,this];rfl,hst.end⟩
theorem yaA {l:List Pu} {m:Int} (h:bey19 l m=false):(l.length:Int)≤m∧∀x∈l,x.text.size≤400:=by
 unfold bey19 at h;obtain⟨h1,h2⟩:=Bool.or_eq_false_iff.1 h;have h3:=of_decide_eq_false h1;refine⟨by omega,fun x hx=>?_⟩;have h4:=List.any_eq_false.1 h2 x hx;unfold beyP at h4;have h5:=(Bool.or_eq_false_iff.1 (by simpa using h4:(decide ((400:Int)<x.text.size)||decide ((100:Int)<x.e.name.size))=false)).1;have h6:=of_decide_eq_false h5;omega
theorem yaB {l:List Rw} (h:bey21 l=false):l.length≤6∧∀r∈l,r.l.length≤5∧∀x∈r.l,x.text.size≤400:=by
 unfold bey21 at h;obtain⟨h1,h2⟩:=Bool.or_eq_false_iff.1 h;have h3:=of_decide_eq_false h1;refine⟨by omega,fun r hr=>?_⟩;have h4:=yaA (by simpa using List.any_eq_false.1 h2 r hr);exact⟨by have:=h4.1;omega,h4.2⟩
structure Cm where
 start:Int
 count:Int
 blocks:List ByteArray
 ents:List Ent
 sl:Sl
def lastS (l:List Cm):Option Sl:=l.getLast?.map (·.sl)
def comAt (d:Dv) (l:List Pu):Int:=(placeF d (needF l).1).1
def comNo (d:Dv) (last:Option Sl) (i:Nat) (l:List Pu):Bool:=decide ((needF l).2≠0)|| !(placeF d (needF l).1).2||decide (makeErr last i l (comAt d l)≠0)
def comC (d:Dv) (last:Option Sl) (i:Nat) (l:List Pu):Cm:=⟨comAt d l,(needF l).1,makeB last i l (comAt d l),(lay (comAt d l) 0 l).1,mkSl last i l (comAt d l)⟩
def comD (d:Dv) (c:Cm):Dv:=(cWrite d c.start c.count c.blocks).1
def comGo:Nat→List (List Pu)→Dv→List Cm→Dv×List Cm
 |_,[],d,out=>(d,out)
 |i,l::ls,d,out=>if comNo d (lastS out) i l then comGo (i+1) ls d out else comGo (i+1) ls (comD d (comC d (lastS out) i l)) (out++[comC d (lastS out) i l])
def dC:Dv:=dvOf (List.replicate 100 b0)
def comF (ls:List (List Pu)):Dv×List Cm:=comGo 0 ls dC []
structure PlIs (D:Dat) (p:Pl) (c:Cm):Prop where
 start:p.start=c.start
 count:p.count=c.count
 sl:p.sl=c.sl
 nb:p.nb=c.blocks.length
 blocks:RowAt D 9 1 strL p.pb p.cb c.blocks
 ne:p.ne=c.ents.length
 ents:RowAt D 66 39 entL p.pe p.ce c.ents
 ok:slOk c.sl=true
theorem PlIs.mono {D D':Dat} {p:Pl} {c:Cm} (h:PlIs D p c) (hs:∀p,D p→D' p):PlIs D' p c:=⟨h.start,h.count,h.sl,h.nb,h.blocks.mono hs,h.ne,h.ents.mono hs,h.ok⟩
def yaC (D0:Dat) (w:World) (R:Dv×List Cm) (e:Ending) (w':World):Prop:=
 ∃(g:Nat) (v:Value) (Lo:List Blk) (D:Dat) (q:Dp) (ps:List (Pl×Cm)),e=.returned (.tuple #[.pointer (some ⟨g,0,none⟩),v])∧OwnR 43 73 plL Lo v (ps.map (·.1))∧(∀x∈ps,PlIs D x.1 x.2)∧ps.map (·.2)=R.2∧
  (∀p,D0 p→D p)∧Good R.1∧R.1.acts=[]∧DevMem D R.1 q∧Sx [] w w' (Lo++devL g R.1 q) D []
theorem Sx.after {S:List Nat} {w0 w w':World} {D0 D:Dat} {L:List Blk} (h:Sx S w0 w [] D0 []) (hs:Sx [] w w' L D []):Sx S w0 w' L D []:=by
 have h1:=h.take hs.st;rw[List.append_nil] at h1;exact⟨h1.st,hs.data,hs.apart,by simp,by simp,by simp,by simp⟩
instance ctxApp {Lo L0 X:List Blk} {C:List Blk→List Blk} [h:Ctx L0 X C]:Ctx (Lo++L0) X (fun Y=>Lo++C Y):=⟨by rw[←h.eq],fun Y=>((h.perm Y).append_left Lo).trans (by rw[←List.append_assoc,←List.append_assoc];exact List.perm_append_comm.append_right _)⟩
instance sltPl:SlT 26 43:=⟨Tryz.underlying26⟩
theorem yaD {D:Dat} {Lo:List Blk} {v:Value} {ps:List (Pl×Cm)} (ho:OwnR 43 73 plL Lo v (ps.map (·.1))) (hp:∀x∈ps,PlIs D x.1 x.2):
  (ps=[]∧∃p c,v=.slice p 0 c)∨∃g c,v=.slice (some ⟨g,0,none⟩) ps.length c∧0<ps.length∧∀(w wr:World) (L:List Blk) (D:Dat),Sx [] w wr (Lo++L) D []→LastAt (snap wr) (.pointer (some ⟨g,(ps.length-1)*73+4,none⟩)) (lastS (ps.map (·.2))):=by
 rcases ho with⟨_,⟨p,rfl⟩,h⟩ |⟨g,c,C,rfl,rfl,h1,h2,h3,h4⟩
 ·exact Or.inl ⟨List.map_eq_nil_iff.1 h,p,0,rfl⟩
 ·by_cases h0:ps.length=0
  ·have:ps=[]:=List.length_eq_zero_iff.1 h0
   subst this;exact Or.inl ⟨rfl,_,_,rfl⟩
  ·have hlt:ps.length-1<ps.length:=by omega
   have hx:=hp _ (List.getElem_mem hlt)
   have hl:lastS (ps.map (·.2))=some (ps[ps.length-1]).2.sl:=by
    unfold lastS;rw[List.getLast?_map,List.getLast?_eq_getElem?,List.getElem?_eq_getElem hlt];rfl
   have hso:=(slOk_iff _).1 hx.ok;have hin:ps.length-1<(ps.map (·.1)).length:=by rw[List.length_map];exact hlt
   refine Or.inr ⟨g,c,by rw[List.length_map],by omega,fun w wr L D hst=>?_⟩;rw[hl];have h512:=hso.2.2.2.2.2.2.2.2.2;refine LastAt.some (SealAt.of (C:=C) (Tb:=43) ⟨_,hst.st.blk _ (by simp)⟩ (fun j v hj=>?_)) (by omega) ⟨by have:=hso.1;omega,hso.2.1⟩
   have hj69:j<69:=by
    have h5:=(List.getElem?_eq_some_iff.1 hj).1
    rwa [encSl.len] at h5
   have h5:=OwnR.cells (enc:=plL) h4 hin (j:=4+j) (by omega);rw[Nat.add_assoc,h5,List.getElem_map,←hj,←hx.sl,Nat.add_comm 4 j];rfl
theorem yaE {last:Option Sl} {clock:Int} {l:List Pu} {start:Int} (hl:l.length≤5) (ht:∀x∈l,x.text.size≤999999) (hb:(mkTx l start).1.length≤1000000):(makeB last clock l start).length≤100000:=by
 unfold makeB;have h1:=putBlocks_len (lastN last) l ht;have h2:=splL_len 68 (lastN last) (mkTx l start).1 hb;rw[List.length_append,List.length_append,List.length_singleton];omega
theorem yaF {l:List Pu} (hl:l.length≤1000000) (hw:∀x∈l,x.e.Wf) (ht:∀x∈l,x.text.size≤999999):I64 (needF l).1:=by
 by_cases h:(needF l).2=0
 ·have:=(need_ok h hl hw ht).1
  unfold I64;omega
 ·have h0:(needF l).1=0:=by
   unfold needF at h ⊢;split
   ·rfl
   ·rename_i h1
    rw[if_neg h1] at h;split
    ·rfl
    ·rename_i h2
     rw[if_neg h2] at h;exact absurd rfl h
  rw[h0];unfold I64;omega
set_option maxHeartbeats 16000000 in
theorem yaG {D0:Dat} {p:Option Addr} {c:Nat} {l:List Rw} (hr:RowAt D0 62 1 rwL p c l) (hrs:∀r∈l,RowAt D0 68 40 puL r.p r.c r.l) (h6:l.length≤6)
  (hw:∀r∈l,r.l.length≤5∧(∀x∈r.l,x.e.Wf)∧∀x∈r.l,x.text.size≤400) (w:World) (hD:Holds D0 w) (hU:GSums w) (hGB:GBegin w) (hGS:GSha w):
  Calls Tryz.prog 9 #[.slice p l.length c] w (yaC D0 w (comF (l.map (·.l)))):=by
 have hst:=Sx.start0 w hD;have HNw:=Lib.hid (fun wx hx=>dnew_calls (D:=D0) 100 (by decide) (by decide) wx hx);have HG:Hid (∀wx,Below w.heap.size w wx→GSums wx∧GBegin wx∧GSha wx):=Lib.hid (fun wx hb=>⟨hU.below hb,hGB.below hb,hGS.below hb⟩);have HR0:Hid (comGo 0 ((l.map (·.l)).drop 0) dC []=comF (l.map (·.l))):=Lib.hid rfl;generalize comF (l.map (·.l))=R at*;clear hU hGB hGS;go_enter Tryz.func9,Tryz.ntmps9;go_wp2_with fail;refine(HNw.out _ hst.data).mono ?_;rintro e w2 ⟨g,F,rfl,hd,hb,hF⟩;have hst2:=hst;clear hst
 have hst:Sx [] w w2 [] D0 F:=by
  have h1:=hst2.below hb;exact⟨h1.st,hd.data,h1.apart,hd.lt,fun x _ p hp=>by simp at hp,hd.apart,fun x hx=>Or.inr (Nat.le_trans hst2.st.size (hF x hx))⟩
 clear hst2;obtain⟨q,m0,hFq,hst1⟩:=hst.openDev hd;clear hst;have hst:Sx [] w w2 (devL g dC q++[]) D0 []:=hst1;rw[List.append_nil] at hst;have m:DevMem D0 dC q:=m0;clear hd hb hF HNw hFq m0 hst1;go_wp2_with fail;go_loopw [6,7] (fun ov iv wr=>∃(k:Nat) (d:Dv) (q:Dp) (Lo:List Blk) (D:Dat) (ps:List (Pl×Cm)),k≤l.length∧iv=.int .i64 k∧Hid (comGo k ((l.map (·.l)).drop k) d (ps.map (·.2))=R)∧Hid (OwnR 43 73 plL Lo ov (ps.map (·.1)))∧Hid (∀x∈ps,PlIs D x.1 x.2)∧Hid (∀p,D0 p→D p)∧Hid (Good d∧d.acts=[]∧ps.length≤k)∧DevMem D d q∧Sx [] w wr (Lo++devL g d q) D []) (fun _ iv _=>l.length-(intOf iv).toNat)
 case atStart=>exact⟨0,dC,q,[],D0,[],Nat.zero_le _,by go_num,HR0,Lib.hid (OwnR.none none),Lib.hid (by simp),Lib.hid (fun p h=>h),Lib.hid ⟨⟨rfl,rfl⟩,rfl,Nat.le_refl _⟩,m,hst⟩
 case round=>
  clear hst HR0 m;obtain⟨k,d,q,Lo,D,ps,hk,rfl,HC,HO,HP,HS,HGd,m,hst⟩:=hrel
  by_cases hlt:k<l.length
  ·obtain⟨g0,off,rfl⟩:=hr.at_some hlt
   have hld:LdD D 62 ⟨g0,off+k,none⟩ (.slice l[k].p l[k].l.length l[k].c):=(hr.mono HS.out).ld1 hlt rfl;have hrx:=hrs _ (List.getElem_mem hlt);obtain⟨hx5,hxw,hxt⟩:=hw _ (List.getElem_mem hlt);rw[List.drop_eq_getElem_cons (by rw[List.length_map];exact hlt),List.getElem_map] at HC;generalize l[k]=x at*;have hxt9:∀y∈x.l,y.text.size≤999999:=fun y hy=>Nat.le_trans (hxt y hy) (by decide)
   have hni:=yaF (l:=x.l) (by omega) hxw hxt9;have HN:=Lib.hid (fun wx L' D' (h:Sx [] w wx L' D' []) (hs:∀p,D0 p→D' p)=>need_calls wx ((hrx.mono hs).mono (fun p hp=>h.data p hp)) (by omega) hxt9 hxw (HG.out _ h.end).2.1 (HG.out _ h.end).2.2);have HPl:=Lib.hid (fun F wx (hd:DevW D F wx g d)=>place_calls hd (needF x.l).1 hni);have hrng:=placeF_rng m.ok (needF x.l).1;have hat:comAt d x.l=(placeF d (needF x.l).1).1:=rfl;have HM:=Lib.hid (fun lv wx L' D' (h:Sx [] w wx L' D' []) (hs:∀p,D0 p→D' p) (hl:LastAt (snap wx) lv (lastS (ps.map (·.2))))=>make_calls (clock:=(k:Int)) (start:=comAt d x.l) wx hl ((hrx.mono hs).mono (fun p hp=>h.data p hp)) (by omega) hxt9 hxw (by rw[hat];omega) (yax hx5 hxw) (by omega) (HG.out _ h.end).2.1 (HG.out _ h.end).2.2 (HG.out _ h.end).1);have HC2:(if comNo d (lastS (ps.map (·.2))) k x.l then comGo (k+1) ((l.map (·.l)).drop (k+1)) d (ps.map (·.2)) else comGo (k+1) ((l.map (·.l)).drop (k+1)) (comD d (comC d (lastS (ps.map (·.2))) k x.l)) (ps.map (·.2)++[comC d (lastS (ps.map (·.2))) k x.l]))=R:=HC.out;have HNo:comNo d (lastS (ps.map (·.2))) k x.l=true→Hid (comGo (k+1) ((l.map (·.l)).drop (k+1)) d (ps.map (·.2))=R):=fun h=>Lib.hid (by rw[if_pos h] at HC2;exact HC2)
   have HYes:comNo d (lastS (ps.map (·.2))) k x.l=false→Hid (comGo (k+1) ((l.map (·.l)).drop (k+1)) (comD d (comC d (lastS (ps.map (·.2))) k x.l)) (ps.map (·.2)++[comC d (lastS (ps.map (·.2))) k x.l])=R):=fun h=>Lib.hid (by rw[if_neg (by simp[h])] at HC2;exact HC2)
   have HCw:makeErr (lastS (ps.map (·.2))) k x.l (comAt d x.l)=0→(placeF d (needF x.l).1).2=true→Hid ((∀b∈makeB (lastS (ps.map (·.2))) k x.l (comAt d x.l),b.size=128)∧(needF x.l).1=(makeB (lastS (ps.map (·.2))) k x.l (comAt d x.l)).length∧(cWrite d (comAt d x.l) (needF x.l).1 (makeB (lastS (ps.map (·.2))) k x.l (comAt d x.l))).2=0∧Good (comD d (comC d (lastS (ps.map (·.2))) k x.l))∧(comD d (comC d (lastS (ps.map (·.2))) k x.l)).acts=[]∧slOk (mkSl (lastS (ps.map (·.2))) k x.l (comAt d x.l))=true∧(makeB (lastS (ps.map (·.2))) k x.l (comAt d x.l)).length≤100000):=fun h hp=>Lib.hid (by
    have h1:=yav h hxt9 (yax hx5 hxw);have h2:=yaf HGd.out.1 hp h1.1 h1.2
    exact⟨h1.2,h1.1,h2.1,h2.2.1,h2.2.2,(yau h).2.2,yaE hx5 hxt9 (yax hx5 hxw)⟩)
   have hxl5:=Lib.hid hx5;clear HC HC2 hni hxw hxt hxt9 hx5;have hnod:comNo d (lastS (ps.map (·.2))) k x.l=(decide ((needF x.l).2≠0)|| !(placeF d (needF x.l).1).2||decide (makeErr (lastS (ps.map (·.2))) k x.l (comAt d x.l)≠0)):=rfl;rw[hat] at hnod HM HCw;obtain⟨N,hN⟩:∃N,needF x.l=N:=⟨_,rfl⟩;rw[hN] at HPl hrng hnod HCw HN HM;obtain⟨P,hP⟩:∃P,placeF d N.1=P:=⟨_,rfl⟩;rw[hP] at HPl hrng hnod HCw HM;obtain⟨n,f⟩:=N;obtain⟨at_,ok⟩:=P;simp only at HPl hrng hnod HCw HN HM
   have hcd:(comC d (lastS (ps.map (·.2))) k x.l)=⟨at_,n,makeB (lastS (ps.map (·.2))) k x.l at_,(lay at_ 0 x.l).1,mkSl (lastS (ps.map (·.2))) k x.l at_⟩:=by
    have h1:comAt d x.l=at_:=by rw[hat,hN];simp only;rw[hP]
    unfold comC;rw[h1,hN]
   obtain⟨E,hE⟩:∃E,makeErr (lastS (ps.map (·.2))) k x.l at_=E:=⟨_,rfl⟩
   rw[hE] at hnod HCw
   have HQ:(decide (f≠0)=true∧Hid (comGo (k+1) ((l.map (·.l)).drop (k+1)) d (ps.map (·.2))=R))∨(f=0∧ok=false∧Hid (comGo (k+1) ((l.map (·.l)).drop (k+1)) d (ps.map (·.2))=R))∨(f=0∧ok=true∧decide (E≠0)=true∧Hid (comGo (k+1) ((l.map (·.l)).drop (k+1)) d (ps.map (·.2))=R))∨(f=0∧ok=true∧E=0):=by
    by_cases h1:f=0
    ·cases ok with
     |false=>exact Or.inr (Or.inl ⟨h1,rfl,HNo (by rw[hnod];simp)⟩)
     |true=>
      by_cases h2:E=0
      ·exact Or.inr (Or.inr (Or.inr ⟨h1,rfl,h2⟩))
      ·exact Or.inr (Or.inr (Or.inl ⟨h1,rfl,by simpa using h2,HNo (by rw[hnod];simp[h2])⟩))
    ·exact Or.inl ⟨by simpa using h1,HNo (by rw[hnod];simp[h1])⟩
   have HYes2:f=0→ok=true→E=0→Hid (comGo (k+1) ((l.map (·.l)).drop (k+1)) (comD d (comC d (lastS (ps.map (·.2))) k x.l)) (ps.map (·.2)++[comC d (lastS (ps.map (·.2))) k x.l])=R):=fun h1 h2 h3=>HYes (by rw[hnod,h1,h2,h3];rfl)
   clear HNo HYes hnod hat hrx;replace hN:=Lib.hid hN;replace hP:=Lib.hid hP;replace hE:=Lib.hid hE;replace hcd:=Lib.hid hcd;replace HQ:=Lib.hid HQ;replace HCw:=Lib.hid HCw;replace HYes2:=Lib.hid HYes2;have HL:=yaD HO.out HP.out;clear hr hrs hw;obtain⟨cms,hcms⟩:∃cms,ps.map (·.2)=cms:=⟨_,rfl⟩;rw[hcms] at HQ HCw HYes2 hcd hE HM HL;replace hcms:=Lib.hid hcms;rcases HL with⟨h0,p0,c0,rfl⟩ |⟨gb,cb,rfl,hpos,HLA⟩
   case' inl=>
    have HLA:Hid (∀(w wr:World) (L:List Blk) (D:Dat),Sx [] w wr (Lo++L) D []→LastAt (snap wr) (.pointer none) (lastS cms)):=Lib.hid (fun _ _ _ _ _=>by rw[←hcms.out,h0];exact LastAt.none);clear h0;go_wp2_with (first|(with_reducible refine xval rfl 31 rfl (.bool false) (fun w=>Fx.e_gtr rfl rfl rfl (by decide) w) ?_)|(with_reducible refine xd rfl rfl rfl hst ?_))
   case' inr=>
    replace HLA:=Lib.hid HLA;have hps:=HGd.out.2.2;have hpc:=Lib.hid (show((ps.length:Int)-1)=((ps.length-1:Nat):Int) by omega);go_wp2_with (first|(with_reducible refine xval rfl 31 rfl (.bool true) (fun w=>Fx.e_gtr rfl rfl rfl (decide_eq_true (by omega)) w) ?_)|(with_reducible refine xval rfl 34 rfl (.int .i64 ((ps.length-1:Nat):Int)) (fun w=>by rw[←hpc.out];exact Fx.e_sub rfl rfl rfl (by omega) w) ?_)|(with_reducible refine xd rfl rfl rfl hst ?_));clear hpc hpos hps
   all_goals
    have hkl:=Lib.hid hlt;rcases HQ.out with⟨hf,HC2⟩ |⟨hf,hok,HC2⟩ |⟨hf,hok,hen,HC2⟩ |⟨hf,hok,he⟩
    ·replace hf:=Lib.hid hf
     go_wp2_with (first|(with_reducible refine xval rfl 52 rfl (.bool true) (fun w=>Fx.e_neq rfl rfl rfl hf.out w) ?_)|(with_reducible refine callB (HN.out _ _ _ hst HS.out) hst ?_;clear hst;intro w' hst)|(with_reducible refine callOr (fun F wx hd=>HPl.out F wx hd) hst m ?_;clear hst;intro w' hst)|fail);go_roundw
     case rel=>exact⟨k+1,d,q,Lo,D,ps,by omega,by go_num,Lib.hid (by rw[hcms.out];exact HC2.out),HO,HP,HS,Lib.hid ⟨HGd.out.1,HGd.out.2.1,by have:=HGd.out.2.2;omega⟩,m,hst⟩
     case measure=>simp[intOf];omega
    ·subst hf hok
     go_wp2_with (first|(with_reducible refine xval rfl 52 rfl (.bool false) (fun w=>Fx.e_neq rfl rfl rfl (by decide) w) ?_)|(with_reducible refine callB (HN.out _ _ _ hst HS.out) hst ?_;clear hst;intro w' hst)|(with_reducible refine callOr (fun F wx hd=>HPl.out F wx hd) hst m ?_;clear hst;intro w' hst)|fail);go_roundw
     case rel=>exact⟨k+1,d,q,Lo,D,ps,by omega,by go_num,Lib.hid (by rw[hcms.out];exact HC2.out),HO,HP,HS,Lib.hid ⟨HGd.out.1,HGd.out.2.1,by have:=HGd.out.2.2;omega⟩,m,hst⟩
     case measure=>simp[intOf];omega
    ·subst hf hok
     replace hen:=Lib.hid hen;go_wp2_with (first|(with_reducible refine xval rfl 52 rfl (.bool false) (fun w=>Fx.e_neq rfl rfl rfl (by decide) w) ?_)|(with_reducible refine callB (HN.out _ _ _ hst HS.out) hst ?_;clear hst;intro w' hst)|(with_reducible refine callOr (fun F wx hd=>HPl.out F wx hd) hst m ?_;clear hst;intro w' hst)|(with_reducible refine xd rfl rfl rfl hst ?_));refine(HM.out _ _ _ _ hst HS.out (HLA.out _ _ _ _ hst)).mono ?_;rintro e w5 ⟨p,LoB,LoE,rfl,hs5,hpost⟩;rw[hE.out];clear hpost;replace hst:=hst.take hs5;clear hs5;go_wp2_with (first|(with_reducible refine xval rfl 69 rfl (.bool true) (fun w=>Fx.e_neq rfl rfl rfl hen.out w) ?_)|(with_reducible first|(refine xsa rfl rfl rfl rfl hst ?_;clear hst;intro w' hst)|(refine xnw rfl rfl hst ?_;clear hst;intro bn w' hst)));go_roundw
     case rel=>exact⟨k+1,d,q,Lo,D,ps,by omega,by go_num,Lib.hid (by rw[hcms.out];exact HC2.out),HO,HP,HS,Lib.hid ⟨HGd.out.1,HGd.out.2.1,by have:=HGd.out.2.2;omega⟩,m,(hst.drop).dropL⟩
     case measure=>simp[intOf];omega
    ·subst hf hok he
     have HW0:=HCw.out rfl rfl;have HC2:=HYes2.out rfl rfl rfl;go_wp2_with (first|(with_reducible refine xval rfl 52 rfl (.bool false) (fun w=>Fx.e_neq rfl rfl rfl (by decide) w) ?_)|(with_reducible refine callB (HN.out _ _ _ hst HS.out) hst ?_;clear hst;intro w' hst)|(with_reducible refine callOr (fun F wx hd=>HPl.out F wx hd) hst m ?_;clear hst;intro w' hst)|(with_reducible refine xd rfl rfl rfl hst ?_));refine(HM.out _ _ _ _ hst HS.out (HLA.out _ _ _ _ hst)).mono ?_;rintro e w5 ⟨p,LoB,LoE,rfl,hs5,hpost⟩;rw[hE.out] at hpost ⊢;replace hst:=(hst.take hs5).lay;obtain⟨st,ct,pb,nb,cb',pe,ne,ce,sl⟩:=p;obtain⟨r1,r2,r3,hown,hents⟩:=hpost rfl;simp only at r1 r2 r3 hown hents;subst r1 r3;rw[hN.out] at r2;simp only at r2;subst r2;clear hpost HQ HCw HYes2 HM HN HPl HLA;obtain⟨D',hD'⟩:∃D':Dat,(fun p=>D p∨p∈LoB++LoE)=D':=⟨_,rfl⟩;rw[hD'] at hst;have hDD:∀p,D p→D' p:=fun p hp=>by rw[←hD'];exact Or.inl hp
     have hDB:∀p∈LoB,D' p:=fun p hp=>by rw[←hD'];exact Or.inr (List.mem_append_left _ hp)
     have hDE:∀p∈LoE,D' p:=fun p hp=>by rw[←hD'];exact Or.inr (List.mem_append_right _ hp)
     clear hD';replace m:=m.mono hDD;obtain⟨hsz,hnl,hw0,hgd,hac,hok0,hlb⟩:=HW0
     have hnb:nb=(makeB (lastS cms) k x.l st).length:=by
      obtain⟨_,_,h1⟩:=hown.slice;injection h1
     have hne:ne=(lay st 0 x.l).1.length:=by
      obtain⟨_,_,h1⟩:=hents.slice;injection h1
     subst hnb hne;have rowB:=hown.rowAt (Nat.le_trans hlb (by decide)) hDB;have rowE:=hents.rowAt (by rw[lay_len];have:=hxl5.out;omega) hDE;clear hown hents hDB hDE
     have HWr:=Lib.hid (fun F wx (hd:DevW D' F wx g d)=>(show Calls Tryz.prog 25 #[.pointer (some ⟨g,0,none⟩),.agg (plL ⟨st,ct,pb,(makeB (lastS cms) k x.l st).length,cb',pe,(lay st 0 x.l).1.length,ce,mkSl (lastS cms) k x.l st⟩).toArray] wx (DevRet (.int .i64 0) D' F wx g (comD d (comC d (lastS cms) k x.l))) by
      have h1:=cwrite_calls (start:=st) (count:=ct) (pe:=pe) (ne:=(lay st 0 x.l).1.length) (ce:=ce) (sl:=mkSl (lastS cms) k x.l st) hd rowB (fun s hs=>by rw[hsz s hs];decide) ⟨hrng.1,by have:=hrng.2;omega⟩ hlb (by rw[HGd.out.2.1];simp only[List.length_nil];omega);rw[hw0] at h1;have h2:(cWrite d st ct (makeB (lastS cms) k x.l st)).1=comD d (comC d (lastS cms) k x.l):=by rw[hcd.out];rfl
      rw[h2] at h1
      exact h1))
     have HPi:Hid (PlIs D' ⟨st,ct,pb,(makeB (lastS cms) k x.l st).length,cb',pe,(lay st 0 x.l).1.length,ce,mkSl (lastS cms) k x.l st⟩ (comC d (lastS cms) k x.l)):=Lib.hid (by rw[hcd.out];exact⟨rfl,rfl,rfl,rfl,rowB,rfl,rowE,hok0⟩);clear rowB rowE hsz hnl hw0 hok0 hlb;replace HP:=Lib.hid (fun y hy=>(HP.out y hy).mono hDD);replace HS:=Lib.hid (fun p hp=>hDD p (HS.out p hp));clear hDD;have hpl:(ps.map (·.1)).length+1≤1000000000:=by rw[List.length_map];have:=HGd.out.2.2;omega
     generalize comC d (lastS cms) k x.l=cc at*;generalize hpp:(⟨st,ct,pb,(makeB (lastS cms) k x.l st).length,cb',pe,(lay st 0 x.l).1.length,ce,mkSl (lastS cms) k x.l st⟩:Pl)=pp at*;have hlq:=HGd.out.2.2;clear hpp HGd;go_wp2_with (first|(with_reducible first|refine xa rfl rfl rfl hst ?_|(refine xsa rfl rfl rfl rfl hst ?_;clear hst;intro w' hst)|(refine xnw rfl rfl hst ?_;clear hst;intro bn w' hst))|(with_reducible refine callO (fun F wx hd=>HWr.out F wx hd) hst m ?_;clear hst m;intro w7 q7 hst m)|(with_reducible refine xmk rfl 76 rfl hst (plL pp).toArray 43 (fun b=>.slice (some ⟨b,0,none⟩) 1 1) (fun w=>by kernel_rfl) ?_;clear hst;intro b w' hst)|(with_reducible (refine xap1 (T:=43) rfl _ _ rfl pp rfl rfl rfl hst.drop2 HO.out rfl hpl ?_);clear hst;intro p4 c4 w4 Lo4 hown4 hst));rw[List.length_map] at hown4;go_roundw
     case rel=>exact⟨k+1,comD d cc,q7,Lo4,D',ps++[(pp,cc)],by omega,by go_num,Lib.hid (by rw[List.map_append,hcms.out];exact HC2.out),Lib.hid (by rw[List.map_append];exact hown4),Lib.hid (by rintro y hy;rcases List.mem_append.1 hy with hy |hy;exact HP.out y hy;obtain rfl:=List.mem_singleton.1 hy;exact HPi.out),HS,Lib.hid ⟨hgd,hac,by rw[List.length_append,List.length_singleton];omega⟩,m,hst⟩
     case measure=>simp[intOf];omega
  ·obtain rfl:k=l.length:=by omega
   go_wp2_with fail;go_ret2;rw[List.drop_of_length_le (by rw[List.length_map];exact Nat.le_refl _)] at HC;have hR:=HC.out;unfold comGo at hR;subst hR;exact⟨g,_,Lo,D,q,ps,rfl,HO.out,HP.out,rfl,HS.out,HGd.out.1,HGd.out.2.1,m,hst⟩
end Go.Proofs.YtdkeiefgkgpcbaaGreatDoor
