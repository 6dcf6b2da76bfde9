/- Steps of the proof: RestG, TwiceP, MountG. -/
import Derived.Test.YtdkeiefgkgpcbaaGreatDoorT01
import Derived.Test.YtdkeiefgkgpcbaaGreatDoorT03
set_option linter.unusedVariables false
set_option linter.unusedSimpArgs false
set_option maxRecDepth 100000
namespace Go.Proofs.YtdkeiefgkgpcbaaGreatDoor
open Go.RowKit
theorem yby {d:Dv} {t:Tt} {gs:List Gr} {clock:Nat} (hk:KeysAre gs clock (fun z=>(∃i:Nat,z=i∧(dStates d)[i]? =some 1)∧¬covR (runsF t false++allR (chainF d)) z))
  {l:List (Fin 1024)} (hn:(l.map (fun x=>x.val)).Nodup) (hm:∀z:Int,(∃x∈l,(x.val:Int)=z)↔∃g∈gs,g.key=z) {l':List (Fin 1024)} (hp:l'.Perm l) (hs:l'.Pairwise (fun a b=>a.val≤b.val)):l'.length=(restF d t).length∧l'.flatMap rn1=(restF d t).flatMap rnL:=by
 have hnd:(l'.map (fun x=>x.val)).Nodup:=(hp.map _).nodup_iff.2 hn
 have e:l'.map (fun x=>x.val)=restI d t:=by
  refine ybx ?_ ?_ (fun x=>?_)
  ·have h1:(l'.map (fun x=>x.val)).Pairwise (· ≤ ·):=List.pairwise_map.2 hs
   have h2:(l'.map (fun x=>x.val)).Pairwise (fun a b=>a≤b∧a≠b):=List.Pairwise.and h1 hnd;exact h2.imp fun h=>by omega
  ·exact List.Pairwise.filter _ List.pairwise_lt_range
  ·rw[ybw]
   constructor
   ·intro hx
    obtain⟨y,hy,rfl⟩:=List.mem_map.1 hx;obtain⟨g,hg,e1⟩:=(hm (y.val:Int)).1 ⟨y,hp.mem_iff.1 hy,rfl⟩;obtain⟨⟨i,e2,h2⟩,h3⟩:=(hk.ks _).1 ⟨g,hg,e1⟩;have:y.val=i:=by omega
    rw[this] at h3 ⊢;exact⟨h2,h3⟩
   ·rintro⟨h1,h2⟩
    obtain⟨g,hg,e1⟩:=(hk.ks (x:Int)).2 ⟨⟨x,rfl,h1⟩,h2⟩;obtain⟨y,hy,e2⟩:=(hm (x:Int)).2 ⟨g,hg,e1⟩;exact List.mem_map.2 ⟨y,hp.mem_iff.2 hy,by omega⟩
 unfold restF;rw[←e];refine⟨by simp,?_⟩;rw[List.map_map,List.flatMap_map];rfl
set_option maxHeartbeats 8000000 in
theorem ybz {D:Dat} {F:List Nat} {w:World} {g:Nat} {d:Dv} (h:DevW D F w g d) {v:Tv} (hT:TtAt D v) (hrun:∀r∈runsF v.t false,(0≤r.s∧r.s≤1099511627776)∧r.c≤1099511627776) (hrl:(runsF v.t false).length≤100000) (hU:GSums w) (hGB:GBegin w) (hGS:GSha w):
  Calls Tryz.prog 48 #[.pointer (some ⟨g,0,none⟩),.agg (ttL v).toArray] w (OwnRet 36 2 rnL (restF d v.t) w):=by
 have hst:=Sx.start0 w h.data;have hmax:=h.ok.max;have hSt:=Lib.hid (fun wx (hb:Below w.heap.size w wx)=>dstates_calls (h.below hb));have HCh:=Lib.hid (fun wx (hb:Below w.heap.size w wx)=>chain_calls (h.below hb) (hU.below hb) (hGB.below hb) (hGS.below hb));obtain⟨hcl,hck⟩:=chainF_ok d h.ok;have hsl:(dStates d).length≤512:=by unfold dStates;rw[List.length_map];exact hmax
 have HLv:Hid (∀wx,Holds D wx→Calls Tryz.prog 50 #[.agg (ttL v).toArray] wx (OwnRet 36 2 rnL (runsF v.t false) wx)):=Lib.hid (fun wx hx=>ybp hT (by omega) wx hx);have HEnd:Hid (∀(gs:List Gr) (clock:Nat),KeysAre gs clock (fun z=>(∃i:Nat,z=i∧(dStates d)[i]? =some 1)∧¬covR (runsF v.t false++allR (chainF d)) z)→∀(l l':List (Fin 1024)),(l.map (fun x=>x.val)).Nodup→(∀z:Int,(∃x∈l,(x.val:Int)=z)↔∃g∈gs,g.key=z)→l'.Perm l→l'.Pairwise (fun a b=>a.val≤b.val)→l'.length=(restF d v.t).length∧l'.flatMap rn1=(restF d v.t).flatMap rnL):=Lib.hid (fun gs clock hk l l' h0 h1 h2 h3=>yby hk h0 h1 h2 h3);have HCk:=Lib.hid hck;have HRn:=Lib.hid hrun;clear hck h hmax hrun hT;generalize chainF d=ch at*;generalize restF d v.t=RF at*;generalize dStates d=ss at*;generalize runsF v.t false=lv0 at*;obtain⟨p,c,k0,l⟩:=v;have hC:(ttL ⟨p,c,k0,l⟩).toArray=tC k0 (.slice p l.length c):=rfl;rw[hC] at HLv ⊢;generalize Value.slice p l.length c=qv at*;clear hC;go_enter Tryz.func48,Tryz.ntmps48;go_wp2_with (first|((with_reducible refine xmm rfl rfl hst ?_);clear hst;intro m w' hm;have hst:=hm.start)|(with_reducible refine xba rfl rfl hst rfl ?_;clear hst;intro bb w' hst));refine(hSt.out _ (hm.move hst).sx.end).mono ?_;rintro e w2 ⟨v,Lo,rfl,hown,hs2⟩;obtain⟨b3,rfl⟩:∃b,b=bb:=⟨_,rfl⟩;have hm:=(hm.move (hst.take hs2)).lay;obtain⟨p0,c0,rfl,hrow⟩:=hown.row (by omega) (D:=fun p=>D p∨p∈Lo) (fun p hp=>Or.inr hp);have HS1:Hid (∀p,D p→(fun p=>D p∨p∈Lo) p):=Lib.hid (fun p hp=>Or.inl hp);generalize (fun p=>D p∨p∈Lo)=D1 at*;clear hst hs2 hown hSt;have hst:=hm.start;go_wp2_with fail;go_loopw [22] (fun iv wr=>∃(k:Nat) (gs:List Gr) (clock:Nat),k≤ss.length∧iv=.int .i64 k∧Hid (KeysAre gs clock (fun z=>∃i:Nat,i<k∧z=i∧ss[i]? =some 1))∧Mx [] w wr [(b3,tC k0 qv,31)] D1 m (mapO gs clock)) (fun iv _=>ss.length-(intOf iv).toNat)
 case atStart=>exact⟨0,[],0,Nat.zero_le _,by go_num,Lib.hid (KeysAre.none _ fun z h=>by obtain⟨i,hi,_⟩:=h;omega),hm.move hst⟩
 case round=>
  clear hst hm;obtain⟨k,gs,clock,hk,rfl,HI,hm⟩:=hrel;have hst:=hm.start
  by_cases hlt:k<ss.length
  ·obtain⟨g1,off,rfl⟩:=hrow.at_some hlt
   have hld:=hrow.ld1 hlt rfl;have hgk:ss[k]? =some ss[k]:=List.getElem?_eq_getElem hlt;generalize ss[k]=sk at*
   by_cases h1:sk=1
   ·subst h1
    have HG:=Lib.hid hgk;clear hgk;go_wp2_with (first|((with_reducible refine xmu rfl rfl hm hst rfl rfl rfl ?_);clear hst hm;intro w' hm;have hst:=hm.start)|(with_reducible refine xd rfl rfl rfl hst ?_));go_roundw
    case rel=>exact⟨k+1,_,_,by omega,by go_num,Lib.hid ((HI.out.put (n:=(k:Int)) _ (fun h=>by obtain⟨i,hi,e,_⟩:=h;omega)).iff fun z=>⟨fun h=>by
     rcases h with⟨i,hi,e,e2⟩ |rfl
     ·exact⟨i,by omega,e,e2⟩
     ·exact⟨k,by omega,rfl,HG.out⟩,fun h=>by
     obtain⟨i,hi,e,e2⟩:=h
     by_cases hik:i=k
     ·subst hik;exact Or.inr e
     ·exact Or.inl ⟨i,by omega,e,e2⟩⟩),hm⟩
    case measure=>simp[intOf];omega
   ·have HG:Hid (ss[k]? ≠some 1):=Lib.hid (by rw[hgk];intro e;injection e;omega)
    clear hgk;go_wp2_with (with_reducible refine xd rfl rfl rfl hst ?_);go_roundw
    case rel=>exact⟨k+1,gs,clock,by omega,by go_num,Lib.hid (HI.out.iff fun z=>⟨fun h=>by
     obtain⟨i,hi,e,e2⟩:=h;exact⟨i,by omega,e,e2⟩,fun h=>by
     obtain⟨i,hi,e,e2⟩:=h
     by_cases hik:i=k
     ·subst hik;exact absurd e2 HG.out
     ·exact⟨i,by omega,e,e2⟩⟩),hm.move hst⟩
    case measure=>simp[intOf];omega
  ·obtain rfl:k=ss.length:=by omega
   replace HI:Hid (KeysAre gs clock (fun z=>∃i:Nat,z=i∧ss[i]? =some 1)):=Lib.hid (HI.out.iff fun z=>⟨fun h=>by obtain⟨i,_,e,e2⟩:=h;exact⟨i,e,e2⟩,fun h=>by obtain⟨i,e,e2⟩:=h;exact⟨i,(List.getElem?_eq_some_iff.1 e2).1,e,e2⟩⟩);go_wp2_with fail;refine(HCh.out _ (hm.move hst).sx.end).mono ?_;rintro e w3 ⟨v1,v2,Lo1,Lo2,rfl,hown1,hown2,hs3⟩;have hm:=(hm.move (hst.take hs3)).lay;obtain⟨p1,c1,rfl,hrow1⟩:=hown1.row (by rw[List.length_map];omega) (D:=fun p=>D1 p∨p∈Lo1++Lo2) (fun p hp=>Or.inr (by simp[hp]));obtain⟨p2,c2,rfl,hrow2⟩:=hown2.row (by rw[List.length_map];omega) (D:=fun p=>D1 p∨p∈Lo1++Lo2) (fun p hp=>Or.inr (by simp[hp]));have HS2:Hid (∀p,D p→(fun p=>D1 p∨p∈Lo1++Lo2) p):=Lib.hid (fun p hp=>Or.inl (HS1.out p hp));generalize (fun p=>D1 p∨p∈Lo1++Lo2)=D2 at*;rw[List.length_map,List.length_map];clear hst hs3 hown1 hown2 HCh;have hst:=hm.start;go_wp2_with (with_reducible refine xa rfl rfl rfl hst ?_);refine(HLv.out _ (fun p hp=>hst.data p (HS2.out p hp))).mono ?_;rintro e w4 ⟨v3,Lo3,rfl,hown3,hs4⟩;replace hst:=(hst.take hs4).perm (perm_bk (b3,tC k0 qv,31) Lo3);have HO3:=Lib.hid hown3;clear hs4 hown3 HLv;go_wp2_with fail;go_loopw [10,41] (fun lv iv wr=>∃(k:Nat) (Lo:List Blk),k≤ch.length∧iv=.int .i64 k∧Hid (OwnR 36 2 rnL Lo lv (lv0++allR (ch.take k)))∧Sx ([(b3,tC k0 qv,31)].map (·.1)) w3 wr ((b3,tC k0 qv,31)::(Lo++[])) D2 []) (fun _ iv _=>ch.length-(intOf iv).toNat)
   case atStart=>exact⟨0,Lo3,Nat.zero_le _,by go_num,Lib.hid (by have:=HO3.out;simpa[allR] using this),hst⟩
   case round=>
    clear hst HO3;obtain⟨k,Lo,hk2,rfl,HO,hst⟩:=hrel
    by_cases hlt2:k<ch.length
    ·obtain⟨g1,off1,rfl⟩:=hrow1.at_some (i:=k) (by rw[List.length_map];exact hlt2)
     obtain⟨g2,off2,rfl⟩:=hrow2.at_some (i:=k) (by rw[List.length_map];exact hlt2);have hld1:=hrow1.lda (i:=k) (by rw[List.length_map];exact hlt2);have hld2:LdD D2 3 ⟨g2,off2+k*1,none⟩ (.int .i64 ((ch.map (·.at_))[k]'(by rw[List.length_map];exact hlt2))):=by rw[Nat.mul_one];exact hrow2.ld1 (by rw[List.length_map];exact hlt2) rfl
     rw[List.getElem_map] at hld1 hld2;have HS:Hid (lv0++allR (ch.take (k+1))=(lv0++allR (ch.take k))++[⟨ch[k].s.start,ch[k].s.count⟩,⟨ch[k].at_,1⟩]):=Lib.hid (by rw[List.take_succ_eq_append_getElem hlt2];unfold allR;rw[List.flatMap_append];simp);have hal:(lv0++allR (ch.take k)).length=lv0.length+2*min k ch.length:=by rw[List.length_append,allR_len,List.length_take]
     generalize ch[k]=x at*;generalize lv0++allR (ch.take k)=al at*;have hown:=HO.out;obtain⟨pa,ca,rfl⟩:=hown.slice;have hal2:al.length≤102000:=by omega
     have HAl:=Lib.hid hal;clear hal HO;go_wp2_with (with_reducible first|refine xd rfl rfl rfl hst ?_|(refine xsa rfl rfl rfl rfl hst ?_;clear hst;intro w' hst)|(refine xnw rfl rfl hst ?_;clear hst;intro bn w' hst));obtain⟨b12,rfl⟩:∃b,b=bn:=⟨_,rfl⟩;refine Fx.wp_region_flow ⟨[b3],w3,D2,[],fun w=>∃L',(b12,slC x.s,41)∈L'∧Sx [b3] w3 w L' D2 [],fun i=>i==8||i==9,fun i=> !(i==2||i==6),fun _=>false⟩ (List.range 11) rfl hst (by kernel_rfl) (by kernel_rfl) (by kernel_rfl) (by kernel_rfl) (by kernel_rfl) ?_;show Fx.wpLX _ _ _ [0,1,2,3,4,5,6,7,8,9,10] _ (Fx.mkO [] _);refine Fx.val rfl rfl rfl rfl (v:=.slice pa al.length ca) (Fx.e_mv rfl rfl) ?_;refine Fx.val rfl rfl rfl rfl (Fx.e_fa rfl rfl) ?_;refine Fx.rd rfl rfl rfl rfl (v:=.agg #[.int .i64 x.s.start,.int .i64 x.s.count]) (fun w h=>⟨_,by simp,h⟩) (fun w h=>by obtain⟨L',hm,hs⟩:=h;obtain⟨L2,hs⟩:=hs.front hm;exact Fx.r_a rfl rfl w hs) ?_;refine Fx.val rfl rfl rfl rfl (v:=.slice (some ⟨g2,off2,none⟩) ch.length c2) (Fx.e_mv rfl rfl) ?_;refine Fx.val rfl rfl rfl rfl (v:=.int .i64 k) (Fx.e_mv rfl rfl) ?_;refine Fx.ix rfl rfl rfl rfl rfl rfl rfl (by omega) ?_;refine Fx.rd rfl rfl rfl rfl (v:=.int .i64 x.at_) (fun w h=>⟨_,by simp,h⟩) (fun w h=>by obtain⟨L',hm,hs⟩:=h;exact Fx.r_d rfl rfl w hs) ?_;refine Fx.val rfl rfl rfl rfl (v:=.agg #[.int .i64 x.at_,.int .i64 1]) (fun w=>by kernel_rfl) ?_;refine Fx.mk2 (TS:=98) rfl rfl rfl rfl rfl (run_bs2r x.s.start x.s.count x.at_ 1) ?_;intro b8;refine⟨Or.inr (fun w h=>⟨_,by simp,h⟩),?_⟩;refine Fx.apL (TS:=98) (Lo:=Lo) (R:=(b8,#[.int .i64 x.s.start,.int .i64 x.s.count,.int .i64 x.at_,.int .i64 1],36)::(b12,slC x.s,41)::(b3,tC k0 qv,31)::[]) (ms:=[⟨x.s.start,x.s.count⟩,⟨x.at_,1⟩]) (C:=#[.int .i64 x.s.start,.int .i64 x.s.count,.int .i64 x.at_,.int .i64 1]) (T':=36) rfl rfl rfl (perm_count fun x=>by simp only[List.count_append,List.count_cons,List.count_nil];omega) rfl rfl hown rfl (by simp) rfl (by simp;omega) ?_;intro q1 d1 Lo' hown1;refine⟨Or.inr (fun w h=>⟨_,by simp,h⟩),?_⟩;refine Fx.val rfl rfl rfl rfl (v:=.slice q1 (al.length+2) d1) (Fx.e_as rfl rfl) ?_;clear hst;intro w' hst;have hst:Sx [b3] w3 w' ((b3,tC k0 qv,31)::(Lo'++[])) D2 []:=((hst.perm (perm_ee ..)).drop).drop;simp only[Fx.nxt_some,Fx.nxt_none,Fx.mkO_cons,Fx.mkO_nil,Fx.evO_eq];go_wp2_with fail;go_roundw
     case rel=>exact⟨k+1,Lo',by omega,by go_num,Lib.hid (by rw[HS.out];exact hown1),hst⟩
     case measure=>simp[intOf];omega
    ·obtain rfl:k=ch.length:=by omega
     rw[List.take_length] at HO;have hal:(lv0++allR ch).length=lv0.length+2*ch.length:=by rw[List.length_append,allR_len]
     have hown:=HO.out
     have HAm:Hid (∀r∈lv0++allR ch,(0≤r.s∧r.s≤1099511627776)∧r.c≤1099511627776):=Lib.hid (fun r hr=>by
      rcases List.mem_append.1 hr with hr |hr
      ·exact HRn.out r hr
      ·obtain⟨x,hx,hr2⟩:=List.mem_flatMap.1 hr
       obtain⟨h1,h2,h3⟩:=HCk.out x hx;have h4:=(slOk_iff _).1 h1;unfold SlOk at h4;simp only[List.mem_cons,List.not_mem_nil,or_false] at hr2;rcases hr2 with rfl |rfl
       ·simp only;omega
       ·simp only;omega)
     generalize lv0++allR ch=al at*;obtain⟨pa,ca,rfl⟩:=hown.slice;have hm:=(hm.move (hst.perm (perm_bk (b3,tC k0 qv,31) Lo).symm)).lay;obtain⟨p4,c4,hv4,hrow4⟩:=hown.row (by omega) (D:=fun p=>D2 p∨p∈Lo) (fun p hp=>Or.inr hp);injection hv4 with e1 e2 e3
     subst e1 e3;generalize (fun p=>D2 p∨p∈Lo)=D3 at*;have hal3:al.length≤102000:=by omega
     clear hst hown HO hal hrow1 hrow2 HRn HCk;have hst:=hm.start;go_wp2_with fail;go_loopw [59] (fun iv wr=>∃(j:Nat) (gs:List Gr) (clock:Nat),j≤al.length∧iv=.int .i64 j∧Hid (KeysAre gs clock (fun z=>(∃i:Nat,z=i∧ss[i]? =some 1)∧¬covR (al.take j) z))∧Mx [] w wr [(b3,tC k0 qv,31)] D3 m (mapO gs clock)) (fun iv _=>al.length-(intOf iv).toNat)
     case atStart=>exact⟨0,gs,clock,Nat.zero_le _,by go_num,Lib.hid (HI.out.iff fun z=>⟨fun h=>⟨h,fun hc=>by obtain⟨x,hx,_⟩:=hc;simp at hx⟩,fun h=>h.1⟩),hm.move hst⟩
     case round=>
      clear hst hm HI;obtain⟨j,gs,clock,hj,rfl,HI,hm⟩:=hrel;have hst:=hm.start
      by_cases hlt3:j<al.length
      ·obtain⟨g4,off4,rfl⟩:=hrow4.at_some hlt3
       have hld4:=hrow4.lda hlt3;have hxr:=HAm.out _ (List.getElem_mem hlt3);have HT:Hid (al.take (j+1)=al.take j++[al[j]]):=Lib.hid (List.take_succ_eq_append_getElem hlt3);generalize al[j]=x at*;go_wp2_with (with_reducible first|refine x1 rfl rfl rfl hst ?_|refine xd rfl rfl rfl hst ?_|(refine xsa rfl rfl rfl rfl hst ?_;clear hst;intro w' hst)|(refine xnw rfl rfl hst ?_;clear hst;intro bn w' hst));obtain⟨b14,rfl⟩:∃b,b=bn:=⟨_,rfl⟩;have hm:=hm.move hst;go_loopw [65] (fun iv wr=>∃(q:Nat) (gs:List Gr) (clock:Nat),q≤x.c.toNat∧iv=.int .i64 q∧Hid (KeysAre gs clock (fun z=>((∃i:Nat,z=i∧ss[i]? =some 1)∧¬covR (al.take j) z)∧¬(x.s≤z∧z<x.s+q)))∧Mx [] w wr [(b14,#[.int .i64 x.s,.int .i64 x.c],36),(b3,tC k0 qv,31)] D3 m (mapO gs clock)) (fun iv _=>x.c.toNat-(intOf iv).toNat)
       case atStart=>exact⟨0,gs,clock,Nat.zero_le _,by go_num,Lib.hid (HI.out.iff fun z=>⟨fun h=>⟨h,fun hc=>by omega⟩,fun h=>h.1⟩),hm⟩
       case round=>
        clear hst hm HI;obtain⟨q,gs,clock,hq,rfl,HI,hm⟩:=hrel;have hst:=hm.start
        by_cases hlt5:(q:Int)<x.c
        ·have HD:=Lib.hid (HI.out.del (x.s+q))
         go_wp2_with (first|((with_reducible refine xdel rfl rfl (by kernel_rfl) (by kernel_rfl) hm hst rfl rfl ?_);clear hst hm;intro w' hm;have hst:=hm.start)|(with_reducible refine x1 rfl rfl rfl hst ?_));go_roundw
         case rel=>exact⟨q+1,_,clock,by omega,by go_num,Lib.hid (HD.out.iff fun z=>⟨fun h=>⟨h.1.1,fun hc=>by
          have h1:=h.1.2;have h2:=h.2;push_cast at hc
          omega⟩,fun h=>by
          have h1:=h.2;push_cast at h1
          exact⟨⟨h.1,fun hc=>h1 (by omega)⟩,fun hc=>h1 (by omega)⟩⟩),hm⟩
         case measure=>simp[intOf];omega
        ·go_wp2_with fail
         go_roundw
         case rel=>exact⟨j+1,gs,clock,by omega,by go_num,Lib.hid (HI.out.iff fun z=>by
          rw[HT.out];constructor
          ·rintro⟨⟨h1,h2⟩,h3⟩
           refine⟨h1,?_⟩;rintro⟨y,hy,h4,h5⟩;rcases List.mem_append.1 hy with hy |hy
           ·exact h2 ⟨y,hy,h4,h5⟩
           ·obtain rfl:=List.mem_singleton.1 hy
            exact h3 (by omega)
          ·rintro⟨h1,h2⟩
           exact⟨⟨h1,fun⟨y,hy,h4⟩=>h2 ⟨y,by simp[hy],h4⟩⟩,fun hc=>h2 ⟨x,by simp,by omega⟩⟩),(hm.move hst).drop⟩
         case measure=>simp[intOf];omega
      ·obtain rfl:j=al.length:=by omega
       rw[List.take_length] at HI;have HE:=Lib.hid (HEnd.out gs clock HI.out)
       have HFin:Hid (∀g∈gs,∃x:Fin 1024,g.key=(x.val:Int)∧x.val<512):=Lib.hid (fun g hg=>by
        obtain⟨⟨i,e,e2⟩,_⟩:=(HI.out.ks g.key).1 ⟨g,hg,rfl⟩;have:=(List.getElem?_eq_some_iff.1 e2).1
        exact⟨⟨i,by omega⟩,e,by simp only;omega⟩)
       have hold:=Lib.hid HI.out.old;have hbn:=Lib.hid HI.out.bn;have hkn:=Lib.hid HI.out.nd;clear HEnd hrow4 HAm hrow HI;obtain⟨w9,hw9⟩:∃w9,w9=wr:=⟨_,rfl⟩;subst hw9;go_wp2_with (first|((with_reducible refine xrgA rfl rfl hm hst rfl ?_);clear hst;intro it w' hit;have hst:=hit.start)|fail);simp only[Act.put,List.setIfInBounds_toArray,List.set_cons_succ,List.set_cons_zero];go_loopw [16] (fun lv wr=>∃(fl:List (Fin 1024)) (seen:Array Nat) (Lo:List Blk) (c0:Nat),clock≤c0∧Hid ((fl.map (fun x=>x.val)).Nodup∧(∀g∈gs,seen.contains g.born=true↔∃x∈fl,(x.val:Int)=g.key)∧∀x∈fl,x.val<512∧∃g∈gs,g.key=(x.val:Int))∧Hid (OwnR 36 2 rn1 Lo lv fl)∧Mx ([(b3,tC k0 qv,31)].map (·.1)) w9 wr (Lo++[(b3,tC k0 qv,31)]) D3 it (iterO m clock seen c0)) (fun lv _=>512-slLen lv)
       case atStart=>exact⟨[],#[],[],clock,Nat.le_refl _,Lib.hid ⟨by simp,fun g hg=>by simp,by simp⟩,Lib.hid (OwnR.none _),hit⟩
       case round=>
        clear hst hit;obtain⟨fl,seen,Lo,c0,hc0,HI,HO,hit⟩:=hrel;have hst:=hit.start
        have hfl:fl.length≤512:=by
         have:=ybg 512 _ HI.out.1 (fun x hx=>by obtain⟨y,hy,rfl⟩:=List.mem_map.1 hx;exact(HI.out.2.2 y hy).1);simpa using this
        by_cases hall:∀g∈gs,seen.contains g.born=true
        ·have HM:=Lib.hid (fun l'=>HE.out fl l' HI.out.1 (fun z=>⟨fun⟨x,hx,e⟩=>by
          obtain⟨g,hg,e2⟩:=(HI.out.2.2 x hx).2;exact⟨g,hg,by omega⟩,fun⟨g,hg,e⟩=>by
          obtain⟨x,hx,e2⟩:=(HI.out.2.1 g hg).1 (hall g hg)
          exact⟨x,hx,by omega⟩⟩))
         clear HI HE;go_wp2_with (first|(with_reducible refine xnxN rfl rfl hm hit rfl hold.out hc0 hall ?_)|fail);refine ybu HO.out hst (by omega) ?_;clear hst;intro w' Lo' l' hp hs hown' hst;go_wp2_with fail;go_ret;obtain⟨h1,h2⟩:=HM.out l' hp hs;exact⟨_,Lo',rfl,ybh hown' h1 h2,(hm.move (hit.move hst).sx0).sx0.takeL.st⟩
        ·have hown:=HO.out
         obtain⟨pa,ca,rfl⟩:=hown.slice;have HN:=Lib.hid hall;clear hall HE;go_wp2_with (first|((with_reducible refine xnxS rfl rfl hm hit rfl hold.out hc0 HN.out ?_);clear hst hit;intro gx hgx hsx w' hit;obtain⟨x,hxk,hx5⟩:=HFin.out gx hgx;rw[hxk];have hst:=hit.start)|(with_reducible refine xenA rfl rfl hm hit rfl hgx hbn.out hxk ?_)|(with_reducible refine xval rfl 83 rfl (.agg #[.int .i64 (x.val:Int),.int .i64 1]) (fun w=>by kernel_rfl) ?_)|fail |(with_reducible refine xmk rfl 84 rfl hst (rn1 x).toArray 36 (fun b=>.slice (some ⟨b,0,none⟩) 1 1) (fun w=>by kernel_rfl) ?_;clear hst;intro b w' hst)|(with_reducible refine xap1 (T:=36) rfl _ _ rfl x rfl rfl rfl hst hown rfl (by omega) ?_;clear hst;intro p5 c5 w5 Lo5 hown5 hst))
         have HI2:Hid (((fl++[x]).map (fun x=>x.val)).Nodup∧(∀g∈gs,(seen.push gx.born).contains g.born=true↔∃y∈fl++[x],(y.val:Int)=g.key)∧∀y∈fl++[x],y.val<512∧∃g∈gs,g.key=(y.val:Int)):=Lib.hid (by
          obtain⟨i1,i2,i3⟩:=HI.out;refine⟨?_,fun g hg=>?_,fun y hy=>?_⟩
          ·rw[List.map_append,List.nodup_append]
           refine⟨i1,by simp,fun a ha b hb e=>?_⟩;obtain⟨y,hy,rfl⟩:=List.mem_map.1 ha;simp at hb;have:=(i2 gx hgx).2 ⟨y,hy,by omega⟩;rw[hsx] at this
           cases this
          ·rw[contains_push,Bool.or_eq_true,i2 g hg,beq_iff_eq]
           constructor
           ·rintro(⟨y,hy,e⟩ |e)
            ·exact⟨y,by simp[hy],e⟩
            ·obtain rfl:=ybf hbn.out hg hgx e
             exact⟨x,by simp,hxk.symm⟩
           ·rintro⟨y,hy,e⟩
            rcases List.mem_append.1 hy with hy |hy
            ·exact Or.inl ⟨y,hy,e⟩
            ·obtain rfl:=List.mem_singleton.1 hy
             right;rw[ybe hkn.out hg hgx (by omega)]
          ·rcases List.mem_append.1 hy with hy |hy
           ·exact i3 y hy
           ·obtain rfl:=List.mem_singleton.1 hy
            exact⟨hx5,gx,hgx,hxk⟩)
         have hfl2:fl.length+1≤512:=by
          have:=ybg 512 _ HI2.out.1 (fun x hx=>by obtain⟨y,hy,rfl⟩:=List.mem_map.1 hx;exact(HI2.out.2.2 y hy).1);simpa using this
         go_roundw
         case rel=>exact⟨fl++[x],_,Lo5,clock,Nat.le_refl _,HI2,Lib.hid hown5,hit.move hst⟩
         case measure=>simp[slLen];omega
def StmB (s:Stm):Prop:=s.recs.length≤64∧∀r∈s.recs,recOk r=true
def TtB (t:Tt):Prop:=t.l.length≤8∧∀s∈t.l,StmB s
theorem ybA:StmB stm0:=⟨Nat.zero_le _,by intro r hr;cases hr⟩
theorem tt0_b:TtB tt0:=⟨Nat.zero_le _,by intro s hs;cases hs⟩
theorem ybB {s:Stm} {e:Ent} (h:StmB s):StmB (doesF s e).1:=by
 unfold doesF;split
 ·unfold addR
  split
  ·exact h
  ·rename_i h1
   simp only[Bool.or_eq_true,decide_eq_true_eq,not_or] at h1;split
   ·exact h
   ·rename_i h2
    simp only[Bool.or_eq_true,not_or,Bool.not_eq_true',Bool.not_eq_false] at h2;refine⟨?_,fun r hr=>?_⟩
    ·have:=h.1
     show(s.recs++[recOf e]).length≤64;rw[List.length_append,List.length_singleton];omega
    ·rcases List.mem_append.1 (show r∈s.recs++[recOf e] from hr) with hr |hr
     ·exact h.2 r hr
     ·obtain rfl:=List.mem_singleton.1 hr;exact h2.1
 ·split
  ·exact h
  ·split
   ·exact h
   ·split
    ·exact h
    ·split
     ·unfold shrF
      split
      ·exact h
      ·rename_i h1
       split
       ·exact h
       ·refine⟨by show(s.recs.set _ _).length≤64;rw[List.length_set];exact h.1,fun r hr=>?_⟩
        rcases List.mem_or_eq_of_mem_set (show r∈s.recs.set _ _ from hr) with hr |rfl
        ·exact h.2 r hr
        ·have hlt:e.n.toNat<s.recs.length:=by omega
         have:=h.2 (s.recs.getD e.n.toNat rec0) (by rw[List.getD_eq_getElem?_getD,List.getElem?_eq_getElem hlt];exact List.getElem_mem hlt);exact this
     ·exact h
theorem ybC {s:Stm} {e:Ent} (h:StmB s):StmB (applySm s e).1:=by
 unfold applySm;split
 ·exact ybA
 ·split
  ·exact ybB h
  ·exact ybA
theorem ybD {t:Tt} {e:Ent} (h:TtB t):TtB (applyTt t e).1:=by
 unfold applyTt;split
 ·exact tt0_b
 ·split
  ·unfold createF
   split
   ·exact tt0_b
   ·split
    ·exact tt0_b
    ·split
     ·exact tt0_b
     ·rename_i h8
      refine⟨?_,fun s hs=>?_⟩
      ·have:=h.1
       show(t.l++[stmNew e.name]).length≤8;rw[List.length_append,List.length_singleton];omega
      ·rcases List.mem_append.1 (show s∈t.l++[stmNew e.name] from hs) with hs |hs
       ·exact h.2 s hs
       ·obtain rfl:=List.mem_singleton.1 hs;exact⟨Nat.zero_le _,by intro r hr;cases hr⟩
  ·split
   ·exact tt0_b
   ·rename_i h1
    split
    ·exact tt0_b
    ·split
     ·have hlt:e.stream.toNat<t.l.length:=by omega
      have hsb:StmB (t.l.getD e.stream.toNat stm0):=h.2 _ (by rw[List.getD_eq_getElem?_getD,List.getElem?_eq_getElem hlt];exact List.getElem_mem hlt);refine⟨by show(t.l.set _ _).length≤8;rw[List.length_set];exact h.1,fun s hs=>?_⟩;rcases List.mem_or_eq_of_mem_set (show s∈t.l.set _ _ from hs) with hs |rfl
      ·exact h.2 s hs
      ·exact ybC hsb
     ·exact tt0_b
theorem ybE:∀(es:List Ent) {t:Tt},TtB t→TtB (allGo es t).1
 | [],t,h=>h
 |e::l,t,h=>by
  unfold allGo;split
  ·exact ybE l (ybD h)
  ·exact tt0_b
theorem ybF {t:Tt} {es:List Ent} {clock:Int} (h:TtB t):TtB (allTt t es clock).1:=by
 unfold allTt;split
 ·exact tt0_b
 ·exact ybE es (t:=⟨clock,t.l⟩) h
theorem ybG {d:Dv}:∀(l:List Sl) {t t':Tt},TtB t→loadGo d l t=some t'→TtB t'
 | [],t,t',h,e=>by injection e with e;exact e ▸ h
 |x::l,t,t',h,e=>by
  unfold loadGo at e;split at e
  ·split at e
   ·exact ybG l (ybF h) e
   ·cases e
  ·cases e
theorem ybH (d:Dv):TtB (loadF d).1:=by
 unfold loadF;split
 ·exact tt0_b
 ·split
  ·exact tt0_b
  ·split
   ·exact tt0_b
   ·rename_i t ht;exact ybG _ tt0_b ht
theorem ybI {α β:Type} {g:α→List β} {k:Nat}:∀ {l:List α},(∀x∈l,(g x).length≤k)→(l.flatMap g).length≤k*l.length
 | [],_=>by simp
 |x::l,h=>by
  have h1:=h x (by simp);have h2:=ybI (fun y hy=>h y (List.mem_cons_of_mem _ hy));rw[List.flatMap_cons,List.length_append,List.length_cons,Nat.mul_add];omega
theorem ybJ {t:Tt} (h:TtB t) (b:Bool):(runsF t b).length≤512∧∀r∈runsF t b,(0≤r.s∧r.s≤512)∧r.c≤512:=by
 constructor
 ·have:=ybI (g:=fun s:Stm=>ybi b s.recs) (k:=64) (l:=t.l) (fun s hs=>by
   unfold ybi;rw[List.length_map]
   exact Nat.le_trans (List.length_filter_le ..) (h.2 s hs).1)
  have h8:=h.1;show(t.l.flatMap fun s=>ybi b s.recs).length≤512;omega
 ·intro r hr
  obtain⟨s,hs,hr⟩:=List.mem_flatMap.1 (show r∈t.l.flatMap fun s=>ybi b s.recs from hr);obtain⟨x,hx,rfl⟩:=List.mem_map.1 hr;have h1:=(h.2 s hs).2 x (List.mem_filter.1 hx).1;unfold recOk at h1;simp only[Bool.and_eq_true,decide_eq_true_eq] at h1;obtain⟨_,_,h2,h3,h4,h5,h6⟩:=h1;simp only;refine⟨by omega,?_⟩;rw[h6];unfold pkCount;rw[if_neg (by omega)];omega
theorem Good.erase {d:Dv} (h:Good d) {k:Nat} (hs:dState d k=1):dErase d k=(dPut d (.erase k),0):=by
 unfold dErase dBlock;rw[h.on,hs];simp only[show ¬((1:Int)<0) by decide,and_false,if_false,ne_eq,not_true_eq_false,show ¬((1:Int)=0) by decide,show ¬((1:Int)=2) by decide];unfold dDo;rw[h.fails];rfl
theorem ybK {d:Dv} {k:Nat} {z:Int} (hz:0≤z) (h:dState d k=z):k<d.now.length∧(d.now.getD k b0).st=z:=by
 unfold dState at h;split at h
 ·omega
 ·exact⟨by omega,h⟩
theorem ybL {d:Dv} {k:Nat} (hk:k<d.now.length) (j:Nat):(dPut d (.erase k)).now.getD j b0=if j=k then⟨2,noS⟩ else d.now.getD j b0:=by
 unfold dPut Ac.at_ doneF;simp only[Int.toNat_natCast,List.getD_eq_getElem?_getD,List.getElem?_set]
 by_cases hj:k=j
 ·subst hj;simp[hk]
 ·rw[if_neg hj,if_neg (Ne.symm hj)]
theorem ybM {d:Dv} {k n:Nat} (h:Good d) (hs:dState d k=1):erIn k (min (max (1:Int) 0) 512).toNat 0 d n=(dPut d (.erase k),n+1,0):=by
 have e:(min (max (1:Int) 0) 512).toNat=1:=by decide
 rw[e];unfold erIn;have e0:((k:Int)+(0:Nat))=(k:Nat):=by omega
 rw[e0,if_neg (by rw[hs];decide),h.erase hs,if_neg (by simp)];rfl
theorem ybN:∀(l:List Nat) (d:Dv) (n:Nat),Good d→(∀i∈l,dState d i=1)→l.Nodup→∃d2,erGo (l.map fun i:Nat=>(⟨i,1⟩:Rn)) d n=(d2,n+l.length,0)∧Good d2∧d2.now.length=d.now.length∧∀k,d2.now.getD k b0=if k∈l then⟨2,noS⟩ else d.now.getD k b0
 | [],d,n,h,_,_=>⟨d,rfl,h,rfl,fun k=>by simp⟩
 |i::l,d,n,h,hs,hn=>by
  rw[List.nodup_cons] at hn;have h1:=hs i (by simp);have hk:=(ybK (by decide) h1).1;have hw:=ybL (d:=d) hk;have hlen:(dPut d (.erase i)).now.length=d.now.length:=by unfold dPut;simp
  obtain⟨d2,e1,e2,e3,e4⟩:=ybN l (dPut d (.erase i)) (n+1) (h.put _) (fun j hj=>by
   have hne:j≠i:=fun e=>hn.1 (e ▸ hj)
   have h2:=hs j (by simp[hj]);unfold dState at h2 ⊢;rw[hlen];split at h2
   ·omega
   ·rename_i h3
    rw[if_neg h3,Int.toNat_natCast,hw,if_neg hne]
    exact h2) hn.2
  refine⟨d2,?_,e2,e3.trans hlen,fun k=>?_⟩
  ·rw[List.map_cons]
   unfold erGo;simp only[ybM h h1];rw[if_neg (by simp),e1,List.length_cons,show n+1+l.length=n+(l.length+1) by omega]
  ·rw[e4 k,hw]
   by_cases hkl:k∈l
   ·rw[if_pos hkl,if_pos (by simp[hkl])]
   ·rw[if_neg hkl]
    by_cases hki:k=i
    ·rw[if_pos hki,if_pos (by simp[hki])]
    ·rw[if_neg hki,if_neg (by simp[hkl,hki])]
structure Less (d d2:Dv) (l:List Nat):Prop where
 good:Good d2
 len:d2.now.length=d.now.length
 at_:∀k,d2.now.getD k b0=if k∈l then⟨2,noS⟩ else d.now.getD k b0
theorem ybO {d:Dv} {l:List Nat} (h:Good d) (hac:d.acts=[]) (hs:∀i∈l,dState d i=1) (hn:l.Nodup):(ybb d (l.map fun i:Nat=>(⟨i,1⟩:Rn))).2=0∧Less d (ybb d (l.map fun i:Nat=>(⟨i,1⟩:Rn))).1 l∧(ybb d (l.map fun i:Nat=>(⟨i,1⟩:Rn))).1.acts=[]:=by
 obtain⟨d2,e1,e2,e3,e4⟩:=ybN l d 0 h hs hn;unfold ybb;rw[e1];simp only[ne_eq,not_true_eq_false,if_false,Nat.zero_add]
 by_cases h0:l.length=0
 ·rw[if_pos h0]
  obtain rfl:=List.length_eq_zero_iff.1 h0;have:d2=d:=by injection e1 with e1;exact e1.symm
  subst this;exact⟨rfl,⟨e2,e3,e4⟩,hac⟩
 ·rw[if_neg h0,e2.flush]
  exact⟨rfl,⟨⟨e2.off,e2.left⟩,e3,e4⟩,rfl⟩
theorem ybP {α:Type} {p q:α→Bool} {x:α}:∀ {l:List α},l.find? q=some x→p x=true→(l.filter p).find? q=some x
 | [],h,_=>by cases h
 |y::l,h,hp=>by
  rw[List.find?_cons] at h
  cases hq:q y with
  |true=>
   rw[hq] at h;simp only at h;injection h with h
   subst h;rw[List.filter_cons_of_pos hp,List.find?_cons,hq]
  |false=>
   rw[hq] at h;simp only at h
   by_cases hy:p y=true
   ·rw[List.filter_cons_of_pos hy,List.find?_cons,hq]
    exact ybP h hp
   ·rw[List.filter_cons_of_neg (by simpa using hy)]
    exact ybP h hp
theorem ybQ {α:Type} {p q:α→Bool} {l:List α} (h:l.find? q=none):(l.filter p).find? q=none:=by
 rw[List.find?_eq_none] at h ⊢;exact fun x hx=>h x (List.mem_filter.1 hx).1
theorem ybR (fl:List Fnd) (p:Fnd→Bool) (n:Int) (last:Option Sl):chainNext (fl.filter p) n last=((fl.filter (fun f=>f.s.n=n)).filter p).find? (fun f=>slFol f.s last):=by
 unfold chainNext;rw[List.filter_filter,List.filter_filter];congr 1;exact List.filter_congr fun x _=>Bool.and_comm _ _
theorem ybS {fl:List Fnd} {p:Fnd→Bool}:∀(k1 k2:Nat) (n:Int) (last:Option Sl),leftN fl n<k1→leftN (fl.filter p) n<k2→(∀x∈chainGo fl k1 n last,p x=true)→chainGo (fl.filter p) k2 n last=chainGo fl k1 n last
 |0,_,_,_,h,_,_=>absurd h (by omega)
 |_+1,0,_,_,_,h,_=>absurd h (by omega)
 |k1+1,k2+1,n,last,h1,h2,hp=>by
  rw[chainGo,ybR];rw[chainGo] at hp ⊢
  cases hc:chainNext fl n last with
  |none=>rw[ybQ (show(fl.filter (fun f=>f.s.n=n)).find? (fun f=>slFol f.s last)=none from hc)]
  |some f=>
   rw[hc] at hp;have hpf:=hp f (by simp);rw[ybP (show(fl.filter (fun f=>f.s.n=n)).find? (fun f=>slFol f.s last)=some f from hc) hpf];have hm:=List.mem_filter.1 (List.mem_of_find?_eq_some (show(fl.filter (fun f=>f.s.n=n)).find? (fun f=>slFol f.s last)=some f from hc));have hn:f.s.n=n:=by simpa using hm.2
   have l1:=leftN_lt hm.1 hn;have l2:=leftN_lt (List.mem_filter.2 ⟨hm.1,hpf⟩) hn;simp only;rw[ybS k1 k2 (n+1) (some f.s) (by omega) (by omega) (fun x hx=>hp x (List.mem_cons_of_mem _ hx))]
section
variable {d d2:Dv} {l:List Nat}
theorem Less.st (h:Less d d2 l) {i:Int}:dState d2 i=if i.toNat∈l∧0≤i∧i<d.now.length then 2 else dState d i:=by
 unfold dState;rw[h.len]
 by_cases h1:i<0∨(d.now.length:Int)≤i
 ·rw[if_pos h1,if_neg (by omega),if_pos h1]
 ·rw[if_neg h1,h.at_]
  by_cases h2:i.toNat∈l
  ·rw[if_pos h2,if_pos ⟨h2,by omega,by omega⟩]
  ·rw[if_neg h2,if_neg (fun h3=>h2 h3.1),if_neg h1]
theorem Less.read (h:Less d d2 l) (hG:Good d) {i:Int} (hi:i.toNat∉l):dRead d2 i=dRead d i:=by
 have hs:dState d2 i=dState d i:=by rw[h.st,if_neg (fun h3=>hi h3.1)]
 unfold dRead dBlock;rw[h.good.on,hG.on,hs,h.at_,if_neg hi]
theorem Less.fnds (h:Less d d2 l) (hG:Good d) (hl:∀i∈l,i<d.now.length) (n:Nat):fnds d2 n=(fnds d n).filter fun f=>decide (f.at_.toNat∉l):=by
 unfold Go.Proofs.YtdkeiefgkgpcbaaGreatDoor.fnds;rw[List.filter_flatMap];congr 1;funext k;unfold fndAt
 by_cases hk:k∈l
 ·have h2:dState d2 (k:Int)=2:=by rw[h.st,if_pos ⟨by simpa using hk,by omega,by have:=hl k hk;omega⟩]
  have h3:(dRead d2 (k:Int)).2≠0:=by
   unfold dRead dBlock;rw[h.good.on,h2];simp
  rw[if_neg (fun h4=>h3 h4.1)];split
  ·rw[List.filter_cons_of_neg (by simp[hk])]
   rfl
  ·rfl
 ·rw[h.read hG (by simpa using hk)]
  split
  ·rw[List.filter_cons_of_pos (by simp[hk])]
   rfl
  ·rfl
theorem Less.chain (h:Less d d2 l) (hG:Good d) (hl:∀i∈l,i<d.now.length) (hc:∀x∈chainF d,x.at_.toNat∉l):chainF d2=chainF d:=by
 unfold chainF at hc ⊢;rw[h.len,h.fnds hG hl];exact ybS _ _ _ _ (Nat.lt_succ_self _) (Nat.lt_succ_self _) (fun x hx=>by simpa using hc x hx)
theorem Less.blkGo (h:Less d d2 l) (hG:Good d) {start:Int}:∀(k:Nat),(∀i:Nat,i<k→(start+i).toNat∉l)→blkGo d2 start k=blkGo d start k
 |0,_=>rfl
 |k+1,hk=>by
  have ih:=Less.blkGo h hG k (fun i hi=>hk i (by omega));unfold Go.Proofs.YtdkeiefgkgpcbaaGreatDoor.blkGo;rw[ih,h.read hG (hk k (by omega))]
theorem Less.entries (h:Less d d2 l) (hG:Good d) {s:Sl} (hk:∀i:Nat,(i:Int)<s.count→(s.start+i).toNat∉l):entriesF d2 s=entriesF d s:=by
 have hb:blocksF d2 s.start s.count=blocksF d s.start s.count:=by
  unfold blocksF;rw[h.len,h.blkGo hG _ (fun i hi=>hk i (by omega))]
 have hy:bytesF d2 s=bytesF d s:=by
  unfold bytesF;rw[hb]
 unfold entriesF;rw[hy]
theorem ybT:∀(xs:List Sl) (t:Tt),(∀x∈xs,entriesF d2 x=entriesF d x)→loadGo d2 xs t=loadGo d xs t
 | [],_,_=>rfl
 |x::xs,t,h=>by
  unfold loadGo;rw[h x (by simp)];split
  ·split
   ·exact ybT xs _ (fun y hy=>h y (List.mem_cons_of_mem _ hy))
   ·rfl
  ·rfl
end
theorem ybU {d:Dv} (hG:Good d) (hd:d.Ok) (hac:d.acts=[]) {t:Tt} (ht:TtB t) {d2:Dv} (h2:d2=(ybb d (restF d t)).1):(ybb d (restF d t)).2=0∧Good d2∧d2.acts=[]∧loadF d2=loadF d∧restF d2 t=[]:=by
 have hS:∀i:Nat,(dStates d)[i]? =some 1↔dState d i=1:=fun i=>by
  unfold dStates dState;rw[List.getElem?_map]
  by_cases hi:i<d.now.length
  ·rw[List.getElem?_eq_getElem hi,if_neg (by omega),Option.map_some,Int.toNat_natCast,List.getD_eq_getElem?_getD,List.getElem?_eq_getElem hi,Option.getD_some]
   exact⟨fun h=>(by injection h),fun h=>(by rw[h])⟩
  ·rw[List.getElem?_eq_none (by omega),if_pos (by omega)]
   exact⟨fun h=>(by cases h),fun h=>(by omega)⟩
 have hI:∀i∈restI d t,dState d i=1:=fun i hi=>(hS i).1 (ybw.1 hi).1
 have hlt:∀i∈restI d t,i<d.now.length:=fun i hi=>(ybK (by decide) (hI i hi)).1
 have hN:(restI d t).Nodup:=List.Pairwise.filter _ (List.nodup_range);obtain⟨e1,e2,e3⟩:=ybO (l:=restI d t) hG hac hI hN;have hR:restF d t=(restI d t).map fun i:Nat=>(⟨i,1⟩:Rn):=rfl
 rw[hR] at h2 ⊢;rw[←h2] at e2 e3;refine⟨e1,e2.good,e3,?_⟩;have hnc:∀i∈restI d t,¬covR (runsF t false++allR (chainF d)) i:=fun i hi=>(ybw.1 hi).2
 obtain⟨_,hck⟩:=chainF_ok d hd
 have hch:chainF d2=chainF d:=e2.chain hG hlt (fun x hx hm=>by
  have h3:=hck x hx;refine hnc _ hm ⟨⟨x.at_,1⟩,?_,?_⟩
  ·exact List.mem_append.2 (Or.inr (List.mem_flatMap.2 ⟨x,hx,by simp⟩))
  ·simp only;omega)
 have hen:∀x∈(chainF d).map (·.s),entriesF d2 x=entriesF d x:=fun s hs=>by
  obtain⟨x,hx,rfl⟩:=List.mem_map.1 hs;refine e2.entries hG (fun i hi hm=>?_);have h3:=(slOk_iff _).1 (hck x hx).1;unfold SlOk at h3;refine hnc _ hm ⟨⟨x.s.start,x.s.count⟩,?_,?_⟩
  ·exact List.mem_append.2 (Or.inr (List.mem_flatMap.2 ⟨x,hx,by simp⟩))
  ·simp only;omega
 constructor
 ·unfold loadF
  rw[e2.good.off,hG.off,hch,ybT _ _ hen]
 ·unfold restF
  rw[List.map_eq_nil_iff];rw[List.eq_nil_iff_forall_not_mem];intro i hi;obtain⟨h3,h4⟩:=ybw.1 hi;rw[hch] at h4
  have h5:dState d2 i=1:=by
   have hlen:=(List.getElem?_eq_some_iff.1 h3).1;unfold dStates at h3 hlen;rw[List.length_map] at hlen;rw[List.getElem?_map,List.getElem?_eq_getElem hlen,Option.map_some] at h3;unfold dState;rw[if_neg (by omega),Int.toNat_natCast,List.getD_eq_getElem?_getD,List.getElem?_eq_getElem hlen,Option.getD_some];injection h3
  rw[e2.st] at h5;split at h5
  ·cases h5
  ·rename_i h6
   have h7:i∈restI d t:=ybw.2 ⟨(hS i).2 h5,h4⟩;exact h6 ⟨by simpa using h7,by omega,by have:=hlt i h7;omega⟩
def ybV (d:Dv):Dv×Tt×Sl×Int:=
 if(loadF d).2.2=0 then(if(ybb d (restF d (loadF d).1)).2=0 then((ybb d (restF d (loadF d).1)).1,(loadF d).1,(loadF d).2.1,0) else((ybb d (restF d (loadF d).1)).1,tt0,sl0,(ybb d (restF d (loadF d).1)).2)) else(d,tt0,sl0,(loadF d).2.2)
def ybW (D:Dat) (F:List Nat) (w:World) (g:Nat) (x:Dv×Tt×Sl×Int) (e:Ending) (w':World):Prop:=
 ∃(v':Tv) (D2:Dat) (F':List Nat),e=.returned (.tuple #[.agg (ttL v').toArray,.agg (slC x.2.2.1),.int .i64 x.2.2.2])∧v'.t=x.2.1∧TtAt D2 v'∧(∀p,D p→D2 p)∧(∀p,D2 p→D p∨w.heap.size≤p.1)∧DevW D2 F' w' g x.1∧St F w w' []∧∀x∈F',x∈F∨w.heap.size≤x
theorem ybX {d:Dv} (hd:d.Ok) (t:Tt):(restF d t).length≤512∧∀r∈restF d t,-1000000000000≤r.s∧r.s≤1000000000000:=by
 have hl:(dStates d).length≤512:=by unfold dStates;rw[List.length_map];exact hd.max
 constructor
 ·unfold restF restI
  rw[List.length_map];refine Nat.le_trans (List.length_filter_le ..) ?_;rw[List.length_range];exact hl
 ·intro r hr
  obtain⟨i,hi,rfl⟩:=List.mem_map.1 hr;have:=(List.getElem?_eq_some_iff.1 (ybw.1 hi).1).1;simp only;omega
section
variable {S:List Nat} {w0 w:World} {L0:List Blk} {D:Dat} {g:Nat} {d:Dv} {q:Dp} {f:FuncId} {args:Array Value} {K:Ending→World→Prop} {C:List Blk→List Blk}
theorem ybY {x:Tt×Sl×Int} [c:Ctx L0 (devL g d q) C] (hc:∀F,DevW D F w g d→Calls Tryz.prog f args w (LoadLay w D x)) (h:Sx S w0 w L0 D []) (m:DevMem D d q)
  (hk:∀w' v' D',v'.t=x.1→TtAt D' v'→(∀p,D p→D' p)→(∀p,D' p→D p∨w0.heap.size≤p.1)→Sx S w0 w' L0 D' []→K (.returned (.tuple #[.agg (ttL v').toArray,.agg (slC x.2.1),.int .i64 x.2.2])) w'):Calls Tryz.prog f args w K:=by
 have h1:Sx S w0 w (devL g d q++C []) D []:=(show Sx S w0 w (C (devL g d q)) D [] from c.eq ▸ h).perm (c.perm _);obtain⟨F',hd,_,_,_⟩:=h1.closeDev m rfl;refine(hc F' hd).mono ?_;rintro en w' ⟨v',D',rfl,e1,e2,e3,e4,e5⟩;exact hk w' v' D' e1 e2 e3 (fun p hp=>(e4 p hp).imp id (Nat.le_trans h.st.size)) (h.layNew e5 e4)
end
section
variable {D:Dat} {F:List Nat} {w:World} {g:Nat} {d:Dv}
set_option maxHeartbeats 4000000 in
theorem ybZ (h:DevW D F w g d) (hF:NotG F) (hoff:d.off=false) (hac:d.acts.length≤1000) (hU:GSums w) (hGB:GBegin w) (hGS:GSha w):Calls Tryz.prog 20 #[.pointer (some ⟨g,0,none⟩)] w (ybW D F w g (ybV d)):=by
 obtain⟨q,m,hFq,hst⟩:=h.open h.lt;have HG:=Lib.hid (fun wx L D (h:Sx F w wx L D [])=>(⟨hU.of_sx h hF.1,hGB.of_sx h hF.2.2,hGS.of_sx h hF.2.1⟩:GSums wx∧GBegin wx∧GSha wx));have HLd:=Lib.hid (fun(D:Dat) F wx (hd:DevW D F wx g d) (hg:GSums wx∧GBegin wx∧GSha wx)=>yaW hd hoff hg.1 hg.2.1 hg.2.2);have hlb:=ybH d;have hrb:=ybX m.ok (loadF d).1;have HRs:=Lib.hid (fun(D:Dat) F wx (hd:DevW D F wx g d) (hg:GSums wx∧GBegin wx∧GSha wx) (v:Tv) (hv:TtAt D v) (ht:v.t=(loadF d).1)=>ybz hd hv (by rw[ht];exact fun r hr=>by have:=(ybJ hlb false).2 r hr;omega) (by rw[ht];have:=(ybJ hlb false).1;omega) hg.1 hg.2.1 hg.2.2);have HEr:=Lib.hid (fun(D:Dat) F wx (hd:DevW D F wx g d) p c (hr:RowAt D 36 2 rnL p c (restF d (loadF d).1))=>ybd hd hr hrb.2 (by omega));obtain⟨R,hR⟩:∃R,ybV d=R:=⟨_,rfl⟩;rw[hR];unfold ybV at hR;have hlen:=hrb.1;clear hF hoff hac hU hGB hGS h hlb hrb;clear hFq;generalize loadF d=x at*;obtain⟨t,x2,x3⟩:=x;simp only at HLd HRs HEr hR hlen;obtain⟨rf,hrf⟩:∃rf,restF d t=rf:=⟨_,rfl⟩;rw[hrf] at HEr hR hlen
 have HRs2:Hid (∀(D:Dat) F wx,DevW D F wx g d→(GSums wx∧GBegin wx∧GSha wx)→∀v:Tv,TtAt D v→v.t=t→Calls Tryz.prog 48 #[.pointer (some ⟨g,0,none⟩),.agg (ttL v).toArray] wx (OwnRet 36 2 rnL rf wx)):=Lib.hid (fun D F wx hd hg v hv ht=>by
  have:=HRs.out D F wx hd hg v hv ht;rw[ht,hrf] at this
  exact this)
 clear HRs hrf;generalize ybb d rf=er at*;obtain⟨d2,e2⟩:=er;simp only at HEr hR;replace hR:=Lib.hid hR;go_enter Tryz.func20,Tryz.ntmps20;go_wp2_with (first|(with_reducible refine xnwS 2 rfl rfl rfl hst ?_;clear hst;intro b2 w' hst)|(with_reducible refine xnwS 3 rfl rfl rfl hst ?_;clear hst;intro b3 w' hst)|fail);refine ybY (fun F hd=>HLd.out D F _ hd (HG.out _ _ _ hst)) hst m ?_;clear hst;rintro w2 ⟨p',c',k',l'⟩ D2 hvt hT2 hD2 hN2 hst;rw[show(ttL ⟨p',c',k',l'⟩).toArray=[.int .i64 k',.slice p' l'.length c'].toArray from rfl];replace m:=m.mono hD2;clear HLd
 by_cases h0:x3=0
 ·subst h0
  simp only[if_true] at hR;go_wp2_with (first|(with_reducible refine xnwS 5 rfl rfl rfl hst ?_;clear hst;intro b5 w' hst)|(with_reducible refine xnwS 6 rfl rfl rfl hst ?_;clear hst;intro b6 w' hst)|(with_reducible first|refine xa rfl rfl rfl hst ?_|(refine xsa rfl rfl rfl rfl hst ?_;clear hst;intro w' hst)));obtain⟨Fz,hd⟩:=Sx.devW (g:=g) hst m;refine(HRs2.out D2 Fz _ hd (HG.out _ _ _ hst) ⟨p',c',k',l'⟩ hT2 hvt).mono ?_;rintro e w3 ⟨v3,Lo,rfl,hown,hs⟩
  have hN3:∀p,(fun p=>D2 p∨p∈Lo) p→D p∨w.heap.size≤p.1:=fun p hp=>by
   rcases hp with hp |hp
   ·exact hN2 p hp
   ·exact Or.inr (Nat.le_trans hst.st.size ((hs.own p hp).resolve_right (by simp)))
  replace hst:=(hst.take hs).lay;obtain⟨p1,c1,rfl,hrow⟩:=hown.row (by omega) (D:=fun p=>D2 p∨p∈Lo) (fun p hp=>Or.inr hp);have hT3:=hT2.mono (D':=fun p=>D2 p∨p∈Lo) (fun p hp=>Or.inl hp);have hD3:∀p,D p→(fun p=>D2 p∨p∈Lo) p:=fun p hp=>Or.inl (hD2 p hp)
  replace m:=m.mono (D':=fun p=>D2 p∨p∈Lo) (fun p hp=>Or.inl hp);generalize (fun p=>D2 p∨p∈Lo)=D3 at*;clear hd hown hs hT2 hD2 hN2 HRs2;have HEr2:=Lib.hid (fun F wx (hd:DevW D3 F wx g d)=>HEr.out D3 F wx hd p1 c1 hrow)
  by_cases he:e2=0
  ·subst he
   simp only[if_true] at hR;go_wp2_with (first|(with_reducible refine callO (fun F wx hd=>HEr2.out F wx hd) hst m ?_;clear hst m;intro w5 q5 hst m));refine Fx.wp_region_flow ⟨F,w,D3,[],fun wx=>∃L',(b5,tC k' (.slice p' l'.length c'),31)∈L'∧(b6,slC x2,41)∈L'∧Sx F w wx L' D3 [],fun i=>i==2||i==3,fun i=> !(i==0||i==1),fun i=>i==3⟩ (List.range 5) rfl hst (by kernel_rfl) (by kernel_rfl) (by kernel_rfl) (by kernel_rfl) (by kernel_rfl) ?_;show Fx.wpLX _ _ _ [0,1,2,3,4] _ (Fx.mkO [] _);refine Fx.rd rfl rfl rfl rfl (v:=.agg [.int .i64 k',.slice p' l'.length c'].toArray) (fun w h=>⟨_,by simp,by simp,h⟩) (fun w h=>by obtain⟨L',hm,_,hs⟩:=h;obtain⟨L2,hs⟩:=hs.front hm;exact Fx.r_a rfl rfl w hs) ?_;refine Fx.rd rfl rfl rfl rfl (v:=.agg (slC x2)) (fun w h=>⟨_,by simp,by simp,h⟩) (fun w h=>by obtain⟨L',_,hm,hs⟩:=h;obtain⟨L2,hs⟩:=hs.front hm;exact Fx.r_a rfl rfl w hs) ?_;refine Fx.stA rfl rfl rfl rfl rfl (Or.inr (fun w h=>⟨_,by simp,by simp,h⟩)) ?_;refine Fx.stA rfl rfl rfl rfl rfl (Or.inl rfl) ?_;refine Fx.val rfl rfl rfl rfl (v:=.int .i64 0) (Fx.e_as rfl rfl) ?_;clear hst;intro w' hst;simp only[Fx.nxt_some,Fx.nxt_none,Fx.mkO_cons,Fx.mkO_nil,Fx.evO_eq];go_wp2_with fail;refine bodyPost_ret (results3 rfl (res_agg rfl hst.st.has) (res_agg rfl hst.st.has) res_tmp) rfl ?_;obtain⟨F',e3,e4,e5,_⟩:=Sx.closeDev (L:=[]) (by rw[List.append_nil];exact hst.drop.drop.drop.drop) m rfl;rw[←hR.out];exact⟨⟨p',c',k',l'⟩,D3,F',rfl,hvt,hT3,hD3,hN3,e3,e4,e5⟩
  ·simp only[if_neg he] at hR
   have HE:=Lib.hid (decide_eq_true he);go_wp2_with (first|(with_reducible refine xval rfl 22 rfl _ (fun w=>Fx.e_neq rfl rfl rfl HE.out w) ?_)|(with_reducible refine xval rfl 23 rfl (.agg [.int .i64 0,.slice none 0 0].toArray) (fun w=>by kernel_rfl) ?_)|(with_reducible refine xval rfl 24 rfl (.agg (slL sl0).toArray) (fun w=>by kernel_rfl) ?_)|(with_reducible refine xsa rfl rfl rfl rfl hst ?_;clear hst;intro w' hst)|(with_reducible refine callO (fun F wx hd=>HEr2.out F wx hd) hst m ?_;clear hst m;intro w5 q5 hst m));refine bodyPost_ret (results3 rfl (res_agg rfl hst.st.has) (res_agg rfl hst.st.has) res_tmp) rfl ?_;obtain⟨F',e3,e4,e5,_⟩:=Sx.closeDev (L:=[]) (by rw[List.append_nil];exact hst.drop.drop.drop.drop) m rfl;rw[←hR.out];exact⟨tv0,D3,F',rfl,rfl,TtAt.zero _,hD3,hN3,e3,e4,e5⟩
 ·simp only[if_neg h0] at hR
  have HE:=Lib.hid (decide_eq_true h0);have HE2:=Lib.hid (decide_eq_false h0);go_wp2_with (first|(with_reducible refine xnwS 5 rfl rfl rfl hst ?_;clear hst;intro b5 w' hst)|(with_reducible refine xnwS 6 rfl rfl rfl hst ?_;clear hst;intro b6 w' hst)|(with_reducible refine xval rfl 15 rfl _ (fun w=>Fx.e_eql rfl rfl rfl HE2.out w) ?_)|(with_reducible refine xval rfl 22 rfl _ (fun w=>Fx.e_neq rfl rfl rfl HE.out w) ?_)|(with_reducible refine xval rfl 23 rfl (.agg [.int .i64 0,.slice none 0 0].toArray) (fun w=>by kernel_rfl) ?_)|(with_reducible refine xval rfl 24 rfl (.agg (slL sl0).toArray) (fun w=>by kernel_rfl) ?_)|(with_reducible refine xsa rfl rfl rfl rfl hst ?_;clear hst;intro w' hst));refine bodyPost_ret (results3 rfl (res_agg rfl hst.st.has) (res_agg rfl hst.st.has) res_tmp) rfl ?_;obtain⟨F',e3,e4,e5,_⟩:=Sx.closeDev (L:=[]) (by rw[List.append_nil];exact hst.drop.drop.drop.drop) m rfl;rw[←hR.out];exact⟨tv0,D2,F',rfl,rfl,TtAt.zero _,hD2,hN2,e3,e4,e5⟩
end
end Go.Proofs.YtdkeiefgkgpcbaaGreatDoor
