/- Steps of the proof: ScanEnt, Empty, Rest, RestWalk. -/
import Derived.Laws.IdiomRangeMap
import Derived.Test.YtdkeiefgkgpcbaaGreatDoorP22
set_option linter.unusedVariables false
set_option linter.unusedSimpArgs false
set_option maxRecDepth 100000
namespace Go.Proofs.YtdkeiefgkgpcbaaGreatDoor
open Go.RowKit
instance slpRun (s:Sl):PartAt (slC s) 66 2 [.int .i64 s.start,.int .i64 s.count]:=by
 have h:=part_mid (.int .i64 s.n::(hashL s.prev++(hashL s.content++[.int .i64 s.len]))) [.int .i64 s.start,.int .i64 s.count] [.int .i64 s.clock] 66 2 rfl rfl;exact h
theorem joinGo_len {kind ep:Int} {n:Nat}:∀(l:List ByteArray) (i:Nat) (acc s:List UInt8),joinGo kind ep n i l acc=some s→s.length≤acc.length+255*l.length
 | [],i,acc,s,h=>by injection h with h;subst h;simp
 |x::l,i,acc,s,h=>by
  rw[joinGo] at h;split at h
  ·cases h
  ·have h1:=joinGo_len l (i+1) _ s h
   have h2:=frDecF_data (ls x);rw[List.length_append,ls_length] at h1;rw[List.length_cons];omega
theorem joinF_len (kind ep:Int) (l:List ByteArray):(joinF kind ep l).1.length≤255*l.length:=by
 unfold joinF;split
 ·exact Nat.zero_le _
 ·cases h:joinGo kind ep l.length 0 l [] with
  |none=>exact Nat.zero_le _
  |some s=>have:=joinGo_len l 0 [] s h;simpa using this
theorem blocksF_ok {d:Dv} (hd:d.Ok) (start count:Int) (hc:count≤512):(blocksF d start count).1.length≤512∧∀s∈(blocksF d start count).1,s.size≤1000:=by
 unfold blocksF;split
 ·simp
 ·refine⟨?_,blkGo_size hd _⟩
  have:=blkGo_len (d:=d) (start:=start) count.toNat;omega
def bytesF (d:Dv) (s:Sl):List UInt8×Int:=
 if slOk s=false then([],2) else if(blocksF d s.start s.count).2≠0 then([],210) else
  if decide ((joinF 68 s.n (blocksF d s.start s.count).1).2≠0)||(decide (((joinF 68 s.n (blocksF d s.start s.count).1).1.length:Int)≠s.len)||(h32 (shaF (joinF 68 s.n (blocksF d s.start s.count).1).1) !=h32 s.content)) then([],210)
  else((joinF 68 s.n (blocksF d s.start s.count).1).1,0)
set_option maxHeartbeats 8000000 in
theorem bytes_calls {D:Dat} {F:List Nat} {w:World} {g:Nat} {d:Dv} (h:DevW D F w g d) (s:Sl) (hs:s.start≤4611686018427387904) (hGB:GBegin w) (hGS:GSha w) (hU:GSums w):
  Calls Tryz.prog 71 #[.pointer (some ⟨g,0,none⟩),.agg (slC s)] w (Ret (.tuple #[.string (mkS (bytesF d s).1),.int .i64 (bytesF d s).2]) w):=by
 have hst:=Sx.start0 w h.data;obtain⟨R,hR⟩:∃R,bytesF d s=R:=⟨_,rfl⟩;rw[hR];have HR0:∀ {u:List UInt8×Int},R=u→Ending.returned (.tuple #[.string (mkS u.1),.int .i64 u.2])=.returned (.tuple #[.string (mkS R.1),.int .i64 R.2]):=fun e=>by rw[e]
 unfold bytesF at hR;have HK:=Lib.hid (fun wx=>scheck_calls s hs wx)
 cases hok:slOk s
 ·rw[hok] at HK hR
  rw[if_pos rfl] at hR;have HR:=Lib.hid hR.symm;clear hR;go_enter Tryz.func71,Tryz.ntmps71;go_wp2_with (first|(with_reducible first|refine xa rfl rfl rfl hst ?_|(refine xba rfl rfl hst rfl ?_;clear hst;intro bb w' hst))|(with_reducible (refine callB (HK.out _) hst ?_;clear hst;intro w' hst)));go_ret2;exact⟨HR0 HR.out,hst.end⟩
 have hso:=(slOk_iff s).1 hok;unfold SlOk at hso
 have hcnt:0≤s.count∧s.count≤512:=by
  have:0≤pkCount s.len:=by unfold pkCount;split<;>omega
  omega
 rw[hok] at HK hR;rw[if_neg (by simp)] at hR;have HBl:=Lib.hid (fun wx (hb:Below w.heap.size w wx)=>blocks_calls (h.below hb) s.start s.count (by omega) (by omega));obtain⟨hbl,hbs⟩:=blocksF_ok h.ok s.start s.count hcnt.2;generalize blocksF d s.start s.count=r at*;obtain⟨bl,e2⟩:=r;simp only at hbl hbs hR;clear hok hso hcnt h
 by_cases he2:e2≠0
 ·rw[if_pos he2] at hR
  have HR:=Lib.hid hR.symm;clear hR;go_enter Tryz.func71,Tryz.ntmps71;go_wp2_with (first|(with_reducible first|refine xa rfl rfl rfl hst ?_|(refine xba rfl rfl hst rfl ?_;clear hst;intro bb w' hst))|(with_reducible (refine callB (HK.out _) hst ?_;clear hst;intro w' hst)));refine(HBl.out _ hst.end).mono ?_;rintro e w2 ⟨v,Lo,rfl,hown,hs2⟩;have hst:=(hst.take hs2).dropL;go_wp2_with fail;go_ret2;exact⟨HR0 HR.out,hst.end⟩
 have he20:e2=0:=by simpa using he2
 subst he20;rw[if_neg (by simp)] at hR;have hjl:=joinF_len 68 s.n bl;have HJ:=Lib.hid (fun wx (D2:Dat) p c (h1:RowAt D2 9 1 strL p c bl) (h2:Holds D2 wx) (h3:GSums wx)=>join_calls wx h1 h2 68 s.n (fun x hx=>by have:=hbs x hx;omega) (by omega) h3);generalize joinF 68 s.n bl=q at*;obtain⟨tl,e3⟩:=q;simp only at hR hjl HJ;have htx:(mkS tl).size≤1000000:=by rw[size_mkS];omega
 have HSh:=Lib.hid (fun wx L {D2:Dat} (h:Sx [] w wx L D2 [])=>sha_calls (mkS tl) htx wx (hGB.below h.end) (hGS.below h.end));rw[show ls (mkS tl)=tl from rfl] at HSh;obtain⟨d0,h0⟩:∃x,decide (e3≠0)=x:=⟨_,rfl⟩;obtain⟨d1,h1⟩:∃x,decide (((mkS tl).size:Int)≠s.len)=x:=⟨_,rfl⟩;obtain⟨d2,h2⟩:∃x,(h32 (shaF tl) !=h32 s.content)=x:=⟨_,rfl⟩;have h1':decide ((tl.length:Int)≠s.len)=d1:=h1;rw[h0,h1',h2] at hR;have HRb:Hid ((d0||(d1||d2))=true→Ending.returned (.tuple #[.string noS,.int .i64 210])=.returned (.tuple #[.string (mkS R.1),.int .i64 R.2])):=Lib.hid (fun h=>by rw[if_pos h] at hR;exact HR0 (u:=([],210)) hR.symm);have HRn:Hid ((d0||(d1||d2))=false→Ending.returned (.tuple #[.string (mkS tl),.int .i64 0])=.returned (.tuple #[.string (mkS R.1),.int .i64 R.2])):=Lib.hid (fun h=>by rw[if_neg (by rw[h];simp)] at hR;exact HR0 hR.symm);have HD0:=Lib.hid h0;have HD1:=Lib.hid h1;have HD2:=Lib.hid h2;clear h0 h1 h1' h2 hR htx hjl;generalize mkS tl=tx at*;generalize shaF tl=hh at*;go_enter Tryz.func71,Tryz.ntmps71;go_wp2_with (first|(with_reducible first|refine xa rfl rfl rfl hst ?_|(refine xba rfl rfl hst rfl ?_;clear hst;intro bb w' hst))|(with_reducible (refine callB (HK.out _) hst ?_;clear hst;intro w' hst)));refine(HBl.out _ hst.end).mono ?_;rintro e w2 ⟨v,Lo,rfl,hown,hs2⟩;have hst:=(hst.take hs2).lay;simp only at hown;obtain⟨p2,c2,rfl,hrow⟩:=hown.row (by omega) (D:=fun p=>D p∨p∈Lo) (fun p hp=>Or.inr hp);clear hs2 hown HBl HK;go_wp2_with (first|(with_reducible refine x1 rfl rfl rfl hst ?_)|(with_reducible (refine callB (HJ.out _ _ _ _ hrow hst.data (hU.below hst.end)) hst ?_;clear hst;intro w' hst)));refine Fx.go (fun _=>false) (fun i=> !(i==6||i==11||i==13)) (fun _=>false) (List.range 16) rfl hst (by kernel_rfl) (by kernel_rfl) (by kernel_rfl) (by kernel_rfl) (by kernel_rfl) ?_;show Fx.wpLX _ _ _ [0,1,2,3,4,5,6,7,8,9,10,11,12,13,14,15] _ _
 all_goals
  skip
  cases d0
  ·cases d1
   ·cases d2
    ·refine Fx.val (v:=.int .i64 e3) rfl rfl rfl rfl (Fx.e_mv rfl rfl) ?_
     refine Fx.val (v:=.bool false) rfl rfl rfl rfl (Fx.e_neq rfl rfl rfl HD0.out) ?_;refine Fx.val (v:=.bool false) rfl rfl rfl rfl (Fx.e_mv rfl rfl) ?_;refine Fx.val (v:=.string tx) rfl rfl rfl (by kernel_rfl) (Fx.e_mv rfl rfl) ?_;refine Fx.val (v:=.int .i64 tx.size) rfl rfl rfl (by kernel_rfl) (fun w=>by kernel_rfl) ?_;refine Fx.fa rfl rfl rfl (by kernel_rfl) rfl rfl ?_;refine Fx.l1 rfl rfl rfl (by kernel_rfl) rfl rfl ?_;refine Fx.val (v:=.bool false) rfl rfl rfl (by kernel_rfl) (Fx.e_neq rfl rfl rfl HD1.out) ?_;refine Fx.val (v:=.bool false) rfl rfl rfl rfl (Fx.e_pkF rfl rfl rfl) ?_;refine Fx.val (v:=.bool false) rfl rfl rfl rfl (Fx.e_mv rfl rfl) ?_;refine Fx.val (v:=.string tx) rfl rfl rfl (by kernel_rfl) (Fx.e_mv rfl rfl) ?_;refine Fx.callB rfl rfl (fun w h=>h) (fun w h=>HSh.out w _ h) rfl (by kernel_rfl) (fun w=>by kernel_rfl) ?_;refine Fx.fa rfl rfl rfl (by kernel_rfl) rfl rfl ?_;refine Fx.lA rfl rfl rfl (by kernel_rfl) rfl rfl ?_;refine Fx.val (v:=.bool false) rfl rfl rfl (by kernel_rfl) (Fx.e_neqh rfl rfl rfl HD2.out) ?_;refine Fx.val (v:=.bool false) rfl rfl rfl rfl (Fx.e_pkF rfl rfl rfl) ?_;clear hst;intro w' hst;generalize hact:Fx.mkO _ _=act;have hv4:act.tmps.getD 4 undef=.string noS:=by rw[←hact];kernel_rfl
     have hv5:act.tmps.getD 5 undef=.int .i64 0:=by rw[←hact];kernel_rfl
     have hv8:act.tmps.getD 8 undef=.string tx:=by rw[←hact];kernel_rfl
     have hv43:act.tmps.getD 43 undef=.bool false:=by rw[←hact];kernel_rfl
     obtain⟨fZ,hfZ,hact2⟩:=act_lit act 45 (by rw[←hact];kernel_rfl) (by rw[←hact];kernel_rfl);clear hact;have he4:fZ 4=.string noS:=(hfZ 4).symm.trans hv4;have he5:fZ 5=.int .i64 0:=(hfZ 5).symm.trans hv5;have he8:fZ 8=.string tx:=(hfZ 8).symm.trans hv8;have he43:fZ 43=.bool false:=(hfZ 43).symm.trans hv43;simp only[show List.range 45=[0,1,2,3,4,5,6,7,8,9,10,11,12,13,14,15,16,17,18,19,20,21,22,23,24,25,26,27,28,29,30,31,32,33,34,35,36,37,38,39,40,41,42,43,44] from rfl,List.map_cons,List.map_nil,he4,he5,he8,he43] at hact2;clear hfZ hv4 he4 hv5 he5 hv8 he8 hv43 he43;subst hact2;go_wp2_with fail;go_ret2;exact⟨HRn.out (by simp),hst.end⟩
    ·refine Fx.val (v:=.int .i64 e3) rfl rfl rfl rfl (Fx.e_mv rfl rfl) ?_
     refine Fx.val (v:=.bool false) rfl rfl rfl rfl (Fx.e_neq rfl rfl rfl HD0.out) ?_;refine Fx.val (v:=.bool false) rfl rfl rfl rfl (Fx.e_mv rfl rfl) ?_;refine Fx.val (v:=.string tx) rfl rfl rfl (by kernel_rfl) (Fx.e_mv rfl rfl) ?_;refine Fx.val (v:=.int .i64 tx.size) rfl rfl rfl (by kernel_rfl) (fun w=>by kernel_rfl) ?_;refine Fx.fa rfl rfl rfl (by kernel_rfl) rfl rfl ?_;refine Fx.l1 rfl rfl rfl (by kernel_rfl) rfl rfl ?_;refine Fx.val (v:=.bool false) rfl rfl rfl (by kernel_rfl) (Fx.e_neq rfl rfl rfl HD1.out) ?_;refine Fx.val (v:=.bool false) rfl rfl rfl rfl (Fx.e_pkF rfl rfl rfl) ?_;refine Fx.val (v:=.bool false) rfl rfl rfl rfl (Fx.e_mv rfl rfl) ?_;refine Fx.val (v:=.string tx) rfl rfl rfl (by kernel_rfl) (Fx.e_mv rfl rfl) ?_;refine Fx.callB rfl rfl (fun w h=>h) (fun w h=>HSh.out w _ h) rfl (by kernel_rfl) (fun w=>by kernel_rfl) ?_;refine Fx.fa rfl rfl rfl (by kernel_rfl) rfl rfl ?_;refine Fx.lA rfl rfl rfl (by kernel_rfl) rfl rfl ?_;refine Fx.val (v:=.bool true) rfl rfl rfl (by kernel_rfl) (Fx.e_neqh rfl rfl rfl HD2.out) ?_;refine Fx.val (v:=.bool true) rfl rfl rfl rfl (Fx.e_pkF rfl rfl rfl) ?_;clear hst;intro w' hst;generalize hact:Fx.mkO _ _=act;have hv4:act.tmps.getD 4 undef=.string noS:=by rw[←hact];kernel_rfl
     have hv5:act.tmps.getD 5 undef=.int .i64 0:=by rw[←hact];kernel_rfl
     have hv8:act.tmps.getD 8 undef=.string tx:=by rw[←hact];kernel_rfl
     have hv43:act.tmps.getD 43 undef=.bool true:=by rw[←hact];kernel_rfl
     obtain⟨fZ,hfZ,hact2⟩:=act_lit act 45 (by rw[←hact];kernel_rfl) (by rw[←hact];kernel_rfl);clear hact;have he4:fZ 4=.string noS:=(hfZ 4).symm.trans hv4;have he5:fZ 5=.int .i64 0:=(hfZ 5).symm.trans hv5;have he8:fZ 8=.string tx:=(hfZ 8).symm.trans hv8;have he43:fZ 43=.bool true:=(hfZ 43).symm.trans hv43;simp only[show List.range 45=[0,1,2,3,4,5,6,7,8,9,10,11,12,13,14,15,16,17,18,19,20,21,22,23,24,25,26,27,28,29,30,31,32,33,34,35,36,37,38,39,40,41,42,43,44] from rfl,List.map_cons,List.map_nil,he4,he5,he8,he43] at hact2;clear hfZ hv4 he4 hv5 he5 hv8 he8 hv43 he43;subst hact2;go_wp2_with fail;go_ret2;exact⟨HRb.out (by simp),hst.end⟩
   ·refine Fx.val (v:=.int .i64 e3) rfl rfl rfl rfl (Fx.e_mv rfl rfl) ?_
    refine Fx.val (v:=.bool false) rfl rfl rfl rfl (Fx.e_neq rfl rfl rfl HD0.out) ?_;refine Fx.val (v:=.bool false) rfl rfl rfl rfl (Fx.e_mv rfl rfl) ?_;refine Fx.val (v:=.string tx) rfl rfl rfl (by kernel_rfl) (Fx.e_mv rfl rfl) ?_;refine Fx.val (v:=.int .i64 tx.size) rfl rfl rfl (by kernel_rfl) (fun w=>by kernel_rfl) ?_;refine Fx.fa rfl rfl rfl (by kernel_rfl) rfl rfl ?_;refine Fx.l1 rfl rfl rfl (by kernel_rfl) rfl rfl ?_;refine Fx.val (v:=.bool true) rfl rfl rfl (by kernel_rfl) (Fx.e_neq rfl rfl rfl HD1.out) ?_;refine Fx.val (v:=.bool true) rfl rfl rfl rfl (Fx.e_pkF rfl rfl rfl) ?_;refine Fx.val (v:=.bool true) rfl rfl rfl rfl (Fx.e_mv rfl rfl) ?_;refine Fx.skip rfl rfl (by kernel_rfl) rfl ?_;refine Fx.skipB rfl rfl (by kernel_rfl) (fun w h=>h) ?_;refine Fx.skip rfl rfl (by kernel_rfl) rfl ?_;refine Fx.skipB rfl rfl (by kernel_rfl) (fun w h=>h) ?_;refine Fx.skip rfl rfl (by kernel_rfl) rfl ?_;refine Fx.val (v:=.bool true) rfl rfl rfl rfl (Fx.e_pkT rfl rfl rfl) ?_;clear hst;intro w' hst;generalize hact:Fx.mkO _ _=act;have hv4:act.tmps.getD 4 undef=.string noS:=by rw[←hact];kernel_rfl
    have hv5:act.tmps.getD 5 undef=.int .i64 0:=by rw[←hact];kernel_rfl
    have hv8:act.tmps.getD 8 undef=.string tx:=by rw[←hact];kernel_rfl
    have hv43:act.tmps.getD 43 undef=.bool true:=by rw[←hact];kernel_rfl
    obtain⟨fZ,hfZ,hact2⟩:=act_lit act 45 (by rw[←hact];kernel_rfl) (by rw[←hact];kernel_rfl);clear hact;have he4:fZ 4=.string noS:=(hfZ 4).symm.trans hv4;have he5:fZ 5=.int .i64 0:=(hfZ 5).symm.trans hv5;have he8:fZ 8=.string tx:=(hfZ 8).symm.trans hv8;have he43:fZ 43=.bool true:=(hfZ 43).symm.trans hv43;simp only[show List.range 45=[0,1,2,3,4,5,6,7,8,9,10,11,12,13,14,15,16,17,18,19,20,21,22,23,24,25,26,27,28,29,30,31,32,33,34,35,36,37,38,39,40,41,42,43,44] from rfl,List.map_cons,List.map_nil,he4,he5,he8,he43] at hact2;clear hfZ hv4 he4 hv5 he5 hv8 he8 hv43 he43;subst hact2;go_wp2_with fail;go_ret2;exact⟨HRb.out (by simp),hst.end⟩
  ·refine Fx.val (v:=.int .i64 e3) rfl rfl rfl rfl (Fx.e_mv rfl rfl) ?_
   refine Fx.val (v:=.bool true) rfl rfl rfl rfl (Fx.e_neq rfl rfl rfl HD0.out) ?_;refine Fx.val (v:=.bool true) rfl rfl rfl rfl (Fx.e_mv rfl rfl) ?_;refine Fx.skip rfl rfl (by kernel_rfl) rfl ?_;refine Fx.skip rfl rfl (by kernel_rfl) rfl ?_;refine Fx.skip rfl rfl (by kernel_rfl) rfl ?_;refine Fx.skipB rfl rfl (by kernel_rfl) (fun w h=>h) ?_;refine Fx.skip rfl rfl (by kernel_rfl) rfl ?_;refine Fx.val (v:=.bool true) rfl rfl rfl rfl (Fx.e_pkT rfl rfl rfl) ?_;refine Fx.val (v:=.bool true) rfl rfl rfl rfl (Fx.e_mv rfl rfl) ?_;refine Fx.skip rfl rfl (by kernel_rfl) rfl ?_;refine Fx.skipB rfl rfl (by kernel_rfl) (fun w h=>h) ?_;refine Fx.skip rfl rfl (by kernel_rfl) rfl ?_;refine Fx.skipB rfl rfl (by kernel_rfl) (fun w h=>h) ?_;refine Fx.skip rfl rfl (by kernel_rfl) rfl ?_;refine Fx.val (v:=.bool true) rfl rfl rfl rfl (Fx.e_pkT rfl rfl rfl) ?_;clear hst;intro w' hst;generalize hact:Fx.mkO _ _=act;have hv4:act.tmps.getD 4 undef=.string noS:=by rw[←hact];kernel_rfl
   have hv5:act.tmps.getD 5 undef=.int .i64 0:=by rw[←hact];kernel_rfl
   have hv8:act.tmps.getD 8 undef=.string tx:=by rw[←hact];kernel_rfl
   have hv43:act.tmps.getD 43 undef=.bool true:=by rw[←hact];kernel_rfl
   obtain⟨fZ,hfZ,hact2⟩:=act_lit act 45 (by rw[←hact];kernel_rfl) (by rw[←hact];kernel_rfl);clear hact;have he4:fZ 4=.string noS:=(hfZ 4).symm.trans hv4;have he5:fZ 5=.int .i64 0:=(hfZ 5).symm.trans hv5;have he8:fZ 8=.string tx:=(hfZ 8).symm.trans hv8;have he43:fZ 43=.bool true:=(hfZ 43).symm.trans hv43;simp only[show List.range 45=[0,1,2,3,4,5,6,7,8,9,10,11,12,13,14,15,16,17,18,19,20,21,22,23,24,25,26,27,28,29,30,31,32,33,34,35,36,37,38,39,40,41,42,43,44] from rfl,List.map_cons,List.map_nil,he4,he5,he8,he43] at hact2;clear hfZ hv4 he4 hv5 he5 hv8 he8 hv43 he43;subst hact2;go_wp2_with fail;go_ret2;exact⟨HRb.out (by simp),hst.end⟩
theorem ownR_of {w w':World} {v:Value} {l:List Ent} (h:w'.ownsRow w.heap.size 66 39 v l.length (l.flatMap entL)) (hb:Below w.heap.size w w'):∃Lo,OwnR 66 39 entL Lo v l∧St [] w w' Lo:=by
 obtain⟨_,h |⟨g,cap,cur,rfl,hg,hc,h1,h2,h3,h4⟩⟩:=h
 ·obtain⟨rfl,hl⟩:=h
  have:l=[]:=List.length_eq_zero_iff.1 hl;subst this;exact⟨[],OwnR.none _,⟨hb.os,hb.tape,hb.output,hb.size,fun j hj _=>hb.block j hj,by simp,by simp,by simp⟩⟩
 ·exact⟨[(g,cur,66)],Or.inr ⟨g,cap,cur,rfl,rfl,h1,h2,h3,h4⟩,⟨hb.os,hb.tape,hb.output,hb.size,fun j hj _=>hb.block j hj,fun p hp=>by simp at hp;subst hp;exact Or.inl hg,by simp,fun p hp=>by simp at hp;subst hp;exact hc⟩⟩
def entriesF (d:Dv) (s:Sl):List Ent×Int:=
 if(bytesF d s).2≠0 then([],(bytesF d s).2) else match decF (mkS (bytesF d s).1) with
  |none=>([],210)
  |some l=>(l,0)
def EntriesPost (w:World) (r:List Ent×Int) (e:Ending) (w':World):Prop:=
 ∃v Lo,e=.returned (.tuple #[v,.int .i64 r.2])∧OwnR 66 39 entL Lo v r.1∧(∀x∈r.1,x.Wf)∧St [] w w' Lo
theorem bytesF_len {d:Dv} (hd:d.Ok) (s:Sl):(bytesF d s).1.length≤200000:=by
 unfold bytesF;split
 ·exact Nat.zero_le _
 ·rename_i hok
  have hso:=(slOk_iff s).1 (by simpa using hok);unfold SlOk at hso;have hc:s.count≤512:=by omega
  obtain⟨hbl,_⟩:=blocksF_ok hd s.start s.count hc;split
  ·exact Nat.zero_le _
  ·have:=joinF_len 68 s.n (blocksF d s.start s.count).1
   split
   ·exact Nat.zero_le _
   ·simp only;omega
set_option maxHeartbeats 4000000 in
theorem entries_calls {D:Dat} {F:List Nat} {w:World} {g:Nat} {d:Dv} (h:DevW D F w g d) (s:Sl) (hs:s.start≤4611686018427387904) (hGB:GBegin w) (hGS:GSha w) (hU:GSums w):
  Calls Tryz.prog 32 #[.pointer (some ⟨g,0,none⟩),.agg (slC s)] w (EntriesPost w (entriesF d s)):=by
 have hst:=Sx.start0 w h.data;obtain⟨R,hR⟩:∃R,entriesF d s=R:=⟨_,rfl⟩;rw[hR];have HR0:∀ {u:List Ent×Int} {v:Value},R=u→Ending.returned (.tuple #[v,.int .i64 u.2])=.returned (.tuple #[v,.int .i64 R.2]):=fun e=>by rw[e]
 unfold entriesF at hR;have HB:=Lib.hid (fun wx (hb:Below w.heap.size w wx)=>bytes_calls (h.below hb) s hs (hGB.below hb) (hGS.below hb) (hU.below hb));have hbl:=bytesF_len h.ok s;generalize bytesF d s=r at*;obtain⟨bs,e1⟩:=r;simp only at hR hbl
 by_cases he1:e1≠0
 ·rw[if_pos he1] at hR
  have HR:=Lib.hid hR.symm;clear hR;go_enter Tryz.func32,Tryz.ntmps32;go_wp2_with (first|(with_reducible first|refine xa rfl rfl rfl hst ?_|(refine xba rfl rfl hst rfl ?_;clear hst;intro bb w' hst))|(with_reducible (refine callB (HB.out _ hst.end) hst ?_;clear hst;intro w' hst)));go_ret2;exact⟨_,[],HR0 HR.out,by rw[HR.out];exact OwnR.none _,by rw[HR.out];simp,hst.endF⟩
 have he10:e1=0:=by simpa using he1
 subst he10;rw[if_neg (by simp)] at hR;have HDc:=Lib.hid (fun wx=>decode_calls (mkS bs) (by rw[size_mkS];omega) wx);generalize mkS bs=tx at*;go_enter Tryz.func32,Tryz.ntmps32;go_wp2_with (first|(with_reducible first|refine xa rfl rfl rfl hst ?_|(refine xba rfl rfl hst rfl ?_;clear hst;intro bb w' hst))|(with_reducible (refine callB (HB.out _ hst.end) hst ?_;clear hst;intro w' hst)));refine(HDc.out _).mono ?_;rintro e w2 ⟨hdp,hb⟩;unfold DecPost at hdp
 cases hdec:decF tx with
 |none=>
  rw[hdec] at hdp hR;obtain rfl:=hdp;have HR:=Lib.hid hR.symm;have hst:=hst.below hb;clear hR hdec;go_wp2_with fail;go_ret2;exact⟨_,[],HR0 HR.out,by rw[HR.out];exact OwnR.none _,by rw[HR.out];simp,hst.endF⟩
 |some l=>
  rw[hdec] at hdp hR;obtain⟨v,rfl,hrow,hwf⟩:=hdp;obtain⟨Lo,hown,hs2⟩:=ownR_of hrow hb;have HR:=Lib.hid hR.symm;have HW:=Lib.hid hwf;have HO:=Lib.hid hown;have hst:=hst.take hs2;clear hR hdec hrow hwf hown hs2;go_wp2_with fail;go_ret2;exact⟨v,Lo,HR0 HR.out,by rw[HR.out];exact HO.out,by rw[HR.out];exact HW.out,hst.st.sub⟩
end Go.Proofs.YtdkeiefgkgpcbaaGreatDoor
namespace Go.Proofs.YtdkeiefgkgpcbaaGreatDoor
open Go.RowKit
def stL (c:Int):List Value:=[.int .i64 c,.slice none 0 0]
abbrev stC (c:Int):Array Value:=(stL c).toArray
instance aggState:AggT 31 2:=⟨fun w=>by kernel_rfl,by kernel_rfl⟩
instance zeroState:ZeroT 31 (stC 0):=.agg fun w=>by kernel_rfl
instance stc0 (c:Int):CellAt (stC c) 0 (.int .i64 c):=⟨rfl⟩
instance stc1 (c:Int):CellAt (stC c) 1 (.slice none 0 0):=⟨rfl⟩
instance stp (c:Int):PartAt (stC c) 0 2 (stL c):=⟨rfl,fun j v h=>by rw[Nat.zero_add];simpa[stC] using h⟩
instance stw (a b:Int):WrAt (stC a) 0 2 (.agg (stC b)) (stC b):=wr_row _ _ _ _ (stL b) rfl rfl (Nat.le_of_ble_eq_true rfl) (by kernel_rfl)
instance stwL (a b:Int):WrAt (stC a) 0 2 (.agg (stL b).toArray) (stC b):=wr_row _ _ _ _ (stL b) rfl rfl (Nat.le_of_ble_eq_true rfl) (by kernel_rfl)
instance stw0 (a b:Int):WrAt (stC a) 0 1 (.int .i64 b) (stC b):=wr_one _ _ _ _ rfl rfl (Nat.le_of_ble_eq_true rfl) rfl
instance fldSt0:Fx.FldT 31 0 0:=⟨fun ad w=>by kernel_rfl⟩
instance fldSt1:Fx.FldT 31 1 1:=⟨fun ad w=>by kernel_rfl⟩
instance oneStreams:OneT 29:=⟨fun w=>by kernel_rfl,by kernel_rfl⟩
theorem stcheck_calls (c:Int) (hc:0≤c∧c≤1073741824) (w:World):Calls Tryz.prog 28 #[.agg (stC c)] w (Ret (.bool true) w):=by
 have hst:=Sx.startN w;go_enter Tryz.func28,Tryz.ntmps28;go_wp2_with (first|(with_reducible (refine xval rfl 10 rfl (.bool false) (fun w=>Fx.e_lss rfl rfl rfl (decide_eq_false (by omega)) w) ?_))|(with_reducible (refine xval rfl 14 rfl (.bool false) (fun w=>Fx.e_gtr rfl rfl rfl (decide_eq_false (by omega)) w) ?_))|(with_reducible first|refine x1 rfl rfl rfl hst ?_|(refine xba rfl rfl hst rfl ?_;clear hst;intro bb w' hst)));go_loopw [25] (fun iv wr=>iv=.int .i64 0∧Sx [] w wr [(bb,stC c,31)] NoD []) (fun iv _=>0)
 case atStart=>exact⟨rfl,hst⟩
 case round=>
  clear hst;obtain⟨rfl,hst⟩:=hrel;go_wp2_with fail;go_ret;exact⟨rfl,hst.end⟩
set_option maxHeartbeats 4000000 in
theorem stall_calls (c d:Int) (hc:0≤c∧c≤d∧d≤1073741824) (p:Option Addr) (cp:Nat) (w:World):Calls Tryz.prog 10 #[.agg (stC c),.slice p 0 cp,.int .i64 d] w (Ret (.tuple #[.agg (stC d),.int .i64 0]) w):=by
 have hst:=Sx.startN w;have HK:=Lib.hid (fun wx=>stcheck_calls c (by omega) wx);go_enter Tryz.func10,Tryz.ntmps10;go_wp2_with (first|(with_reducible (refine xval rfl 19 rfl (.bool false) (fun w=>Fx.e_lss rfl rfl rfl (decide_eq_false (by omega)) w) ?_))|(with_reducible (refine xval rfl 23 rfl (.bool false) (fun w=>Fx.e_gtr rfl rfl rfl (decide_eq_false (by omega)) w) ?_))|(with_reducible first|refine x1 rfl rfl rfl hst ?_|refine xa rfl rfl rfl hst ?_|(refine xsi rfl rfl rfl rfl hst ?_;clear hst;intro w' hst)|(refine xba rfl rfl hst rfl ?_;clear hst;intro bb w' hst)|(refine xnw rfl rfl hst ?_;clear hst;intro bn w' hst))|(with_reducible (refine callB (HK.out _) hst ?_;clear hst;intro w' hst)));go_loopw [30] (fun iv wr=>iv=.int .i64 0∧Sx [] w wr [(bn,stC 0,31),(bb,stC d,31)] NoD []) (fun iv _=>0)
 case atStart=>exact⟨rfl,hst⟩
 case round=>
  clear hst;obtain⟨rfl,hst⟩:=hrel;go_wp2_with (with_reducible first|refine xa rfl rfl rfl hst ?_|(refine xsa rfl rfl rfl rfl hst ?_;clear hst;intro w' hst));refine bodyPost_ret (results2 rfl (res_agg rfl hst.st.has) res_tmp) rfl ⟨rfl,hst.end⟩
theorem stlive_calls (c:Int) (w:World):Calls Tryz.prog 50 #[.agg (stC c)] w (Ret (.slice none 0 0) w):=by
 have HR:Hid (∀wx,Calls Tryz.prog 95 #[.agg (stC c),.bool false] wx (Ret (.slice none 0 0) wx)):=Lib.hid (fun wx=>by
  have hst:=Sx.startN wx;go_enter Tryz.func95,Tryz.ntmps95;go_wp2_with (with_reducible first|refine x1 rfl rfl rfl hst ?_|(refine xba rfl rfl hst rfl ?_;clear hst;intro bb w' hst));go_loopw [5,13] (fun ov iv wr=>ov=.slice none 0 0∧iv=.int .i64 0∧Sx [] wx wr [(bb,stC c,31)] NoD []) (fun _ iv _=>0)
  case atStart=>exact⟨rfl,rfl,hst⟩
  case round=>
   clear hst;obtain⟨rfl,rfl,hst⟩:=hrel;go_wp2_with fail;go_ret
   exact⟨rfl,hst.end⟩)
 have hst:=Sx.startN w;go_enter Tryz.func50,Tryz.ntmps50;go_wp2_with (first|(with_reducible first|refine xa rfl rfl rfl hst ?_|(refine xba rfl rfl hst rfl ?_;clear hst;intro bb w' hst))|(with_reducible (refine callB (HR.out _) hst ?_;clear hst;intro w' hst)));go_ret;exact⟨rfl,hst.end⟩
theorem erase0_calls (pv:Value) (p:Option Addr) (c:Nat) (w:World):Calls Tryz.prog 47 #[pv,.slice p 0 c] w (Ret (.int .i64 0) w):=by
 have hst:=Sx.startN w;go_enter Tryz.func47,Tryz.ntmps47;go_wp2_with fail;go_loopw [5,12] (fun nv iv wr=>nv=.int .i64 0∧iv=.int .i64 0∧Sx [] w wr [] NoD []) (fun _ iv _=>0)
 case atStart=>exact⟨rfl,rfl,hst⟩
 case round=>
  clear hst;obtain⟨rfl,rfl,hst⟩:=hrel;go_wp2_with fail;go_ret;exact⟨rfl,hst.end⟩
theorem ins0_calls (p:Option Addr) (c:Nat) (fv:Value) (w:World):Calls Tryz.prog 159 #[.slice p 0 c,.int .i64 0,.int .i64 0,fv] w (Ret (.tuple #[]) w):=by
 have hst:=Sx.startN w;go_enter Tryz.func159,Tryz.ntmps159;go_wp2_with fail;go_loopw [8] (fun iv wr=>iv=.int .i64 1∧Sx [] w wr [] NoD []) (fun iv _=>0)
 case atStart=>exact⟨rfl,hst⟩
 case round=>
  clear hst;obtain⟨rfl,hst⟩:=hrel;go_wp2_with fail;go_end0;exact⟨rfl,hst.end⟩
theorem len0_calls (w:World):Calls Tryz.prog 132 #[.int .u64 0] w (Ret (.int .i64 0) w):=by
 have hst:=Sx.startN w
 have HL:Hid (∀wx,Calls Tryz.prog 168 #[.int .u64 0] wx (Ret (.int .i64 0) wx)):=Lib.hid (fun wx=>by
  have hst:=Sx.startN wx;go_enter Tryz.func168,Tryz.ntmps168;go_wp2_with fail;go_ret
  exact⟨by kernel_rfl,hst.end⟩)
 go_enter Tryz.func132,Tryz.ntmps132;go_wp2_with (first|fail |(with_reducible (refine callB (HL.out _) hst ?_;clear hst;intro w' hst)));go_ret;exact⟨rfl,hst.end⟩
end Go.Proofs.YtdkeiefgkgpcbaaGreatDoor
namespace Go.Proofs.YtdkeiefgkgpcbaaGreatDoor
open Go.RowKit
theorem pdq0_calls (p:Option Addr) (c:Nat) (fv:Value) (z:Int) (w:World):Calls Tryz.prog 131 #[.slice p 0 c,.int .i64 0,.int .i64 0,.int .i64 z,fv] w (Ret (.tuple #[]) w):=by
 have hst:=Sx.startN w;have HI:=Lib.hid (fun wx=>ins0_calls p c fv wx);go_enter Tryz.func131,Tryz.ntmps131;go_wp2_with fail;go_loopw [1,2] (fun av bv wr=>av=.int .i64 0∧bv=.int .i64 0∧Sx [] w wr [] NoD []) (fun _ _ _=>0)
 case atStart=>exact⟨rfl,rfl,hst⟩
 case round=>
  clear hst;obtain⟨rfl,rfl,hst⟩:=hrel;go_wp2_with (first|fail |(with_reducible (refine callB (HI.out _) hst ?_;clear hst;intro w' hst)));refine bodyPost_ret (results_none rfl _ _ _) rfl ?_;exact⟨rfl,hst.end⟩
theorem sort0_calls (p:Option Addr) (c:Nat) (fv:Value) (w:World):Calls Tryz.prog 92 #[.slice p 0 c,fv] w (Ret (.tuple #[]) w):=by
 have hst:=Sx.startN w;have HI:=Lib.hid (fun wx=>pdq0_calls p c fv 0 wx);have HL:=Lib.hid (fun wx=>len0_calls wx);go_enter Tryz.func92,Tryz.ntmps92;go_wp2_with (first|fail |(with_reducible (refine callB (HL.out _) hst ?_;clear hst;intro w' hst))|(with_reducible (refine callB (HI.out _) hst ?_;clear hst;intro w' hst)));go_end0;exact⟨rfl,hst.end⟩
def gdel (gs:List Gr) (n:Int):List Gr:=match gfind n gs 0 with
 |some p=>gs.eraseIdx p.1
 |none=>gs
theorem gdel_spec {gs:List Gr} {n:Int} (hn:(gs.map (·.key)).Nodup):(∀r∈gdel gs n,r∈gs∧r.key≠n)∧((gdel gs n).map (·.key)).Nodup:=by
 unfold gdel;rcases gsplit n gs with h |⟨a,g,b,rfl,hg,ha⟩
 ·rw[gfind_none h]
  exact⟨fun r hr=>⟨hr,h r hr⟩,hn⟩
 ·rw[gfind_at hg ha,Nat.zero_add]
  simp only
  have he:(a++g::b).eraseIdx a.length=a++b:=by
   rw[List.eraseIdx_append_of_length_le (Nat.le_refl _),Nat.sub_self];rfl
  rw[he];rw[List.map_append,List.map_cons,List.nodup_append,List.nodup_cons] at hn;refine⟨fun r hr=>?_,?_⟩
  ·rcases List.mem_append.1 hr with hr |hr
   ·exact⟨by simp[hr],ha r hr⟩
   ·exact⟨by simp[hr],fun e=>hn.2.1.1 (List.mem_map.2 ⟨r,hr,e.trans hg.symm⟩)⟩
  ·rw[List.map_append,List.nodup_append]
   exact⟨hn.1,hn.2.1.2,fun x hx y hy=>hn.2.2 x hx y (List.mem_cons_of_mem _ hy)⟩
theorem map_erase {α β:Type} (f:α→β):∀(l:List α) (i:Nat),(l.map f).eraseIdx i=(l.eraseIdx i).map f
 | [],_=>rfl
 |x::l,0=>rfl
 |x::l,i+1=>by simp[map_erase f l i]
section
variable {S:List Nat} {w0 w1 w:World} {L L1 L2:List Blk} {D:Dat} {m:Nat} {o:Obj} {ops:Array Oper} {rest:List Oper} {op:Oper} {a:Act} {Q:Exit→Act→World→Prop} {gs:List Gr} {clock:Nat} {T E:TypeId} {n:Int}
theorem Mx.lay (h:Mx S w0 w (L1++L2) D m o):Mx S w0 w L2 (fun p=>D p∨p∈L1) m o:=by
 refine⟨⟨h.sx.lay.st,h.sx.lay.data,h.sx.lay.apart,h.sx.lay.flt,h.sx.lay.fL,h.sx.lay.fD,h.sx.lay.fS⟩,h.ob⟩
theorem run_gdel [t:MapT T E] (K:TypeId) (hk:Tryz.prog.underlying T=some (.map K E)) (hk2:Tryz.prog.underlying K=some (.int .i64)) (ty:TypeId) (hb:w.heap[m]? =some (mapO gs clock)):(Builtin.delete_ #[T,K] ty #[.map (some m),.int .i64 n]).run Tryz.prog w=.ok (.tuple #[]) {w with heap:=w.heap.setIfInBounds m (mapO (gdel gs n) clock)}:=by
 have hc:∀e,(Instr.checkKey e 10000 K (.int .i64 n)).run Tryz.prog w=.ok () w:=fun e=>MapKept.run_checkKey (k:=.int .i64 n) hk2 rfl e 9999
 have hf:=findNow_gs n gs 0;have hk3:=MapKept.run_findKey (P:=Tryz.prog) (w:=w) (kt:=K) (k:=.int .i64 n) (l:=gs.map Gr.ent) hk2 hf;have ho:=MapKept.run_getObj_map (P:=Tryz.prog) (w:=w) (r:=m) hb;have hs:=fun o=>MapKept.run_setObj_map (P:=Tryz.prog) (w:=w) (r:=m) o hb
 unfold Builtin.delete_ gdel
 cases hg:gfind n gs 0 with
 |none=>rw[hg] at hk3;simp[Sem.run_bind,run_underlying hk,ho,hc,hk3,hs,mapO]
 |some p=>
  rw[hg] at hk3;have e4:=map_erase Gr.ent gs p.1;simp only[mapO];generalize (gs.eraseIdx p.1).map Gr.ent=G2 at*;generalize gs.map Gr.ent=G at*;simp[Sem.run_bind,run_underlying hk,ho,hc,hk3,hs,e4]
theorem xdel (hw:Region.wanted op (yielded ops a.tmps)=true) {K:TypeId} {x y:Operand} (ho:op.op=.call {callee:=.builtin .delete,args:=#[x,y],argTypes:=#[T,K]}) [t:MapT T E] (hk:Tryz.prog.underlying T=some (.map K E)) (hk2:Tryz.prog.underlying K=some (.int .i64)) (hm:Mx S w0 w1 L1 D m (mapO gs clock)) (hs:Sx (L1.map (·.1)) w1 w L D []) (hx:a.eval x=.map (some m)) (hy:a.eval y=.int .i64 n)
  (hkk:∀w',Mx S w0 w' L D m (mapO (gdel gs n) clock)→wpList Tryz.prog ops Q rest (a.put op.dst (.tuple #[])) w'):wpList Tryz.prog ops Q (op::rest) a w:=
 BigFrame.wpList_want hw fun K' hK=>by
  have hr:=run_gdel (T:=T) (E:=E) (n:=n) K hk hk2 op.type (hm.move hs).ob;unfold Oper.wp execOp;simp only[ho,resolve,invoke,builtin,Sem.run_bind,Sem.run_pure,Result.andThen_ok,List.map_toArray,List.map_cons,List.map_nil,hx,hy,hr];exact hK _ _ (hkk _ (hm.move hs).set)
end
end Go.Proofs.YtdkeiefgkgpcbaaGreatDoor
namespace Go.Proofs.YtdkeiefgkgpcbaaGreatDoor
open Go.RowKit
instance mapBool:MapT 184 4:=⟨3,by kernel_rfl,by kernel_rfl⟩
theorem chainGo_mem {fl:List Fnd}:∀(k:Nat) (n:Int) (last:Option Sl),(chainGo fl k n last).length≤k∧∀x∈chainGo fl k n last,x∈fl
 |0,_,_=>by simp[chainGo]
 |k+1,n,last=>by
  rw[chainGo]
  cases h:chainNext fl n last with
  |none=>simp
  |some f=>
   have ih:=chainGo_mem (fl:=fl) k (n+1) (some f.s);simp only[List.length_cons];refine⟨by omega,fun x hx=>?_⟩;rcases List.mem_cons.1 hx with rfl |hx
   ·unfold chainNext at h
    exact(List.mem_filter.1 (List.mem_of_find?_eq_some h)).1
   ·exact ih.2 x hx
theorem chainF_ok (d:Dv) (h:d.Ok):(chainF d).length≤513∧∀x∈chainF d,slOk x.s=true∧0≤x.at_∧x.at_<512:=by
 have h1:=chainGo_mem (fl:=fnds d d.now.length) (leftN (fnds d d.now.length) 1+1) 1 none;have h2:=fnds_len d d.now.length;have h3:leftN (fnds d d.now.length) 1≤(fnds d d.now.length).length:=List.length_filter_le ..;have hm:=h.max;refine⟨by unfold chainF;omega,fun x hx=>?_⟩;have hx2:=h1.2 x hx;refine⟨fnds_ok x hx2,?_⟩;obtain⟨i,hi,hi2⟩:=List.mem_flatMap.1 hx2;have hi3:=List.mem_range.1 hi;unfold fndAt at hi2;split at hi2
 ·obtain rfl:=List.mem_singleton.1 hi2
  simp only;omega
 ·cases hi2
def allR (ch:List Fnd):List Rn:=ch.flatMap fun x=>[⟨x.s.start,x.s.count⟩,⟨x.at_,1⟩]
theorem allR_len (ch:List Fnd):(allR ch).length=2*ch.length:=by
 unfold allR
 induction ch with
 |nil=>rfl
 |cons x l ih=>rw[List.flatMap_cons,List.length_append,ih,List.length_cons,List.length_cons,List.length_cons,List.length_nil];omega
theorem perm_ee (x y z:Blk) (A:List Blk):(A++(x::y::z::[])).Perm (x::y::z::(A++[])):=perm_count fun q=>by
 simp only[List.count_append,List.count_cons,List.count_nil];omega
theorem xrng {S:List Nat} {w0 w1 w:World} {L L1:List Blk} {D:Dat} {m:Nat} {ops:Array Oper} {rest:List Oper} {op:Oper} {a:Act} {Q:Exit→Act→World→Prop} {gs:List Gr} {clock:Nat} {T E:TypeId} (hw:Region.wanted op (yielded ops a.tmps)=true) {x:Operand} (ho:op.op=.range T x) [t:MapT T E] (hm:Mx S w0 w1 L1 D m (mapO gs clock)) (hs:Sx (L1.map (·.1)) w1 w L D []) (hx:a.eval x=.map (some m))
  (hk:∀w',w'=w.alloc (.mapIter (some m) clock #[] clock)→w.heap[m]? =some (mapO gs clock)→Below w.heap.size w w'→wpList Tryz.prog ops Q rest (a.put op.dst (.pointer (some ⟨w.heap.size,0,none⟩))) w'):wpList Tryz.prog ops Q (op::rest) a w:=
 BigFrame.wpList_want hw fun K hK=>by
  obtain⟨K2,h1,h2⟩:=t.run;have hb:=(hm.move hs).ob;have hr:=run_range_map (P:=Tryz.prog) w T K2 E m (gs.map Gr.ent).toArray clock h1 hb;unfold Oper.wp execOp;simp only[ho,hx,Sem.run_bind,hr,Result.andThen_ok];exact hK _ _ (hk _ rfl hb ((Below.refl _ _).alloc (Nat.le_refl _) _))
theorem xnx {w:World} {ops:Array Oper} {rest:List Oper} {op:Oper} {a:Act} {Q:Exit→Act→World→Prop} (hw:Region.wanted op (yielded ops a.tmps)=true) {x:Operand} (ho:op.op=.next x false) {b:Nat} (hx:a.eval x=.pointer (some ⟨b,0,none⟩)) (hr:∀ty,(Instr.next (.pointer (some ⟨b,0,none⟩)) false ty).run Tryz.prog w=.ok (.tuple #[.bool false]) w)
  (hk:wpList Tryz.prog ops Q rest (a.put op.dst (.tuple #[.bool false])) w):wpList Tryz.prog ops Q (op::rest) a w:=
 BigFrame.wpList_want hw fun K hK=>by
  unfold Oper.wp execOp;simp only[ho,hx,Sem.run_bind,hr,Result.andThen_ok];exact hK _ _ hk
def covR (l:List Rn) (i:Int):Prop:=∃r∈l,r.s≤i∧i<r.s+r.c
theorem run_bs2r (a b c d:Int) (w:World):(Instr.buildSlice 98 2 #[(0,.agg #[.int .i64 a,.int .i64 b]),(1,.agg #[.int .i64 c,.int .i64 d])]).run Tryz.prog w=.ok (.slice (some ⟨w.heap.size,0,none⟩) 2 2) (w.alloc (.cells #[.int .i64 a,.int .i64 b,.int .i64 c,.int .i64 d] 36)):=by kernel_rfl
section
variable {α:Type} {enc:α→List Value} {k':Nat} {T TS:TypeId} {ops:Array Oper} {F:Fx.Flow} {Qf:List Blk→Act→Prop} {l:List Nat} {k:Nat} {o:Oper} {L:List Blk} {a:Act} {r:List (Nat×Value)}
theorem Fx.mk2 (h0:Fx.nthO ops.toList k=some o) (hs:F.special k=true) {y z:Operand} (ho:o.op=.buildSlice TS 2 #[(0,y),(1,z)]) {u v:Value} (hy:Fx.evO r a y=u) (hz:Fx.evO r a z=v) {C:Array Value} (hr:∀w,(Instr.buildSlice TS 2 #[(0,u),(1,v)]).run Tryz.prog w=.ok (.slice (some ⟨w.heap.size,0,none⟩) 2 2) (w.alloc (.cells C T)))
  (hk:∀b,(F.late k=true∨∀w,Sx F.S F.w0 w ((b,C,T)::L) F.D F.O→F.B w)∧Fx.wpLX ops F Qf l ((b,C,T)::L) (Fx.mkO (Fx.nxt o.dst (.slice (some ⟨b,0,none⟩) 2 2) r) a)):Fx.wpLX ops F Qf (k::l) L (Fx.mkO r a):=by
 refine Fx.spec h0 hs (fun L' u=>∃b,L'=(b,C,T)::L∧u=.slice (some ⟨b,0,none⟩) 2 2) (fun w hw=>Or.inl ?_) ?_
 ·refine⟨_,_,(w.heap.size,C,T)::L,?_,⟨_,rfl,rfl⟩,hw.alloc C T⟩
  unfold execOp;simp only[ho,List.map_toArray,List.map_cons,List.map_nil,hy,hz,Sem.run_bind,hr,Result.andThen_ok];rfl
 ·rintro L' u ⟨b,rfl,rfl⟩
  exact hk b
theorem Fx.apL (h0:Fx.nthO ops.toList k=some o) (hs:F.special k=true) {x y:Operand} (ho:o.op=.call {callee:=.builtin .append,args:=#[x,y],argTypes:=#[TS,TS]}) {Lo R:List Blk} (hp:L.Perm (Lo++R)) {v:Value} (hx:Fx.evO r a x=v) {b cc n:Nat} (hy:Fx.evO r a y=.slice (some ⟨b,0,none⟩) n cc)
  {l0 ms:List α} [sl:SlT TS T] [e:Elt T k'] [en:Enc enc k'] (hv:OwnR T k' enc Lo v l0) (hn:n=ms.length) {C:Array Value} {T':TypeId} (hb:(b,C,T')∈R) (hC:C=(ms.flatMap enc).toArray) (hl:l0.length+ms.length≤1000000)
  (hk:∀p c Lo',OwnR T k' enc Lo' (.slice p (l0.length+n) c) (l0++ms)→(F.late k=true∨∀w,Sx F.S F.w0 w (Lo'++R) F.D F.O→F.B w)∧Fx.wpLX ops F Qf l (Lo'++R) (Fx.mkO (Fx.nxt o.dst (.slice p (l0.length+n) c) r) a)):Fx.wpLX ops F Qf (k::l) L (Fx.mkO r a):=by
 subst hn;refine Fx.spec h0 hs (fun L' u=>∃p c Lo',L'=Lo'++R∧u=.slice p (l0.length+ms.length) c∧OwnR T k' enc Lo' (.slice p (l0.length+ms.length) c) (l0++ms)) (fun w hw=>Or.inl ?_) ?_
 ·have hw1:=hw.perm hp
  have hbb:=hw1.st.blk (b,C,T') (by simp[hb]);subst hC;have hsrc:Src w enc (.slice (some ⟨b,0,none⟩) ms.length cc) ms:=src_block (T:=T') hbb;obtain⟨p',c',w',Lo',hr,h1,h2⟩:=append_row (TS:=TS) o.type hw1 hv hsrc (by omega);rw[List.length_append] at hr h1;refine⟨_,w',Lo'++R,?_,⟨p',c',Lo',rfl,rfl,h1⟩,h2⟩;unfold execOp;simp only[ho,resolve,invoke,builtin,Sem.run_bind,Sem.run_pure,Result.andThen_ok,List.map_toArray,List.map_cons,List.map_nil,hx,hy,hr]
 ·rintro L' u ⟨p,c,Lo',rfl,rfl,h1⟩
  exact hk p c Lo' h1
end
set_option maxHeartbeats 8000000 in
theorem rest0_calls {D:Dat} {F:List Nat} {w:World} {g:Nat} {d:Dv} (h:DevW D F w g d) (c:Int) (hcov:∀i:Nat,(dStates d)[i]? =some 1→covR (allR (chainF d)) i) (hU:GSums w) (hGB:GBegin w) (hGS:GSha w):
  Calls Tryz.prog 48 #[.pointer (some ⟨g,0,none⟩),.agg (stC c)] w (Ret (.slice none 0 0) w):=by
 have hst:=Sx.start0 w h.data;have hmax:=h.ok.max;have hSt:=Lib.hid (fun wx (hb:Below w.heap.size w wx)=>dstates_calls (h.below hb));have HCh:=Lib.hid (fun wx (hb:Below w.heap.size w wx)=>chain_calls (h.below hb) (hU.below hb) (hGB.below hb) (hGS.below hb));obtain⟨hcl,hck⟩:=chainF_ok d h.ok;have hsl:(dStates d).length≤512:=by unfold dStates;rw[List.length_map];exact hmax
 have HCov:=Lib.hid hcov;have HCk:=Lib.hid hck;clear hcov hck h hmax;generalize chainF d=ch at*;generalize dStates d=ss at*;have HLv:=Lib.hid (fun wx=>stlive_calls c wx);have HSo:=Lib.hid (fun p cc fv wx=>sort0_calls p cc fv wx);go_enter Tryz.func48,Tryz.ntmps48;go_wp2_with (first|((with_reducible refine xmm rfl rfl hst ?_);clear hst;intro m w' hm;have hst:=hm.start)|(with_reducible (refine xba rfl rfl hst rfl ?_;clear hst;intro bb w' hst)));refine(hSt.out _ (hm.move hst).sx.end).mono ?_;rintro e w2 ⟨v,Lo,rfl,hown,hs2⟩;obtain⟨b3,rfl⟩:∃b,b=bb:=⟨_,rfl⟩;have hm:=(hm.move (hst.take hs2)).lay;obtain⟨p0,c0,rfl,hrow⟩:=hown.row (by omega) (D:=fun p=>D p∨p∈Lo) (fun p hp=>Or.inr hp);generalize (fun p=>D p∨p∈Lo)=D1 at*;clear hst hs2 hown hSt;have hst:=hm.start;go_wp2_with fail;go_loopw [22] (fun iv wr=>∃(k:Nat) (gs:List Gr) (clock:Nat),k≤ss.length∧iv=.int .i64 k∧Hid ((gs.map (·.key)).Nodup∧∀r∈gs,∃i:Nat,i<k∧r.key=i∧ss[i]? =some 1)∧Mx [] w wr [(b3,stC c,31)] D1 m (mapO gs clock)) (fun iv _=>ss.length-(intOf iv).toNat)
 case atStart=>exact⟨0,[],0,Nat.zero_le _,by go_num,Lib.hid ⟨by simp,by simp⟩,hm.move hst⟩
 case round=>
  clear hst hm;obtain⟨k,gs,clock,hk,rfl,HI,hm⟩:=hrel;have hst:=hm.start
  by_cases hlt:k<ss.length
  ·obtain⟨g1,off,rfl⟩:=hrow.at_some hlt
   have hld:=hrow.ld1 hlt rfl;have hgk:ss[k]? =some ss[k]:=List.getElem?_eq_getElem hlt;generalize ss[k]=sk at*
   by_cases h1:sk=1
   ·subst h1
    have HG:=Lib.hid hgk;clear hgk;go_wp2_with (first|((with_reducible refine xmu rfl rfl hm hst rfl rfl rfl ?_);clear hst hm;intro w' hm;have hst:=hm.start)|(with_reducible refine xd rfl rfl rfl hst ?_));have hnf:gfind (k:Int) gs 0=none:=gfind_none (fun r hr e=>by obtain⟨i,hi,e2,_⟩:=HI.out.2 r hr;omega);have hgp:∀v,(gput gs clock k v).1=gs++[⟨k,v,clock⟩]:=fun v=>by unfold gput;rw[hnf]
    rw[hgp] at hm;go_roundw
    case rel=>exact⟨k+1,_,_,by omega,by go_num,Lib.hid ⟨by
     rw[List.map_append,List.nodup_append]
     exact⟨HI.out.1,by simp,fun x hx y hy e=>by
      obtain⟨r,hr,rfl⟩:=List.mem_map.1 hx;obtain⟨i,hi,e2,_⟩:=HI.out.2 r hr;simp at hy
      omega⟩,fun r hr=>by
     rcases List.mem_append.1 hr with hr |hr
     ·obtain⟨i,hi,e2,e3⟩:=HI.out.2 r hr
      exact⟨i,by omega,e2,e3⟩
     ·obtain rfl:=List.mem_singleton.1 hr
      exact⟨k,by omega,rfl,HG.out⟩⟩,hm⟩
    case measure=>simp[intOf];omega
   ·clear hgk
    go_wp2_with (with_reducible refine xd rfl rfl rfl hst ?_);go_roundw
    case rel=>exact⟨k+1,gs,clock,by omega,by go_num,Lib.hid ⟨HI.out.1,fun r hr=>by
     obtain⟨i,hi,e2,e3⟩:=HI.out.2 r hr
     exact⟨i,by omega,e2,e3⟩⟩,hm.move hst⟩
    case measure=>simp[intOf];omega
  ·obtain rfl:k=ss.length:=by omega
   go_wp2_with fail;refine(HCh.out _ (hm.move hst).sx.end).mono ?_;rintro e w3 ⟨v1,v2,Lo1,Lo2,rfl,hown1,hown2,hs3⟩;have hm:=(hm.move (hst.take hs3)).lay;obtain⟨p1,c1,rfl,hrow1⟩:=hown1.row (by rw[List.length_map];omega) (D:=fun p=>D1 p∨p∈Lo1++Lo2) (fun p hp=>Or.inr (by simp[hp]));obtain⟨p2,c2,rfl,hrow2⟩:=hown2.row (by rw[List.length_map];omega) (D:=fun p=>D1 p∨p∈Lo1++Lo2) (fun p hp=>Or.inr (by simp[hp]));generalize (fun p=>D1 p∨p∈Lo1++Lo2)=D2 at*;rw[List.length_map,List.length_map];clear hst hs3 hown1 hown2 HCh;have hst:=hm.start;go_wp2_with (first|(with_reducible (refine callB (HLv.out _) hst ?_;clear hst;intro w' hst))|(with_reducible refine xa rfl rfl rfl hst ?_));go_loopw [10,41] (fun lv iv wr=>∃(k:Nat) (Lo:List Blk),k≤ch.length∧iv=.int .i64 k∧Hid (OwnR 36 2 rnL Lo lv (allR (ch.take k)))∧Sx ([(b3,stC c,31)].map (·.1)) w3 wr ((b3,stC c,31)::(Lo++[])) D2 []) (fun _ iv _=>ch.length-(intOf iv).toNat)
   case atStart=>exact⟨0,[],Nat.zero_le _,by go_num,Lib.hid (OwnR.none _),hst⟩
   case round=>
    clear hst;obtain⟨k,Lo,hk2,rfl,HO,hst⟩:=hrel
    by_cases hlt2:k<ch.length
    ·obtain⟨g1,off1,rfl⟩:=hrow1.at_some (i:=k) (by rw[List.length_map];exact hlt2)
     obtain⟨g2,off2,rfl⟩:=hrow2.at_some (i:=k) (by rw[List.length_map];exact hlt2);have hld1:=hrow1.lda (i:=k) (by rw[List.length_map];exact hlt2);have hld2:LdD D2 3 ⟨g2,off2+k*1,none⟩ (.int .i64 ((ch.map (·.at_))[k]'(by rw[List.length_map];exact hlt2))):=by rw[Nat.mul_one];exact hrow2.ld1 (by rw[List.length_map];exact hlt2) rfl
     rw[List.getElem_map] at hld1 hld2;have HS:Hid (allR (ch.take (k+1))=allR (ch.take k)++[⟨ch[k].s.start,ch[k].s.count⟩,⟨ch[k].at_,1⟩]):=Lib.hid (by rw[List.take_succ_eq_append_getElem hlt2];unfold allR;rw[List.flatMap_append];simp);have hal:=allR_len (ch.take k);rw[List.length_take] at hal;generalize ch[k]=x at*;have hown:=HO.out;generalize allR (ch.take k)=al at*;obtain⟨pa,ca,rfl⟩:=hown.slice;have hal2:al.length≤2000:=by omega
     have HAl:=Lib.hid hal;clear hal HO;go_wp2_with (with_reducible first|refine xd rfl rfl rfl hst ?_|(refine xsa rfl rfl rfl rfl hst ?_;clear hst;intro w' hst)|(refine xnw rfl rfl hst ?_;clear hst;intro bn w' hst));obtain⟨b12,rfl⟩:∃b,b=bn:=⟨_,rfl⟩;refine Fx.wp_region_flow ⟨[b3],w3,D2,[],fun w=>∃L',(b12,slC x.s,41)∈L'∧Sx [b3] w3 w L' D2 [],fun i=>i==8||i==9,fun i=> !(i==2||i==6),fun _=>false⟩ (List.range 11) rfl hst (by kernel_rfl) (by kernel_rfl) (by kernel_rfl) (by kernel_rfl) (by kernel_rfl) ?_;show Fx.wpLX _ _ _ [0,1,2,3,4,5,6,7,8,9,10] _ (Fx.mkO [] _);refine Fx.val rfl rfl rfl rfl (v:=.slice pa al.length ca) (Fx.e_mv rfl rfl) ?_;refine Fx.val rfl rfl rfl rfl (Fx.e_fa rfl rfl) ?_;refine Fx.rd rfl rfl rfl rfl (v:=.agg #[.int .i64 x.s.start,.int .i64 x.s.count]) (fun w h=>⟨_,by simp,h⟩) (fun w h=>by obtain⟨L',hm,hs⟩:=h;obtain⟨L2,hs⟩:=hs.front hm;exact Fx.r_a rfl rfl w hs) ?_;refine Fx.val rfl rfl rfl rfl (v:=.slice (some ⟨g2,off2,none⟩) ch.length c2) (Fx.e_mv rfl rfl) ?_;refine Fx.val rfl rfl rfl rfl (v:=.int .i64 k) (Fx.e_mv rfl rfl) ?_;refine Fx.ix rfl rfl rfl rfl rfl rfl rfl (by omega) ?_;refine Fx.rd rfl rfl rfl rfl (v:=.int .i64 x.at_) (fun w h=>⟨_,by simp,h⟩) (fun w h=>by obtain⟨L',hm,hs⟩:=h;exact Fx.r_d rfl rfl w hs) ?_;refine Fx.val rfl rfl rfl rfl (v:=.agg #[.int .i64 x.at_,.int .i64 1]) (fun w=>by kernel_rfl) ?_;refine Fx.mk2 (TS:=98) rfl rfl rfl rfl rfl (run_bs2r x.s.start x.s.count x.at_ 1) ?_;intro b8;refine⟨Or.inr (fun w h=>⟨_,by simp,h⟩),?_⟩;refine Fx.apL (TS:=98) (Lo:=Lo) (R:=(b8,#[.int .i64 x.s.start,.int .i64 x.s.count,.int .i64 x.at_,.int .i64 1],36)::(b12,slC x.s,41)::(b3,stC c,31)::[]) (ms:=[⟨x.s.start,x.s.count⟩,⟨x.at_,1⟩]) (C:=#[.int .i64 x.s.start,.int .i64 x.s.count,.int .i64 x.at_,.int .i64 1]) (T':=36) rfl rfl rfl (perm_count fun x=>by simp only[List.count_append,List.count_cons,List.count_nil];omega) rfl rfl hown rfl (by simp) rfl (by simp;omega) ?_;intro q1 d1 Lo' hown1;refine⟨Or.inr (fun w h=>⟨_,by simp,h⟩),?_⟩;refine Fx.val rfl rfl rfl rfl (v:=.slice q1 (al.length+2) d1) (Fx.e_as rfl rfl) ?_;clear hst;intro w' hst;have hst:Sx [b3] w3 w' ((b3,stC c,31)::(Lo'++[])) D2 []:=((hst.perm (perm_ee ..)).drop).drop;simp only[Fx.nxt_some,Fx.nxt_none,Fx.mkO_cons,Fx.mkO_nil,Fx.evO_eq];go_wp2_with fail;go_roundw
     case rel=>exact⟨k+1,Lo',by omega,by go_num,Lib.hid (by rw[HS.out];exact hown1),hst⟩
     case measure=>simp[intOf];omega
    ·obtain rfl:k=ch.length:=by omega
     rw[List.take_length] at HO;have hal:=allR_len ch;have hown:=HO.out
     have HAm:Hid (∀r∈allR ch,(0≤r.s∧r.s≤512)∧r.c≤512):=Lib.hid (fun r hr=>by
      obtain⟨x,hx,hr2⟩:=List.mem_flatMap.1 hr;obtain⟨h1,h2,h3⟩:=HCk.out x hx;have h4:=(slOk_iff _).1 h1;unfold SlOk at h4;simp only[List.mem_cons,List.not_mem_nil,or_false] at hr2;rcases hr2 with rfl |rfl
      ·simp only;omega
      ·simp only;omega)
     generalize allR ch=al at*;obtain⟨pa,ca,rfl⟩:=hown.slice;have hm:=(hm.move (hst.perm (perm_bk (b3,stC c,31) Lo).symm)).lay;obtain⟨p4,c4,hv4,hrow4⟩:=hown.row (by omega) (D:=fun p=>D2 p∨p∈Lo) (fun p hp=>Or.inr hp);injection hv4 with e1 e2 e3
     subst e1 e3;generalize (fun p=>D2 p∨p∈Lo)=D3 at*;have HAl:=Lib.hid hal;have hal3:al.length≤2000:=by omega
     clear hst hown HO hal hrow1 hrow2;have hst:=hm.start;go_wp2_with fail;go_loopw [59] (fun iv wr=>∃(j:Nat) (gs:List Gr) (clock:Nat),j≤al.length∧iv=.int .i64 j∧Hid ((gs.map (·.key)).Nodup∧(∀r∈gs,∃i:Nat,r.key=i∧ss[i]? =some 1)∧∀r∈gs,¬covR (al.take j) r.key)∧Mx [] w wr [(b3,stC c,31)] D3 m (mapO gs clock)) (fun iv _=>al.length-(intOf iv).toNat)
     case atStart=>exact⟨0,gs,clock,Nat.zero_le _,by go_num,Lib.hid ⟨HI.out.1,fun r hr=>by obtain⟨i,_,e1,e2⟩:=HI.out.2 r hr;exact⟨i,e1,e2⟩,fun r hr h=>by obtain⟨x,hx,_⟩:=h;simp at hx⟩,hm.move hst⟩
     case round=>
      clear hst hm HI;obtain⟨j,gs,clock,hj,rfl,HI,hm⟩:=hrel;have hst:=hm.start
      by_cases hlt3:j<al.length
      ·obtain⟨g4,off4,rfl⟩:=hrow4.at_some hlt3
       have hld4:=hrow4.lda hlt3;have hxr:=HAm.out _ (List.getElem_mem hlt3);have HT:Hid (al.take (j+1)=al.take j++[al[j]]):=Lib.hid (List.take_succ_eq_append_getElem hlt3);generalize al[j]=x at*;go_wp2_with (with_reducible first|refine x1 rfl rfl rfl hst ?_|refine xd rfl rfl rfl hst ?_|(refine xsa rfl rfl rfl rfl hst ?_;clear hst;intro w' hst)|(refine xnw rfl rfl hst ?_;clear hst;intro bn w' hst));obtain⟨b14,rfl⟩:∃b,b=bn:=⟨_,rfl⟩;have hm:=hm.move hst;go_loopw [65] (fun iv wr=>∃(q:Nat) (gs:List Gr) (clock:Nat),q≤x.c.toNat∧iv=.int .i64 q∧Hid ((gs.map (·.key)).Nodup∧(∀r∈gs,∃i:Nat,r.key=i∧ss[i]? =some 1)∧(∀r∈gs,¬covR (al.take j) r.key)∧∀r∈gs,¬(x.s≤r.key∧r.key<x.s+q))∧Mx [] w wr [(b14,#[.int .i64 x.s,.int .i64 x.c],36),(b3,stC c,31)] D3 m (mapO gs clock)) (fun iv _=>x.c.toNat-(intOf iv).toNat)
       case atStart=>exact⟨0,gs,clock,Nat.zero_le _,by go_num,Lib.hid ⟨HI.out.1,HI.out.2.1,HI.out.2.2,fun r hr h=>by omega⟩,hm⟩
       case round=>
        clear hst hm HI;obtain⟨q,gs,clock,hq,rfl,HI,hm⟩:=hrel;have hst:=hm.start
        by_cases hlt5:(q:Int)<x.c
        ·have hds:=gdel_spec (n:=x.s+q) HI.out.1
         have HD:=Lib.hid hds;clear hds;go_wp2_with (first|((with_reducible refine xdel rfl rfl (by kernel_rfl) (by kernel_rfl) hm hst rfl rfl ?_);clear hst hm;intro w' hm;have hst:=hm.start)|(with_reducible refine x1 rfl rfl rfl hst ?_));go_roundw
         case rel=>exact⟨q+1,_,clock,by omega,by go_num,Lib.hid ⟨HD.out.2,fun r hr=>HI.out.2.1 r (HD.out.1 r hr).1,fun r hr=>HI.out.2.2.1 r (HD.out.1 r hr).1,fun r hr h=>by
          obtain⟨h1,h2⟩:=HD.out.1 r hr;have:=HI.out.2.2.2 r h1;push_cast at h
          omega⟩,hm⟩
         case measure=>simp[intOf];omega
        ·go_wp2_with fail
         go_roundw
         case rel=>exact⟨j+1,gs,clock,by omega,by go_num,Lib.hid ⟨HI.out.1,HI.out.2.1,fun r hr h=>by
          obtain⟨y,hy,h1,h2⟩:=h;rw[HT.out] at hy;rcases List.mem_append.1 hy with hy |hy
          ·exact HI.out.2.2.1 r hr ⟨y,hy,h1,h2⟩
          ·obtain rfl:=List.mem_singleton.1 hy
           exact HI.out.2.2.2 r hr ⟨h1,by omega⟩⟩,(hm.move hst).drop⟩
         case measure=>simp[intOf];omega
      ·obtain rfl:j=al.length:=by omega
       have hgs:gs=[]:=by
        cases gs with
        |nil=>rfl
        |cons r gs=>
         obtain⟨i,e1,e2⟩:=HI.out.2.1 r (by simp);have h1:=HCov.out i e2;have h2:=HI.out.2.2 r (by simp);rw[List.take_length,e1] at h2;exact absurd h1 h2
       subst hgs;go_wp2_with (first|((with_reducible refine xrng rfl rfl hm hst rfl ?_);intro w' hw' hb' hbl)|fail);have hst:=hst.below hbl
       have HNx:Hid (∀ty,(Instr.next (.pointer (some ⟨_,0,none⟩)) false ty).run Tryz.prog w'=.ok (.tuple #[.bool false]) w'):=Lib.hid (fun ty=>by
        rw[hw'];rcases run_next_map (P:=Tryz.prog) _ ty m clock clock #[] #[] clock hb' (by simp) (Nat.le_refl _) with⟨_,h1⟩ |⟨e,he,_⟩
        ·exact h1
        ·simp[leftOf] at he)
       clear hw' hb' hbl;simp only[Act.put,List.setIfInBounds_toArray,List.set_cons_succ,List.set_cons_zero];go_loopw [16] (fun lv wr=>lv=.slice none 0 0∧wr=w') (fun _ _=>0)
       case atStart=>exact⟨rfl,rfl⟩
       case round=>
        obtain⟨rfl,rfl⟩:=hrel;go_wp2_with (first|(with_reducible refine xnx rfl rfl rfl HNx.out ?_)|(with_reducible (refine callB (HSo.out _ _ _ _) hst ?_;clear hst;intro w' hst))|fail);go_ret;exact⟨rfl,(hm.move hst).sx.end⟩
end Go.Proofs.YtdkeiefgkgpcbaaGreatDoor
