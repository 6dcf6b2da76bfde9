/- Steps of the proof: Load, Mount, Format, Lives0, Lives, NameFind, NameSeek, Rem. -/
import Derived.Laws.Cover1
import Derived.Test.YtdkeiefgkgpcbaaGreatDoorP23
set_option linter.unusedVariables false
set_option linter.unusedSimpArgs false
set_option maxRecDepth 100000
namespace Go.Proofs.YtdkeiefgkgpcbaaGreatDoor
open Go.RowKit
abbrev loadV (c:Int) (s:Sl) (e:Int):Value:=.tuple #[.agg (stC c),.agg (slC s),.int .i64 e]
theorem xnwS {ops:Array Oper} {rest:List Oper} {o:Oper} {a:Act} {w:World} {Q:Exit→Act→World→Prop} {S:List Nat} {w0:World} {L:List Blk} {D:Dat} {F:List Nat} (d:Nat) (hd:o.dst=some d) (hw:Region.wanted o (yielded ops a.tmps)=true) {T:TypeId} (ho:o.op=.alloc T) (h:Sx S w0 w L D F) {C:Array Value} [z:ZeroT T C]
  (hk:∀(b:Nat) (w':World),Sx S w0 w' ((b,C,T)::L) D F→wpList Tryz.prog ops Q rest (a.put o.dst (.pointer (some ⟨b,0,none⟩))) w'):wpList Tryz.prog ops Q (o::rest) a w:=xnw hw ho h hk
theorem load_nil (w:World):Calls Tryz.prog 11 #[.pointer none] w (Ret (loadV 0 sl0 1) w):=by
 have hst:=Sx.startN w;have HL:=Lib.hid (fun wx=>dlen_nil wx);go_enter Tryz.func11,Tryz.ntmps11;go_wp2_with (first|(with_reducible (refine xval rfl 16 rfl (.agg (stC 0)) (fun w=>by kernel_rfl) ?_))|(with_reducible (refine xval rfl 17 rfl (.agg (slC sl0)) (fun w=>by kernel_rfl) ?_))|(with_reducible first|(refine xsa rfl rfl rfl rfl hst ?_;clear hst;intro w' hst)|(refine xnw rfl rfl hst ?_;clear hst;intro bn w' hst))|(with_reducible (refine callB (HL.out _) hst ?_;clear hst;intro w' hst)));refine bodyPost_ret (results3 rfl (res_agg rfl hst.st.has) (res_agg rfl hst.st.has) res_tmp) rfl ⟨rfl,hst.end⟩
section
variable {D:Dat} {F:List Nat} {w:World} {g:Nat} {d:Dv}
theorem load_none (h:DevW D F w g d) (hoff:d.off=false) (hch:chainF d=[]) (hU:GSums w) (hGB:GBegin w) (hGS:GSha w):Calls Tryz.prog 11 #[.pointer (some ⟨g,0,none⟩)] w (Ret (loadV 0 sl0 4) w):=by
 have hst:=Sx.start0 w h.data;have hmin:=h.ok.min;have HL:=Lib.hid (fun wx (hb:Below w.heap.size w wx)=>dlen_calls (h.below hb));have HU:=Lib.hid (fun wx (hb:Below w.heap.size w wx)=>dup_calls (h.below hb));have HCh:=Lib.hid (fun wx (hb:Below w.heap.size w wx)=>chain_calls (h.below hb) (hU.below hb) (hGB.below hb) (hGS.below hb));rw[hoff] at HU;rw[hch] at HCh;generalize d.now.length=N at*;have hne:((N:Int)==0)=false:=by rw[beq_eq_false_iff_ne];omega
 clear h;go_enter Tryz.func11,Tryz.ntmps11;go_wp2_with (first|(with_reducible (refine xnw rfl rfl hst ?_;clear hst;intro bn w' hst))|(with_reducible (refine callB (HL.out _ hst.end) hst ?_;clear hst;intro w' hst))|(with_reducible (refine callB (HU.out _ hst.end) hst ?_;clear hst;intro w' hst)));refine(HCh.out _ hst.end).mono ?_;rintro e w2 ⟨v1,v2,Lo1,Lo2,rfl,hown1,hown2,hs2⟩;obtain⟨p1,c1,rfl⟩:=hown1.slice;have hst:=(hst.take hs2).dropL;simp only[List.map_nil,List.length_nil];go_wp2_with (first|(with_reducible (refine xval rfl 32 rfl (.agg (stC 0)) (fun w=>by kernel_rfl) ?_))|(with_reducible (refine xval rfl 33 rfl (.agg (slC sl0)) (fun w=>by kernel_rfl) ?_))|(with_reducible (refine xsa rfl rfl rfl rfl hst ?_;clear hst;intro w' hst)));refine bodyPost_ret (results3 rfl (res_agg rfl hst.st.has) (res_agg rfl hst.st.has) res_tmp) rfl ⟨rfl,hst.end⟩
set_option maxHeartbeats 4000000 in
theorem load_one (h:DevW D F w g d) (hoff:d.off=false) {x:Fnd} (hch:chainF d=[x]) (hen:entriesF d x.s=([],0)) (hU:GSums w) (hGB:GBegin w) (hGS:GSha w):Calls Tryz.prog 11 #[.pointer (some ⟨g,0,none⟩)] w (Ret (loadV x.s.clock x.s 0) w):=by
 have hst:=Sx.start0 w h.data;have hmin:=h.ok.min;have hok:=(slOk_iff _).1 ((chainF_ok d h.ok).2 x (by rw[hch];simp)).1;unfold SlOk at hok;have HL:=Lib.hid (fun wx (hb:Below w.heap.size w wx)=>dlen_calls (h.below hb));have HU:=Lib.hid (fun wx (hb:Below w.heap.size w wx)=>dup_calls (h.below hb));have HCh:=Lib.hid (fun wx (hb:Below w.heap.size w wx)=>chain_calls (h.below hb) (hU.below hb) (hGB.below hb) (hGS.below hb));have HEn:=Lib.hid (fun wx (hb:Below w.heap.size w wx)=>entries_calls (h.below hb) x.s (by omega) (hGB.below hb) (hGS.below hb) (hU.below hb));rw[hoff] at HU;rw[hch] at HCh;rw[hen] at HEn;generalize d.now.length=N at*;have hne:((N:Int)==0)=false:=by rw[beq_eq_false_iff_ne];omega
 have HSt:=Lib.hid (fun p cp wx=>stall_calls 0 x.s.clock (by omega) p cp wx);clear h hok hch hen;go_enter Tryz.func11,Tryz.ntmps11;go_wp2_with (first|(with_reducible refine xnwS 2 rfl rfl rfl hst ?_;clear hst;intro b2 w' hst)|(with_reducible refine xnwS 3 rfl rfl rfl hst ?_;clear hst;intro b3 w' hst)|(with_reducible refine xnwS 5 rfl rfl rfl hst ?_;clear hst;intro b5 w' hst)|fail |(with_reducible (refine callB (HL.out _ hst.end) hst ?_;clear hst;intro w' hst))|(with_reducible (refine callB (HU.out _ hst.end) hst ?_;clear hst;intro w' hst)));refine(HCh.out _ hst.end).mono ?_;rintro e w2 ⟨v1,v2,Lo1,Lo2,rfl,hown1,hown2,hs2⟩;have hst:=(hst.take hs2).lay;obtain⟨p1,c1,rfl,hrow⟩:=hown1.row (by simp) (D:=fun p=>D p∨p∈Lo1++Lo2) (fun p hp=>Or.inr (by simp[hp]));generalize (fun p=>D p∨p∈Lo1++Lo2)=D1 at*;clear hs2 hown1 hown2 HCh HL HU;simp only[List.map_cons,List.map_nil,List.length_cons,List.length_nil,Nat.zero_add] at hrow ⊢;obtain⟨g1,off1,rfl⟩:=hrow.at_some (i:=0) (by simp);have hld:=hrow.lda (i:=0) (by simp);simp only[List.getElem_cons_zero] at hld;have hld0:LdD D1 41 ⟨g1,off1+0*69,none⟩ (.agg (slC x.s)):=hld;rw[Nat.zero_mul,Nat.add_zero] at hld;go_wp2_with fail;go_loopw [36] (fun iv wr=>∃(k:Nat) (clk:Int),iv=.int .i64 k∧Hid ((k=0∧clk=0)∨(k=1∧clk=x.s.clock))∧Sx [] w wr [(b5,stC clk,31),(b3,slC sl0,41),(b2,stC 0,31)] D1 []) (fun iv _=>1-(intOf iv).toNat)
 case atStart=>exact⟨0,0,by go_num,Lib.hid (Or.inl ⟨rfl,rfl⟩),hst⟩
 case round=>
  clear hst;obtain⟨k,clk,rfl,HI,hst⟩:=hrel;rcases HI.out with⟨rfl,rfl⟩ |⟨rfl,rfl⟩
  ·clear HI
   go_wp2_with (with_reducible first|refine xa rfl rfl rfl hst ?_|refine xd rfl rfl rfl hst ?_|(refine xsa rfl rfl rfl rfl hst ?_;clear hst;intro w' hst)|(refine xnw rfl rfl hst ?_;clear hst;intro bn w' hst));refine(HEn.out _ hst.end).mono ?_;rintro e w4 ⟨v4,Lo4,rfl,hown4,_,hs4⟩;obtain⟨p4,c4,rfl⟩:=hown4.slice;have hst:=(hst.take hs4).dropL;simp only[List.length_nil];clear hs4 hown4;go_wp2_with (first|(with_reducible first|refine x1 rfl rfl rfl hst ?_|refine xa rfl rfl rfl hst ?_|(refine xsa rfl rfl rfl rfl hst ?_;clear hst;intro w' hst))|(with_reducible (refine callB (HSt.out _ _ _) hst ?_;clear hst;intro w' hst)));go_roundw
   case rel=>exact⟨1,_,by go_num,Lib.hid (Or.inr ⟨rfl,rfl⟩),hst.drop⟩
   case measure=>simp[intOf]
  ·clear HI
   go_wp2_with fail;refine Fx.wp_region_flow ⟨[],w,D1,[],fun wx=>∃L',(b5,stC x.s.clock,31)∈L'∧Sx [] w wx L' D1 [],fun i=>i==7||i==8,fun i=> !(i==0||i==6),fun i=>i==8⟩ (List.range 10) rfl hst (by kernel_rfl) (by kernel_rfl) (by kernel_rfl) (by kernel_rfl) (by kernel_rfl) ?_;show Fx.wpLX _ _ _ [0,1,2,3,4,5,6,7,8,9] _ (Fx.mkO [] _);refine Fx.rd rfl rfl rfl rfl (v:=.agg (stC x.s.clock)) (fun w h=>⟨_,by simp,h⟩) (fun w h=>by obtain⟨L',hm,hs⟩:=h;obtain⟨L2,hs⟩:=hs.front hm;exact Fx.r_a rfl rfl w hs) ?_;refine Fx.val rfl rfl rfl rfl (v:=.slice (some ⟨g1,off1,none⟩) 1 c1) (Fx.e_mv rfl rfl) ?_;refine Fx.val rfl rfl rfl rfl (v:=.slice (some ⟨g1,off1,none⟩) 1 c1) (Fx.e_mv rfl rfl) ?_;refine Fx.ln rfl rfl rfl rfl rfl rfl ?_;refine Fx.val rfl rfl rfl rfl (v:=.int .i64 (0:Nat)) (fun w=>by kernel_rfl) ?_;refine Fx.ix rfl rfl rfl rfl rfl rfl rfl (by decide) ?_
   refine Fx.rd rfl rfl rfl rfl (v:=.agg (slC x.s)) (fun w h=>⟨_,by simp,h⟩) (fun w h=>by
    obtain⟨L',hm,hs⟩:=h
    exact Fx.r_d rfl rfl w hs) ?_
   refine Fx.stA rfl rfl rfl rfl rfl (Or.inr (fun w h=>⟨_,by simp,h⟩)) ?_;refine Fx.stA rfl rfl rfl rfl rfl (Or.inl rfl) ?_;refine Fx.val rfl rfl rfl rfl (v:=.int .i64 0) (Fx.e_as rfl rfl) ?_;clear hst;intro w' hst;simp only[Fx.nxt_some,Fx.nxt_none,Fx.mkO_cons,Fx.mkO_nil,Fx.evO_eq];go_wp2_with fail;refine bodyPost_ret (results3 rfl (res_agg rfl hst.st.has) (res_agg rfl hst.st.has) res_tmp) rfl ⟨rfl,hst.end⟩
end
end Go.Proofs.YtdkeiefgkgpcbaaGreatDoor
namespace Go.Proofs.YtdkeiefgkgpcbaaGreatDoor
open Go.RowKit
theorem mount_err {pv:Value} {c e:Int} {s:Sl} {w:World} (hp:∃q,pv=.pointer q) (he:e≠0) (hl:∀wx,Below w.heap.size w wx→Calls Tryz.prog 11 #[pv] wx (Ret (loadV c s e) wx)):Calls Tryz.prog 20 #[pv] w (Ret (loadV 0 sl0 e) w):=by
 have hst:=Sx.startN w;have HL:=Lib.hid hl;clear hl;have he1:(e==0)=false:=by rw[beq_eq_false_iff_ne];exact he
 have he2:(e !=0)=true:=by rw[bne_iff_ne];exact he
 have HE1:=Lib.hid (decide_eq_false he);have HE2:=Lib.hid (decide_eq_true he);clear he;obtain⟨q,rfl⟩:=hp;go_enter Tryz.func20,Tryz.ntmps20;go_wp2_with (first|(with_reducible (refine xval rfl 15 rfl (.bool false) (fun w=>Fx.e_eql rfl rfl rfl HE1.out w) ?_))|(with_reducible (refine xval rfl 22 rfl (.bool true) (fun w=>Fx.e_neq rfl rfl rfl HE2.out w) ?_))|(with_reducible (refine xval rfl 23 rfl (.agg (stC 0)) (fun w=>by kernel_rfl) ?_))|(with_reducible (refine xval rfl 24 rfl (.agg (slC sl0)) (fun w=>by kernel_rfl) ?_))|(with_reducible first|(refine xsa rfl rfl rfl rfl hst ?_;clear hst;intro w' hst)|(refine xnw rfl rfl hst ?_;clear hst;intro bn w' hst))|(with_reducible (refine callB (HL.out _ hst.end) hst ?_;clear hst;intro w' hst)));refine bodyPost_ret (results3 rfl (res_agg rfl hst.st.has) (res_agg rfl hst.st.has) res_tmp) rfl ⟨rfl,hst.end⟩
section
variable {D:Dat} {F:List Nat} {w:World} {g:Nat} {d:Dv}
set_option maxHeartbeats 4000000 in
theorem mount_one (h:DevW D F w g d) (hoff:d.off=false) {x:Fnd} (hch:chainF d=[x]) (hen:entriesF d x.s=([],0)) (hcov:∀i:Nat,(dStates d)[i]? =some 1→covR (allR (chainF d)) i) (hU:GSums w) (hGB:GBegin w) (hGS:GSha w):Calls Tryz.prog 20 #[.pointer (some ⟨g,0,none⟩)] w (Ret (loadV x.s.clock x.s 0) w):=by
 have hst:=Sx.startN w;have HL:=Lib.hid (fun wx (hb:Below w.heap.size w wx)=>load_one (h.below hb) hoff hch hen (hU.below hb) (hGB.below hb) (hGS.below hb));have HR:=Lib.hid (fun wx (hb:Below w.heap.size w wx)=>rest0_calls (h.below hb) x.s.clock hcov (hU.below hb) (hGB.below hb) (hGS.below hb));have HEr:=Lib.hid (fun wx=>erase0_calls (.pointer (some ⟨g,0,none⟩)) none 0 wx);clear h hoff hch hen hcov;go_enter Tryz.func20,Tryz.ntmps20;go_wp2_with (first|(with_reducible refine xnwS 2 rfl rfl rfl hst ?_;clear hst;intro b2 w' hst)|(with_reducible refine xnwS 3 rfl rfl rfl hst ?_;clear hst;intro b3 w' hst)|(with_reducible refine xnwS 5 rfl rfl rfl hst ?_;clear hst;intro b5 w' hst)|(with_reducible refine xnwS 6 rfl rfl rfl hst ?_;clear hst;intro b6 w' hst)|(with_reducible first|refine xa rfl rfl rfl hst ?_|(refine xsa rfl rfl rfl rfl hst ?_;clear hst;intro w' hst))|(with_reducible (refine callB (HL.out _ hst.end) hst ?_;clear hst;intro w' hst))|(with_reducible (refine callB (HR.out _ hst.end) hst ?_;clear hst;intro w' hst))|(with_reducible (refine callB (HEr.out _) hst ?_;clear hst;intro w' hst)));refine Fx.wp_region_flow ⟨[],w,NoD,[],fun wx=>∃L',(b5,stC x.s.clock,31)∈L'∧(b6,slC x.s,41)∈L'∧Sx [] w wx L' NoD [],fun i=>i==2||i==3,fun i=> !(i==0||i==1),fun i=>i==3⟩ (List.range 5) rfl hst (by kernel_rfl) (by kernel_rfl) (by kernel_rfl) (by kernel_rfl) (by kernel_rfl) ?_;show Fx.wpLX _ _ _ [0,1,2,3,4] _ (Fx.mkO [] _);refine Fx.rd rfl rfl rfl rfl (v:=.agg (stC x.s.clock)) (fun w h=>⟨_,by simp,by simp,h⟩) (fun w h=>by obtain⟨L',hm,_,hs⟩:=h;obtain⟨L2,hs⟩:=hs.front hm;exact Fx.r_a rfl rfl w hs) ?_;refine Fx.rd rfl rfl rfl rfl (v:=.agg (slC x.s)) (fun w h=>⟨_,by simp,by simp,h⟩) (fun w h=>by obtain⟨L',_,hm,hs⟩:=h;obtain⟨L2,hs⟩:=hs.front hm;exact Fx.r_a rfl rfl w hs) ?_;refine Fx.stA rfl rfl rfl rfl rfl (Or.inr (fun w h=>⟨_,by simp,by simp,h⟩)) ?_;refine Fx.stA rfl rfl rfl rfl rfl (Or.inl rfl) ?_;refine Fx.val rfl rfl rfl rfl (v:=.int .i64 0) (Fx.e_as rfl rfl) ?_;clear hst;intro w' hst;simp only[Fx.nxt_some,Fx.nxt_none,Fx.mkO_cons,Fx.mkO_nil,Fx.evO_eq];go_wp2_with fail;refine bodyPost_ret (results3 rfl (res_agg rfl hst.st.has) (res_agg rfl hst.st.has) res_tmp) rfl ⟨rfl,hst.end⟩
end
theorem format_nil (w:World):Calls Tryz.prog 16 #[.pointer none] w (Ret (.int .i64 1) w):=by
 have hst:=Sx.startN w;have HL:=Lib.hid (fun wx=>dlen_nil wx);go_enter Tryz.func16,Tryz.ntmps16;go_wp2_with (first|fail |(with_reducible (refine callB (HL.out _) hst ?_;clear hst;intro w' hst)));go_ret;exact⟨rfl,hst.end⟩
section
variable {D:Dat} {F:List Nat} {w:World} {g:Nat} {d:Dv}
theorem format_there (h:DevW D F w g d) (hoff:d.off=false) (hch:0<(chainF d).length) (hU:GSums w) (hGB:GBegin w) (hGS:GSha w):Calls Tryz.prog 16 #[.pointer (some ⟨g,0,none⟩)] w (Ret (.int .i64 160) w):=by
 have hst:=Sx.start0 w h.data;have hmin:=h.ok.min;have HL:=Lib.hid (fun wx (hb:Below w.heap.size w wx)=>dlen_calls (h.below hb));have HU:=Lib.hid (fun wx (hb:Below w.heap.size w wx)=>dup_calls (h.below hb));have HCh:=Lib.hid (fun wx (hb:Below w.heap.size w wx)=>chain_calls (h.below hb) (hU.below hb) (hGB.below hb) (hGS.below hb));rw[hoff] at HU;generalize d.now.length=N at*;have hne:((N:Int)==0)=false:=by rw[beq_eq_false_iff_ne];omega
 clear h;generalize chainF d=ch at*;go_enter Tryz.func16,Tryz.ntmps16;go_wp2_with (first|fail |(with_reducible (refine callB (HL.out _ hst.end) hst ?_;clear hst;intro w' hst))|(with_reducible (refine callB (HU.out _ hst.end) hst ?_;clear hst;intro w' hst)));refine(HCh.out _ hst.end).mono ?_;rintro e w2 ⟨v1,v2,Lo1,Lo2,rfl,hown1,hown2,hs2⟩;obtain⟨p1,c1,rfl⟩:=hown1.slice;have hst:=(hst.take hs2).dropL;rw[List.length_map];go_wp2_with (first|(with_reducible (refine xval rfl 26 rfl (.bool true) (fun w=>Fx.e_gtr rfl rfl rfl (decide_eq_true (by omega)) w) ?_))|fail);go_ret;exact⟨rfl,hst.end⟩
end
end Go.Proofs.YtdkeiefgkgpcbaaGreatDoor
namespace Go.Proofs.YtdkeiefgkgpcbaaGreatDoor
open Go.RowKit
theorem needF_nil:needF []=(2,0):=by kernel_rfl
theorem mkTx_nil (start:Int):(mkTx [] start).1.length≤1000000:=by
 have:(mkTx [] start)=encF []:=rfl;rw[this,show(encF []).1.length=2 by kernel_rfl];decide
theorem freeGo_rng:∀(l:List Int) (i:Nat) (f:Int) (out:List Rn),-1≤f∧f≤i→(∀r∈out,0≤r.s∧r.s≤i)→∀r∈freeGo i f l out,0≤r.s∧r.s≤((i+l.length:Nat):Int)
 | [],i,_,_,_,h=>fun r hr=>by have:=h r hr;simp;exact this
 |s::l,i,f,out,hf,h=>by
  have hout:∀r∈out,0≤r.s∧r.s≤((i+1:Nat):Int):=fun r hr=>by have:=h r hr;omega
  have hlen:i+(s::l).length=(i+1)+l.length:=by rw[List.length_cons];omega
  rw[hlen];unfold freeGo;split
  ·exact freeGo_rng l (i+1) i out (by omega) hout
  ·split
   ·refine freeGo_rng l (i+1) (-1) _ (by omega) (fun r hr=>?_)
    rcases List.mem_append.1 hr with hr |hr
    ·exact hout r hr
    ·obtain rfl:=List.mem_singleton.1 hr
     show 0≤f∧f≤_;omega
   ·exact freeGo_rng l (i+1) f out (by omega) hout
theorem placeF_rng {d:Dv} (hd:d.Ok) (n:Int):0≤(placeF d n).1∧(placeF d n).1≤1000:=by
 have hmax:=hd.max;have hl:(dStates d).length≤512:=by unfold dStates;rw[List.length_map];exact hmax
 have h1:=freeGo_rng (dStates d++[1]) 0 (-1) [] (by omega) (by simp);have h2:(dStates d++[1]).length≤513:=by rw[List.length_append,List.length_singleton];omega
 unfold placeF;split
 ·simp
 ·simp only
  unfold rTake;split
  ·simp
  ·cases hf:(rFree (dStates d)).findIdx? (fun r=>decide (n≤r.c)) with
   |none=>simp
   |some i=>
    simp only;have hi:=(List.findIdx?_eq_some_iff_findIdx_eq.1 hf).1;rw[List.getD_eq_getElem?_getD,List.getElem?_eq_getElem hi];have:=h1 _ (List.getElem_mem hi);simp only[Option.getD_some];unfold rFree at this ⊢;omega
theorem frEnc_len (f:Fr):(frEnc f).1.length≤128:=by
 unfold frEnc;split
 ·rw[List.length_flatMap,show List.range 4=[0,1,2,3] from rfl]
  simp only[List.map_cons,List.map_nil,List.sum_cons,List.sum_nil,List.length_append,List.length_singleton];have h:=fun(k:Nat)=>List.length_take_le 31 ((frText f).drop (k*31))
  have h0:=h 0;have h1:=h 1;have h2:=h 2;have h3:=h 3;omega
 ·exact Nat.zero_le _
theorem slBlk_len (s:Sl):(slBlk s).1.length≤128:=by
 unfold slBlk;split
 ·exact frEnc_len _
 ·exact Nat.zero_le _
theorem splL_size (kind ep:Int) (s:List UInt8):∀b∈splL kind ep s,b.size≤128:=fun b hb=>by
 obtain⟨i,_,rfl⟩:=List.mem_map.1 hb;exact frEnc_len _
theorem makeB_size (last:Option Sl) (clock:Int) (l:List Pu) (start:Int):∀b∈makeB last clock l start,b.size≤128:=fun b hb=>by
 unfold makeB at hb;rcases List.mem_append.1 hb with hb |hb
 ·obtain⟨x,_,hx⟩:=List.mem_flatMap.1 hb
  split at hx
  ·exact splL_size _ _ _ b hx
  ·simp at hx
 ·rcases List.mem_append.1 hb with hb |hb
  ·exact splL_size _ _ _ b hb
  ·obtain rfl:=List.mem_singleton.1 hb
   exact slBlk_len _
def formatF (d:Dv):Dv×Int:=
 if(placeF d 2).2=false then(d,241) else if makeErr none 0 [] (placeF d 2).1≠0 then(d,makeErr none 0 [] (placeF d 2).1) else
  cWrite d (placeF d 2).1 2 (makeB none 0 [] (placeF d 2).1)
def DevLay (v:Value) (D:Dat) (F:List Nat) (w:World) (g:Nat) (d':Dv) (e:Ending) (w':World):Prop:=
 e=.returned v∧∃(D2:Dat) (F':List Nat),(∀p,D p→D2 p)∧(∀p,D2 p→D p∨w.heap.size≤p.1)∧DevW D2 F' w' g d'∧St F w w' []∧∀x∈F',x∈F∨w.heap.size≤x
theorem DevMem.mono {D D':Dat} {d:Dv} {q:Dp} (h:DevMem D d q) (hs:∀p,D p→D' p):DevMem D' d q:=
 ⟨h.ok,h.sl,h.ss,h.st,h.nl,h.ns,h.nt,h.ac,h.al,h.kp.mono hs⟩
theorem Sx.devLay {D D2:Dat} {F:List Nat} {w0 w:World} {g:Nat} {d':Dv} {q:Dp} {e:Ending} {v:Value} (h:Sx F w0 w (devL g d' q) D2 []) (m:DevMem D2 d' q) (h1:∀p,D p→D2 p) (h2:∀p,D2 p→D p∨w0.heap.size≤p.1) (he:e=.returned v):DevLay v D F w0 g d' e w:=by
 obtain⟨he,F',hd,hs,hF⟩:=h.devRet m he;exact⟨he,D2,F',h1,h2,hd,hs,hF⟩
def NotG (F:List Nat):Prop:=1∉F∧2∉F∧0∉F
section
variable {D:Dat} {F:List Nat} {w:World} {g:Nat} {d:Dv}
set_option maxHeartbeats 8000000 in
theorem format_calls (h:DevW D F w g d) (hF:NotG F) (hoff:d.off=false) (hch:chainF d=[]) (hac:d.acts.length≤1000) (hU:GSums w) (hGB:GBegin w) (hGS:GSha w):Calls Tryz.prog 16 #[.pointer (some ⟨g,0,none⟩)] w (DevLay (.int .i64 (formatF d).2) D F w g (formatF d).1):=by
 have hmin:=h.ok.min;have hpr:=placeF_rng h.ok 2;obtain⟨q,m,_,hst⟩:=h.open h.lt;clear h;have HG:=Lib.hid (fun wx L (h:Sx F w wx L D [])=>(⟨hU.of_sx h hF.1,hGB.of_sx h hF.2.2,hGS.of_sx h hF.2.1⟩:GSums wx∧GBegin wx∧GSha wx));have HL:=Lib.hid (fun F wx (hd:DevW D F wx g d)=>dlen_calls hd);have HUp:=Lib.hid (fun F wx (hd:DevW D F wx g d)=>dup_calls hd);rw[hoff] at HUp;have HCh:=Lib.hid (fun F wx (hd:DevW D F wx g d) (h:GSums wx∧GBegin wx∧GSha wx)=>chain_calls hd h.1 h.2.1 h.2.2);rw[hch] at HCh
 have HN:Hid (∀wx,GSums wx∧GBegin wx∧GSha wx→Calls Tryz.prog 23 #[.slice none 0 0] wx (Ret (.tuple #[.int .i64 2,.int .i64 0]) wx)):=Lib.hid (fun wx h=>by
  have:=need_calls (p:=none) (c:=0) (l:=[]) wx (RowAt.nil ..) (by simp) (by simp) (by simp) h.2.1 h.2.2;rw[needF_nil] at this
  exact this)
 have HPl:=Lib.hid (fun F wx (hd:DevW D F wx g d)=>place_calls hd 2 (by unfold I64;omega));obtain⟨R,hR⟩:∃R,formatF d=R:=⟨_,rfl⟩;rw[hR];unfold formatF at hR;generalize placeF d 2=pl at*;obtain⟨at_,ok⟩:=pl;simp only at hpr hR HPl;generalize hN:d.now.length=N at*;have hne:((N:Int)==0)=false:=by rw[beq_eq_false_iff_ne];omega
 clear hN;go_enter Tryz.func16,Tryz.ntmps16;go_wp2_with (first|fail |(with_reducible (refine callOr HL.out hst m ?_;clear hst;intro w' hst))|(with_reducible (refine callOr HUp.out hst m ?_;clear hst;intro w' hst)));obtain⟨F2,hd2⟩:=Sx.devW (g:=g) hst m;refine(HCh.out _ _ hd2 (HG.out _ _ hst)).mono ?_;rintro e w2 ⟨v1,v2,Lo1,Lo2,rfl,hown1,hown2,hs2⟩;obtain⟨p1,c1,rfl⟩:=hown1.slice;have hst:=(hst.take hs2).dropL;simp only[List.map_nil,List.length_nil];clear hs2 hown1 hown2 hd2 HCh
 cases ok
 ·rw[if_pos rfl] at hR
  subst hR;go_wp2_with (first|fail |(with_reducible (refine callB (HN.out _ (HG.out _ _ hst)) hst ?_;clear hst;intro w' hst))|(with_reducible (refine callOr HPl.out hst m ?_;clear hst;intro w' hst)));go_ret;exact hst.devLay m (fun _ h=>h) (fun _ h=>Or.inl h) rfl
 ·rw[if_neg (by simp)] at hR
  have HMk:=Lib.hid (fun wx (hg:GSums wx∧GBegin wx∧GSha wx)=>make_calls (p:=none) (c:=0) (l:=[]) (clock:=0) (start:=at_) wx LastAt.none (RowAt.nil ..) (by simp) (by simp) (by simp) (by omega) (mkTx_nil _) (by decide) hg.2.1 hg.2.2 hg.1);have hbs:=makeB_size none 0 [] at_
  have hbl:(makeB none 0 [] at_).length≤20000:=by
   unfold makeB;have h2:=splL_len 68 (lastN none) (mkTx [] at_).1 (mkTx_nil _);rw[List.length_append,List.length_append,List.length_singleton,show putBlocks (lastN none) []=[] from rfl,List.length_nil];omega
  unfold MakePost at HMk;rw[needF_nil] at HMk;generalize makeErr none 0 [] at_=me at*
  generalize makeB none 0 [] at_=mb at*
  generalize mkSl none 0 [] at_=ms at*
  go_wp2_with (first|fail |(with_reducible (refine callB (HN.out _ (HG.out _ _ hst)) hst ?_;clear hst;intro w' hst))|(with_reducible (refine callOr HPl.out hst m ?_;clear hst;intro w' hst)));refine(HMk.out _ (HG.out _ _ hst)).mono ?_;rintro e w4 ⟨P,LoB,LoE,rfl,hs4,hP⟩;obtain⟨D2,hDe⟩:∃D2:Dat,D2=(fun p=>D p∨p∈LoB++LoE):=⟨_,rfl⟩
  have hD2:Hid (∀p,D2 p→D p∨w.heap.size≤p.1):=Lib.hid (fun p hp=>by
   rw[hDe] at hp;rcases hp with hp |hp
   ·exact Or.inl hp
   ·rcases hs4.own p hp with h1 |h1
    ·exact Or.inr (Nat.le_trans hst.st.size h1)
    ·simp at h1)
  have hD1:Hid (∀p,D p→D2 p):=Lib.hid (fun p hp=>by rw[hDe];exact Or.inl hp);have hDB:Hid (∀p∈LoB,D2 p):=Lib.hid (fun p hp=>by rw[hDe];exact Or.inr (by simp[hp]));have hst:Sx F w w4 (devL g d q) D2 []:=by rw[hDe];exact(hst.take hs4).lay
  have m:DevMem D2 d q:=m.mono hD1.out;clear hs4 HMk HN HPl HL HUp hDe
  by_cases hme:me=0
  ·subst hme
   rw[if_neg (by simp)] at hR;obtain⟨e1,e2,e3,hB,hE⟩:=hP rfl;obtain⟨stt,ct,pb,nb,cb,pe,ne,ce,sl⟩:=P;simp only at e1 e2 e3 hB hE;subst e1 e2 e3;obtain⟨p9,c9,hv9,hrow⟩:=hB.row (by omega) (D:=D2) (fun p hp=>hDB.out p hp);injection hv9 with f1 f2 f3
   subst f1 f3;subst f2;have HWr:=Lib.hid (fun F wx (hd:DevW D2 F wx g d)=>(show Calls Tryz.prog 25 #[.pointer (some ⟨g,0,none⟩),.agg (plL ⟨stt,2,pb,mb.length,cb,pe,ne,ce,sl⟩).toArray] wx (DevRet (.int .i64 (cWrite d stt 2 mb).2) D2 F wx g (cWrite d stt 2 mb).1) from cwrite_calls hd hrow (fun s hs=>by have:=hbs s hs;omega) (by omega) (by omega) (by omega)));have HWr2:Hid (∀F wx,DevW D2 F wx g d→Calls Tryz.prog 25 #[.pointer (some ⟨g,0,none⟩),.agg (plL ⟨stt,2,pb,mb.length,cb,pe,ne,ce,sl⟩).toArray] wx (DevRet (.int .i64 R.2) D2 F wx g R.1)):=by rw[←hR];exact HWr
   clear hrow hP hB hE;go_wp2_with (first|(with_reducible first|refine xa rfl rfl rfl hst ?_|(refine xsa rfl rfl rfl rfl hst ?_;clear hst;intro w' hst)|(refine xnw rfl rfl hst ?_;clear hst;intro bn w' hst))|(with_reducible (refine callO HWr2.out hst m ?_;clear hst m;intro w5 q5 hst m)));go_ret;exact hst.drop.devLay m hD1.out hD2.out rfl
  ·rw[if_pos hme] at hR
   subst hR;go_wp2_with (with_reducible first|(refine xsa rfl rfl rfl rfl hst ?_;clear hst;intro w' hst)|(refine xnw rfl rfl hst ?_;clear hst;intro bn w' hst));go_ret;exact hst.drop.devLay m hD1.out hD2.out rfl
end
end Go.Proofs.YtdkeiefgkgpcbaaGreatDoor
namespace Go.Proofs.YtdkeiefgkgpcbaaGreatDoor
def dA:Dv:=dvOf (List.replicate 8 b0)
def dB:Dv:=(formatF dA).1
def xB:Fnd:=(chainF dB).headD fd0
theorem u1:chainF dB=[xB]:=by kernel_rfl
theorem u2:(entriesF dB xB.s).2=0:=by kernel_rfl
theorem u3:(entriesF dB xB.s).1.length=0:=by kernel_rfl
theorem u4:xB.s.n=1∧xB.s.clock=0∧(xB.s.start,xB.s.count,xB.at_)=(0,1,1):=by refine⟨?_,?_,?_⟩<;>kernel_rfl
theorem u5:dB.off=false∧dStates dB=[1,1,0,0,0,0,0,0]:=by refine⟨?_,?_⟩<;>kernel_rfl
end Go.Proofs.YtdkeiefgkgpcbaaGreatDoor
namespace Go.Proofs.YtdkeiefgkgpcbaaGreatDoor
open Go.RowKit
theorem xbaS {ops:Array Oper} {rest:List Oper} {o:Oper} {a:Act} {w:World} {Q:Exit→Act→World→Prop} {S:List Nat} {w0:World} {L:List Blk} {D:Dat} {F:List Nat} {T:TypeId} {x:Operand} (d:Nat) (hd:o.dst=some d) (hw:Region.wanted o (yielded ops a.tmps)=true) (ho:o.op=.box T x) (h:Sx S w0 w L D F) {C:Array Value} (hx:a.eval x=.agg C)
  (hk:∀(b:Nat) (w':World),Sx S w0 w' ((b,C,T)::L) D F→wpList Tryz.prog ops Q rest (a.put o.dst (.pointer (some ⟨b,0,none⟩))) w'):wpList Tryz.prog ops Q (o::rest) a w:=xba hw ho h hx hk
theorem same0_calls (w:World):Calls Tryz.prog 12 #[.agg (stC 0),.agg (stC 0)] w (Ret (.bool true) w):=by
 have hst:=Sx.startN w;go_enter Tryz.func12,Tryz.ntmps12;go_wp2_with (first|((with_reducible refine xbaS 2 rfl rfl rfl hst rfl ?_);clear hst;intro b2 w' hst)|((with_reducible refine xbaS 3 rfl rfl rfl hst rfl ?_);clear hst;intro b3 w' hst)|(with_reducible refine x1 rfl rfl rfl hst ?_));go_loopw [5] (fun iv wr=>iv=.int .i64 0∧Sx [] w wr [(b3,stC 0,31),(b2,stC 0,31)] NoD []) (fun iv _=>0)
 case atStart=>exact⟨rfl,hst⟩
 case round=>
  clear hst;obtain⟨rfl,hst⟩:=hrel;go_wp2_with (with_reducible refine x1 rfl rfl rfl hst ?_);go_ret;exact⟨rfl,hst.end⟩
section
variable {S:List Nat} {w0 w:World} {L0:List Blk} {D:Dat} {g:Nat} {d:Dv} {q:Dp} {f:FuncId} {args:Array Value} {v:Value} {K:Ending→World→Prop} {C:List Blk→List Blk}
theorem Sx.moreD {L:List Blk} {D2:Dat} {F:List Nat} {w1:World} (h:Sx S w0 w L D F) (hL:∀p∈L,p.1<w1.heap.size) (hd:Holds D2 w) (ha:∀x∈F,∀p,D2 p→p.1≠x) (h2:∀p,D2 p→D p∨w1.heap.size≤p.1):Sx S w0 w L D2 F:=
 ⟨h.st,hd,fun p hp r hr=>by
  rcases h2 p hp with h1 |h1
  ·exact h.apart p h1 r hr
  ·have:=hL r hr;omega,h.flt,h.fL,ha,h.fS⟩
theorem callOw [c:Ctx L0 (devL g d q) C] (hc:∀F,DevW D F w g d→Calls Tryz.prog f args w (Ret v w)) (h:Sx S w0 w L0 D []) (m:DevMem D d q)
  (hk:∀w',Sx S w0 w' L0 D []→K (.returned v) w'):Calls Tryz.prog f args w K:=by
 have h1:Sx S w0 w (devL g d q++C []) D []:=(show Sx S w0 w (C (devL g d q)) D [] from c.eq ▸ h).perm (c.perm _);obtain⟨F',hd,_,_,hs⟩:=h1.closeDev m rfl;exact callB (hc F' hd) h hk
theorem callLay {d':Dv} [c:Ctx L0 (devL g d q) C] (hc:∀F,DevW D F w g d→(∀x∈F,x∈S∨w0.heap.size≤x)→Calls Tryz.prog f args w (DevLay v D F w g d')) (h:Sx S w0 w L0 D []) (m:DevMem D d q)
  (hk:∀w' q' D2,(∀p,D p→D2 p)→Sx S w0 w' (C (devL g d' q')) D2 []→DevMem D2 d' q'→K (.returned v) w'):Calls Tryz.prog f args w K:=by
 have h1:Sx S w0 w (devL g d q++C []) D []:=(show Sx S w0 w (C (devL g d q)) D [] from c.eq ▸ h).perm (c.perm _);obtain⟨F',hd,_,hF,hs⟩:=h1.closeDev m rfl;refine(hc F' hd hF).mono ?_;rintro e w' ⟨rfl,D2,F2,hD1,hD2,hd2,hst2,hF2⟩;have hs2:=(hs.obj0 hst2 hF2 hd2.lt).moreD (w1:=w) (D2:=D2) (fun p hp=>hs.st.lt p hp) hd2.data hd2.apart hD2;obtain⟨q',m',_,hs3⟩:=hs2.openDev hd2;exact hk w' q' D2 hD1 (hs3.perm (c.perm _).symm) m'
end
theorem covB:∀i:Nat,(dStates dB)[i]? =some 1→covR (allR (chainF dB)) i:=fun i hi=>by
 have h1:dStates dB=[1,1,0,0,0,0,0,0]:=by kernel_rfl
 have h2:allR (chainF dB)=[⟨0,1⟩,⟨1,1⟩]:=by kernel_rfl
 rw[h1] at hi;rw[h2]
 match i,hi with
 |0,_=>exact⟨⟨0,1⟩,by simp,by decide,by decide⟩
 |1,_=>exact⟨⟨1,1⟩,by simp,by decide,by decide⟩
 |2,h=>simp at h
 |3,h=>simp at h
 |4,h=>simp at h
 |5,h=>simp at h
 |6,h=>simp at h
 |7,h=>simp at h
 |i+8,h=>simp at h
set_option maxHeartbeats 8000000 in
theorem lives_calls (w:World) (hU:GSums w) (hGB:GBegin w) (hGS:GSha w):Calls Tryz.prog 8 #[] w (Ret (.bool true) w):=by
 have hst:=Sx.startN w;have HNw:=Lib.hid (fun wx=>dnew_calls (D:=NoD) 8 (by decide) (by decide) wx (Holds.none wx));have HG:Hid (∀wx,Below w.heap.size w wx→GSums wx∧GBegin wx∧GSha wx):=Lib.hid (fun wx hb=>⟨hU.below hb,hGB.below hb,hGS.below hb⟩)
 have HNG:Hid (∀F:List Nat,(∀x∈F,x∈([]:List Nat)∨w.heap.size≤x)→NotG F):=Lib.hid (fun F hF=>by
  have h1:1<w.heap.size:=cell_lt (hU.at_ 0 (by decide));have h2:2<w.heap.size:=cell_lt (hGS.at_ 0 (by decide));have h3:=hGB.lt;refine⟨fun h=>?_,fun h=>?_,fun h=>?_⟩
  ·rcases hF _ h with h4 |h4
   ·simp at h4
   ·omega
  ·rcases hF _ h with h4 |h4
   ·simp at h4
   ·omega
  ·rcases hF _ h with h4 |h4
   ·simp at h4
   ·omega)
 go_enter Tryz.func8,Tryz.ntmps8;go_wp2_with fail;refine(HNw.out _).mono ?_;rintro e w2 ⟨g,F,rfl,hd,hb,hF⟩
 have hst:Sx [] w w2 [] NoD F:=by
  have h1:=hst.below hb;exact⟨h1.st,hd.data,h1.apart,hd.lt,fun x _ p hp=>by simp at hp,hd.apart,fun x hx=>Or.inr (Nat.le_trans hst.st.size (hF x hx))⟩
 obtain⟨q,m,_,hst⟩:=hst.openDev hd;have hst:Sx [] w w2 (devL g dA q++[]) NoD []:=hst;rw[List.append_nil] at hst;have m:DevMem NoD dA q:=m;have HM1:Hid (∀F wx,DevW NoD F wx g dA→GSums wx∧GBegin wx∧GSha wx→Calls Tryz.prog 20 #[.pointer (some ⟨g,0,none⟩)] wx (Ret (loadV 0 sl0 4) wx)):=Lib.hid (fun F wx hd hg=>mount_err ⟨_,rfl⟩ (by decide) (fun wy hy=>load_none (hd.below hy) rfl (by kernel_rfl) (hg.1.below hy) (hg.2.1.below hy) (hg.2.2.below hy)))
 have HF1:Hid (∀F wx,DevW NoD F wx g dA→NotG F→GSums wx∧GBegin wx∧GSha wx→Calls Tryz.prog 16 #[.pointer (some ⟨g,0,none⟩)] wx (DevLay (.int .i64 0) NoD F wx g dB)):=Lib.hid (fun F wx hd hf hg=>by
  have:=format_calls hd hf rfl (by kernel_rfl) (by decide) hg.1 hg.2.1 hg.2.2;rw[show(formatF dA).2=0 by kernel_rfl] at this
  exact this)
 have HF2:Hid (∀D F wx,DevW D F wx g dB→GSums wx∧GBegin wx∧GSha wx→Calls Tryz.prog 16 #[.pointer (some ⟨g,0,none⟩)] wx (Ret (.int .i64 160) wx)):=Lib.hid (fun D F wx hd hg=>format_there hd u5.1 (by rw[u1];decide) hg.1 hg.2.1 hg.2.2);have hxn:=u4.1
 have HM2:Hid (∀D F wx,DevW D F wx g dB→GSums wx∧GBegin wx∧GSha wx→Calls Tryz.prog 20 #[.pointer (some ⟨g,0,none⟩)] wx (Ret (loadV 0 xB.s 0) wx)):=Lib.hid (fun D F wx hd hg=>by
  have he:entriesF dB xB.s=([],0):=Prod.ext (List.length_eq_zero_iff.1 u3) u2;have:=mount_one hd u5.1 u1 he covB hg.1 hg.2.1 hg.2.2;rw[u4.2.1] at this
  exact this)
 generalize xB.s=sB at*;have HX:=Lib.hid (decide_eq_true hxn);have HLn:=Lib.hid (fun wx=>load_nil wx);have HFn:=Lib.hid (fun wx=>format_nil wx);have HSm:=Lib.hid (fun wx=>same0_calls wx);clear HNw hd hb hF hxn;go_wp2_with (first|(with_reducible first|(refine xsa rfl rfl rfl rfl hst ?_;clear hst;intro w' hst)|(refine xnw rfl rfl hst ?_;clear hst;intro bn w' hst))|(with_reducible (refine callOw (fun F hd=>HM1.out F _ hd (HG.out _ hst.end)) hst m ?_;clear hst;intro w' hst)));refine callLay (fun F hd hF=>HF1.out F _ hd (HNG.out F hF) (HG.out _ hst.end)) hst m ?_;clear hst m;intro w5 q5 D5 hD5 hst m;go_wp2_with (first|(with_reducible (refine xval rfl 57 rfl (.agg (stC 0)) (fun w=>by kernel_rfl) ?_))|(with_reducible (refine xval rfl 63 rfl (.bool true) (fun w=>Fx.e_eql rfl rfl rfl HX.out w) ?_))|(with_reducible first|refine x1 rfl rfl rfl hst ?_|refine xa rfl rfl rfl hst ?_|(refine xsa rfl rfl rfl rfl hst ?_;clear hst;intro w' hst)|(refine xnw rfl rfl hst ?_;clear hst;intro bn w' hst))|(with_reducible (refine callOw (fun F hd=>HF2.out _ F _ hd (HG.out _ hst.end)) hst m ?_;clear hst;intro w' hst))|(with_reducible (refine callOw (fun F hd=>HM2.out _ F _ hd (HG.out _ hst.end)) hst m ?_;clear hst;intro w' hst))|(with_reducible (refine callB (HLn.out _) hst ?_;clear hst;intro w' hst))|(with_reducible (refine callB (HFn.out _) hst ?_;clear hst;intro w' hst))|(with_reducible (refine callB (HSm.out _) hst ?_;clear hst;intro w' hst)));go_ret;exact⟨rfl,hst.end⟩
end Go.Proofs.YtdkeiefgkgpcbaaGreatDoor
namespace Go.Proofs.YtdkeiefgkgpcbaaGreatDoor
open Go.RowKit
theorem bytesLess_lt:∀(x y:List UInt8),Op.bytesLess x y=decide (x<y)
 | [],[]=>by simp[Op.bytesLess]
 |_::_,[]=>by simp[Op.bytesLess]
 | [],_::_=>by simp[Op.bytesLess]
 |a::x,b::y=>by
  rw[Op.bytesLess,bytesLess_lt x y];simp only[List.cons_lt_cons_iff]
  by_cases h1:a<b<;>by_cases h2:a=b<;>by_cases h3:x<y<;>simp[h1,h2,h3]
def lessS (a b:ByteArray):Bool:=Op.bytesLess a.toList b.toList
theorem lessS_iff {a b:ByteArray}:lessS a b=true↔a.toList<b.toList:=by unfold lessS;rw[bytesLess_lt];simp
theorem lessS_trans {a b c:ByteArray} (h:lessS a b=true) (h2:lessS b c=true):lessS a c=true:=lessS_iff.2 (List.lt_trans (lessS_iff.1 h) (lessS_iff.1 h2))
theorem e_geqs {ρ:Operand→Value} {o:Oper} {x y:Operand} {T U:TypeId} {s u:ByteArray} {b:Bool} (ho:o.op=.binOp .geq T x y U) (hx:ρ x=.string s) (hy:ρ y=.string u) (hb:(!lessS s u)=b) (w:World):(execOp ρ o).run Tryz.prog w=.ok (.value (.bool b)) w:=by
 unfold execOp;rw[ho];have hg:(eqGuard .geq T x y (.string s) (.string u)).run Tryz.prog w=.ok () w:=rfl;simp only[hx,hy,Sem.run_bind,hg,Result.andThen_ok,binOp_string_geq];rw[←hb];rfl
theorem e_leqs {ρ:Operand→Value} {o:Oper} {x y:Operand} {T U:TypeId} {s u:ByteArray} {b:Bool} (ho:o.op=.binOp .leq T x y U) (hx:ρ x=.string s) (hy:ρ y=.string u) (hb:(lessS s u||s.toList==u.toList)=b) (w:World):(execOp ρ o).run Tryz.prog w=.ok (.value (.bool b)) w:=by
 unfold execOp;rw[ho];have hg:(eqGuard .leq T x y (.string s) (.string u)).run Tryz.prog w=.ok () w:=rfl;simp only[hx,hy,Sem.run_bind,hg,Result.andThen_ok,binOp_string_leq];rw[←hb];rfl
theorem e_eqls {ρ:Operand→Value} {o:Oper} {x y:Operand} {T U:TypeId} {s u:ByteArray} {b:Bool} (ho:o.op=.binOp .eql T x y U) (hx:ρ x=.string s) (hy:ρ y=.string u) (hb:(s.toList==u.toList)=b) (w:World):(execOp ρ o).run Tryz.prog w=.ok (.value (.bool b)) w:=by
 unfold execOp;rw[ho];have hg:(eqGuard .eql T x y (.string s) (.string u)).run Tryz.prog w=.ok () w:=rfl;simp only[hx,hy,Sem.run_bind,hg,Result.andThen_ok,binOp_string_eql];rw[←hb];rfl
def risingS:List ByteArray→Bool
 |a::b::l=>lessS a b&&risingS (b::l)
 |_=>true
theorem risingS_iff {l:List ByteArray}:risingS l=true↔∀i (h:i+1<l.length),lessS l[i] l[i+1]=true:=by
 induction l with
 |nil=>simp[risingS]
 |cons a l ih=>
  cases l with
  |nil=>simp[risingS]
  |cons b l=>
   simp only[risingS,Bool.and_eq_true];rw[ih];constructor
   ·rintro⟨h1,h2⟩ i hi
    cases i with
    |zero=>exact h1
    |succ i=>exact h2 i (by simpa using hi)
   ·intro h
    exact⟨h 0 (by simp),fun i hi=>h (i+1) (by simpa using hi)⟩
theorem risingS_lt {l:List ByteArray} (h:risingS l=true) {i j:Nat} (hij:i<j) (hj:j<l.length):lessS (l[i]'(by omega)) l[j]=true:=by
 obtain⟨d,rfl⟩:∃d,j=i+1+d:=⟨j-(i+1),by omega⟩
 induction d with
 |zero=>exact risingS_iff.1 h i hj
 |succ d ih=>exact lessS_trans (ih (by omega) (by omega)) (risingS_iff.1 h (i+1+d) hj)
instance sltNl:SlT 301 9:=⟨Tryz.underlying301⟩
set_option maxHeartbeats 1000000 in
theorem ordered_calls {D:Dat} {p:Option Addr} {c:Nat} {l:List ByteArray} (hr:RowAt D 9 1 strL p c l) (w:World) (hD:Holds D w):Calls Tryz.prog 189 #[.slice p l.length c] w (Ret (.bool (risingS l)) w):=by
 have hst:=Sx.start0 w hD;have hcap:=hr.cap;have hbg:=hr.big;go_enter Tryz.func189,Tryz.ntmps189;go_wp2_with fail;go_loopw [3] (fun iv wr=>∃k:Nat,1≤k∧iv=.int .i64 k∧Hid (∀i (h:i+1<l.length),i+1<k→lessS l[i] l[i+1]=true)∧Sx [] w wr [] D []) (fun iv _=>l.length-(intOf iv).toNat)
 case atStart=>exact⟨1,Nat.le_refl _,rfl,Lib.hid (fun i h h2=>by omega),hst⟩
 case round=>
  clear hst;obtain⟨k,hk,rfl,HK,hst⟩:=hrel
  by_cases hlt:k<l.length
  ·obtain⟨g,off,rfl⟩:=hr.at_some hlt
   have hk1:k-1<l.length:=by omega
   have e1:LdD D 9 ⟨g,off+k*1,none⟩ (.string l[k]):=hr.ldf hlt 0 rfl rfl;have e2:LdD D 9 ⟨g,off+(k-1)*1,none⟩ (.string l[k-1]):=hr.ldf hk1 0 rfl rfl
   have HT:lessS l[k-1] l[k]=false→Hid (risingS l=false):=fun h1=>Lib.hid (by
    cases h:risingS l with
    |false=>rfl
    |true=>
     have:=risingS_iff.1 h (k-1) (by omega);simp only[show k-1+1=k by omega] at this;rw[h1] at this
     cases this)
   have HN:lessS l[k-1] l[k]=true→Hid (∀i (h:i+1<l.length),i+1<k+1→lessS l[i] l[i+1]=true):=fun h1=>Lib.hid (fun i h h2=>by
    by_cases h3:i=k-1
    ·subst h3
     simp only[show k-1+1=k by omega];exact h1
    ·exact HK.out i h (by omega))
   have hsub:((k:Int)-1)=((k-1:Nat):Int):=by omega
   generalize l[k]=y at*;generalize l[k-1]=x at*;obtain⟨b,hb⟩:∃b,(!lessS x y)=b:=⟨_,rfl⟩;have HT2:b=true→Hid (risingS l=false):=fun h=>HT (by rw[h] at hb;simpa using hb)
   have HN2:b=false→Hid (∀i (h:i+1<l.length),i+1<k+1→lessS l[i] l[i+1]=true):=fun h=>HN (by rw[h] at hb;simpa using hb)
   have HB:=Lib.hid hb;clear hb HT HN;have HSub:=Lib.hid hsub;clear hsub;go_wp2_with fail;refine Fx.go (fun _=>false) (fun i=> !(i==4||i==8)) (fun _=>false) (List.range 10) rfl hst (by kernel_rfl) (by kernel_rfl) (by kernel_rfl) (by kernel_rfl) (by kernel_rfl) ?_;refine Fx.val rfl rfl rfl rfl (v:=.slice (some ⟨g,off,none⟩) l.length c) (Fx.e_mv rfl rfl) ?_;refine Fx.val rfl rfl rfl rfl (v:=.int .i64 k) (Fx.e_mv rfl rfl) ?_;refine Fx.val rfl rfl rfl rfl (v:=.int .i64 ((k-1:Nat):Int)) (fun w=>by rw[←HSub.out];exact Fx.e_sub rfl rfl rfl (by omega) w) ?_;refine Fx.ix rfl rfl rfl rfl rfl rfl rfl (by omega) ?_;refine Fx.lD rfl rfl rfl rfl rfl rfl ?_;refine Fx.val rfl rfl rfl rfl (v:=.slice (some ⟨g,off,none⟩) l.length c) (Fx.e_mv rfl rfl) ?_;refine Fx.val rfl rfl rfl rfl (v:=.int .i64 k) (Fx.e_mv rfl rfl) ?_;refine Fx.ix rfl rfl rfl rfl rfl rfl rfl (by omega) ?_;refine Fx.lD rfl rfl rfl rfl rfl rfl ?_;refine Fx.val rfl rfl rfl rfl (v:=.bool b) (e_geqs rfl rfl rfl HB.out) ?_;clear HB;clear hst;intro w' hst;generalize hact:Fx.mkO _ _=act;have hv0:act.tmps.getD 0 undef=.slice (some ⟨g,off,none⟩) l.length c:=by rw[←hact];kernel_rfl
   have hv1:act.tmps.getD 1 undef=undef:=by rw[←hact];kernel_rfl
   have hv2:act.tmps.getD 2 undef=u2:=by rw[←hact];kernel_rfl
   have hv3:act.tmps.getD 3 undef=.int .i64 k:=by rw[←hact];kernel_rfl
   have hv19:act.tmps.getD 19 undef=.bool b:=by rw[←hact];kernel_rfl
   obtain⟨fZ,hfZ,hact2⟩:=act_lit act 20 (by rw[←hact];kernel_rfl) (by rw[←hact];kernel_rfl);clear hact;have he0:fZ 0=.slice (some ⟨g,off,none⟩) l.length c:=(hfZ 0).symm.trans hv0;have he1:fZ 1=undef:=(hfZ 1).symm.trans hv1;have he2:fZ 2=u2:=(hfZ 2).symm.trans hv2;have he3:fZ 3=.int .i64 k:=(hfZ 3).symm.trans hv3;have he19:fZ 19=.bool b:=(hfZ 19).symm.trans hv19;simp only[show List.range 20=[0,1,2,3,4,5,6,7,8,9,10,11,12,13,14,15,16,17,18,19] from rfl,List.map_cons,List.map_nil,he0,he1,he2,he3,he19] at hact2;clear hfZ hv0 he0 hv1 he1 hv2 he2 hv3 he3 hv19 he19;subst hact2
   cases b with
   |true=>
    have HR:=HT2 rfl;clear HT2 HN2;go_wp2_with fail;go_ret;exact⟨by rw[HR.out];rfl,hst.end⟩
   |false=>
    have HR:=HN2 rfl;clear HT2 HN2;go_wp2_with fail;go_roundw
    case rel=>exact⟨k+1,by omega,by go_num,HR,hst⟩
    case measure=>simp[intOf];omega
  ·have hr2:risingS l=true:=risingS_iff.2 (fun i h=>HK.out i h (by omega))
   have hlt2:=Lib.hid (decide_eq_false (show ¬(k:Int)<(l.length:Int) by omega));go_wp2_with (first|(with_reducible (refine xval rfl 7 rfl (.bool false) (fun w=>Fx.e_lss rfl rfl rfl hlt2.out w) ?_))|fail);go_ret;exact⟨by rw[hr2];rfl,hst.end⟩
end Go.Proofs.YtdkeiefgkgpcbaaGreatDoor
namespace Go.Proofs.YtdkeiefgkgpcbaaGreatDoor
open Go.RowKit
def skC (v:Value) (s:ByteArray):Array Value:=#[v,.string s]
instance sk0 (v:Value) (s:ByteArray):CellAt (skC v s) 0 v:=⟨rfl⟩
instance sk1 (v:Value) (s:ByteArray):CellAt (skC v s) 1 (.string s):=⟨rfl⟩
instance fldSk0:Fx.FldT 304 0 0:=⟨fun ad w=>by kernel_rfl⟩
instance fldSk1:Fx.FldT 304 1 1:=⟨fun ad w=>by kernel_rfl⟩
instance oneNl:OneT 301:=⟨fun w=>by kernel_rfl,by kernel_rfl⟩
theorem behind_calls {D:Dat} {p:Option Addr} {c:Nat} {l:List ByteArray} (hr:RowAt D 9 1 strL p c l) (s:ByteArray) {i:Nat} (hi:i<l.length) (w:World) (hD:Holds D w):
  Calls Tryz.prog 191 #[.agg (skC (.slice p l.length c) s),.int .i64 i] w (Ret (.bool (!lessS l[i] s)) w):=by
 have hst:=Sx.start0 w hD;obtain⟨g,off,rfl⟩:=hr.at_some hi;have e1:LdD D 9 ⟨g,off+i*1,none⟩ (.string l[i]):=hr.ldf hi 0 rfl rfl;obtain⟨b,hb⟩:∃b,(!lessS l[i] s)=b:=⟨_,rfl⟩;rw[hb];generalize l[i]=y at*;go_enter Tryz.func191,Tryz.ntmps191;go_wp2_with (with_reducible (refine xba rfl rfl hst rfl ?_;clear hst;intro bb w' hst));refine Fx.go (fun _=>false) (fun i=> !(i==1||i==4||i==6)) (fun _=>false) (List.range 9) rfl hst (by kernel_rfl) (by kernel_rfl) (by kernel_rfl) (by kernel_rfl) (by kernel_rfl) ?_;refine Fx.fa rfl rfl rfl rfl rfl rfl ?_;refine Fx.l1 rfl rfl rfl rfl rfl rfl ?_;refine Fx.val rfl rfl rfl rfl (v:=.int .i64 i) (Fx.e_mv rfl rfl) ?_;refine Fx.ix rfl rfl rfl rfl rfl rfl rfl hi ?_;refine Fx.lD rfl rfl rfl rfl rfl rfl ?_;refine Fx.fa rfl rfl rfl rfl rfl rfl ?_;refine Fx.l1 rfl rfl rfl rfl rfl rfl ?_;refine Fx.val rfl rfl rfl rfl (v:=.bool b) (e_geqs rfl rfl rfl hb) ?_;refine Fx.val rfl rfl rfl rfl (v:=.bool b) (Fx.e_as rfl rfl) ?_;clear hst;intro w' hst;generalize hact:Fx.mkO _ _=act;have hv4:act.tmps.getD 4 undef=.bool b:=by rw[←hact];kernel_rfl
 obtain⟨fZ,hfZ,hact2⟩:=act_lit act 13 (by rw[←hact];kernel_rfl) (by rw[←hact];kernel_rfl);clear hact;have he4:fZ 4=.bool b:=(hfZ 4).symm.trans hv4;simp only[show List.range 13=[0,1,2,3,4,5,6,7,8,9,10,11,12] from rfl,List.map_cons,List.map_nil,he4] at hact2;clear hfZ hv4 he4;subst hact2;go_wp2_with fail;go_ret;exact⟨rfl,hst.end⟩
section
variable {ops:Array Oper} {rest:List Oper} {o:Oper} {a:Act} {w:World} {Q:Exit→Act→World→Prop} {S:List Nat} {w0:World} {L:List Blk} {D:Dat} {F:List Nat}
theorem xcm (hw:Region.wanted o (yielded ops a.tmps)=true) {x y:Operand} {ty:Array TypeId} (ho:o.op=.call {callee:=.value x,args:=#[y],argTypes:=ty}) {f:FuncId} {m:Value} (hx:a.eval x=.func (.func f) #[m] #[]) {u:Value} (hy:a.eval y=u) (hen:∀args w,(callFunc f args).run Tryz.prog w=.ok (.enter f args) w)
  {v:Value} (hc:Calls Tryz.prog f #[m,u] w (Ret v w)) (h:Sx S w0 w L D F) (hk:∀w',Sx S w0 w' L D F→wpList Tryz.prog ops Q rest (a.put o.dst v) w'):wpList Tryz.prog ops Q (o::rest) a w:=
 BigFrame.wpList_want hw fun K hK=>by
  unfold Oper.wp execOp;simp only[ho,resolve,hx,hy,Deferred.ofValue,Sem.run_bind,Sem.run_pure,Result.andThen_ok,List.map_toArray,List.map_cons,List.map_nil,invoke];have:(#[m]:Array Value)++#[u]=#[m,u]:=rfl;have h2:(#[m,u]:Array Value)++#[]=#[m,u]:=rfl;simp only[this,hen,h2];exact hc.mono fun e w' ⟨he,hb⟩=>by subst he;exact hK _ _ (hk w' (h.below hb))
end
theorem e_conv {ρ:Operand→Value} {o:Oper} {x:Operand} {v u:Value} {T U:TypeId} (ho:o.op=.convert T U x) (hx:ρ x=u) (hr:∀w,(convert T U u).run Tryz.prog w=.ok v w) (w:World):(execOp ρ o).run Tryz.prog w=.ok (.value v) w:=by
 unfold execOp;rw[ho];simp only[hx,Sem.run_bind,hr w,Result.andThen_ok];rfl
theorem conv_iu (n:Nat) (h:n<9223372036854775808) (w:World):(convert 3 230 (.int .i64 n)).run Tryz.prog w=.ok (.int .u64 n) w:=by
 rw[run_convert_int w 3 230 .i64 n (by rw[Tryz.underlying3];rfl) Tryz.underlying230,show Tryz.prog.intKind 230=.u64 by kernel_rfl,show IntKind.u64.wrap (n:Int)=n by simp[IntKind.wrap,IntKind.bits,IntKind.signed];omega]
theorem conv_ui (n:Nat) (h:n<9223372036854775808) (w:World):(convert 230 3 (.int .u64 n)).run Tryz.prog w=.ok (.int .i64 n) w:=by
 rw[run_convert_int w 230 3 .u64 n (by rw[Tryz.underlying230];rfl) Tryz.underlying3,show Tryz.prog.intKind 3=.i64 by kernel_rfl,wrap_i64 (by omega) (by omega)]
theorem e_half {ρ:Operand→Value} {o:Oper} {x y:Operand} {T U:TypeId} {n:Nat} (ho:o.op=.binOp .shr T x y U) (hx:ρ x=.int .u64 n) (hy:ρ y=.int .u64 1) (w:World):(execOp ρ o).run Tryz.prog w=.ok (.value (.int .u64 ((n / 2:Nat):Int))) w:=
 Fx.e_bin ho hx hy (fun w=>by
  rw[binOp_shr,show Op.shift .shr .u64 (n:Int) .u64 1=pure (.int .u64 ((n:Int) / 2 ^ (1:Int).toNat)) from shift_shr_u64 _ _ _ (by decide) (by decide)]
  rfl) w
def srchF (p:Nat→Bool) (n:Nat):Nat:=(List.range n).countP fun i=> !p i
theorem srchF_eq {p:Nat→Bool} {n i:Nat} (hi:i≤n) (h0:∀k,k<i→p k=false) (h1:∀k,i≤k→k<n→p k=true):srchF p n=i:=by
 unfold srchF;obtain⟨d,rfl⟩:∃d,n=i+d:=⟨n-i,by omega⟩;rw[List.range_add,List.countP_append]
 have e1:(List.range i).countP (fun i=> !p i)=i:=by
  rw[List.countP_eq_length.2 (fun k hk=>by rw[h0 k (by simpa using hk)];rfl),List.length_range]
 have e2:((List.range d).map (i+ ·)).countP (fun i=> !p i)=0:=List.countP_eq_zero.2 (fun k hk=>by
  obtain⟨j,hj,rfl⟩:=List.mem_map.1 hk;rw[h1 (i+j) (by omega) (by have:=List.mem_range.1 hj;omega)]
  simp)
 rw[e1,e2,Nat.add_zero]
set_option maxHeartbeats 2000000 in
theorem search_calls (n:Nat) (hn:n≤1000000000) (p:Nat→Bool) (f:FuncId) (m:Value) (w:World) (hmono:∀a b,a≤b→b<n→p a=true→p b=true) (hen:∀args w,(callFunc f args).run Tryz.prog w=.ok (.enter f args) w)
  (hP:∀i,i<n→∀w',Below w.heap.size w w'→Calls Tryz.prog f #[m,.int .i64 i] w' (Ret (.bool (p i)) w')):Calls Tryz.prog 190 #[.int .i64 n,.func (.func f) #[m] #[]] w (Ret (.int .i64 (srchF p n:Nat)) w):=by
 have hst:=Sx.startN w;have HP:=Lib.hid hP;have HMo:=Lib.hid hmono;clear hP hmono;go_enter Tryz.func190,Tryz.ntmps190;go_wp2_with fail;go_loopw [5,6] (fun iv jv wr=>∃i j:Nat,i≤j∧j≤n∧iv=.int .i64 i∧jv=.int .i64 j∧Hid (∀k,k<i→p k=false)∧Hid (∀k,j≤k→k<n→p k=true)∧Sx [] w wr [] NoD []) (fun iv jv _=>(intOf jv).toNat-(intOf iv).toNat)
 case atStart=>exact⟨0,n,Nat.zero_le _,Nat.le_refl _,rfl,by go_num,Lib.hid (fun k h=>by omega),Lib.hid (fun k h h2=>by omega),hst⟩
 case round=>
  clear hst;obtain⟨i,j,hij,hjn,rfl,rfl,HI,HJ,hst⟩:=hrel
  by_cases hlt:i<j
  ·obtain⟨h,hh⟩:∃h:Nat,(i+j) / 2=h:=⟨_,rfl⟩
   have hi1:i≤h:=by omega
   have hj1:h<j:=by omega
   have HC:=Lib.hid (HP.out h (by omega) wr hst.end);have HT:p h=true→Hid (∀k,h≤k→k<n→p k=true):=fun hp=>Lib.hid (fun k h1 h2=>HMo.out h k h1 h2 hp)
   have HF:p h=false→Hid (∀k,k<h+1→p k=false):=fun hp=>Lib.hid (fun k h1=>by
    cases hk:p k with
    |false=>rfl
    |true=>have:=HMo.out k h (by omega) (by omega) hk;rw[hp] at this;cases this)
   have Hadd:=Lib.hid (show((i:Int)+(j:Int))=((i+j:Nat):Int) by omega);have Hh:=Lib.hid hh;generalize p h=b at*;clear hh;have hsmall:i+j<9223372036854775808:=by omega
   have hsmall2:h<9223372036854775808:=by omega
   cases b with
   |true=>
    have HT2:=HT rfl;clear HT HF;go_wp2_with (first|(with_reducible (refine xval rfl 14 rfl (.int .i64 ((i+j:Nat):Int)) (fun w=>by rw[←Hadd.out];exact Fx.e_add rfl rfl rfl (by omega) w) ?_))|(with_reducible (refine xval rfl 15 rfl (.int .u64 ((i+j:Nat):Int)) (fun w=>e_conv rfl rfl (conv_iu _ hsmall) w) ?_))|(with_reducible (refine xval rfl 16 rfl (.int .u64 (h:Int)) (fun w=>by rw[←Hh.out];exact e_half rfl rfl rfl w) ?_))|(with_reducible (refine xval rfl 17 rfl (.int .i64 (h:Int)) (fun w=>e_conv rfl rfl (conv_ui _ hsmall2) w) ?_))|(with_reducible (refine xcm rfl rfl rfl rfl hen HC.out hst ?_;clear hst;intro w' hst))|fail);go_roundw
    case rel=>exact⟨i,h,hi1,by omega,rfl,by go_num,HI,HT2,hst⟩
    case measure=>simp[intOf];omega
   |false=>
    have HF2:=HF rfl;clear HT HF;go_wp2_with (first|(with_reducible (refine xval rfl 14 rfl (.int .i64 ((i+j:Nat):Int)) (fun w=>by rw[←Hadd.out];exact Fx.e_add rfl rfl rfl (by omega) w) ?_))|(with_reducible (refine xval rfl 15 rfl (.int .u64 ((i+j:Nat):Int)) (fun w=>e_conv rfl rfl (conv_iu _ hsmall) w) ?_))|(with_reducible (refine xval rfl 16 rfl (.int .u64 (h:Int)) (fun w=>by rw[←Hh.out];exact e_half rfl rfl rfl w) ?_))|(with_reducible (refine xval rfl 17 rfl (.int .i64 (h:Int)) (fun w=>e_conv rfl rfl (conv_ui _ hsmall2) w) ?_))|(with_reducible (refine xcm rfl rfl rfl rfl hen HC.out hst ?_;clear hst;intro w' hst))|fail);go_roundw
    case rel=>exact⟨h+1,j,by omega,hjn,by go_num,rfl,HF2,HJ,hst⟩
    case measure=>simp[intOf];omega
  ·obtain rfl:i=j:=by omega
   have hR:srchF p n=i:=srchF_eq hjn HI.out HJ.out;have hlt2:=Lib.hid (decide_eq_false (show ¬(i:Int)<(i:Int) by omega));go_wp2_with (first|(with_reducible (refine xval rfl 11 rfl (.bool false) (fun w=>Fx.e_lss rfl rfl rfl hlt2.out w) ?_))|fail);go_ret;exact⟨by rw[hR];rfl,hst.end⟩
end Go.Proofs.YtdkeiefgkgpcbaaGreatDoor
namespace Go.Proofs.YtdkeiefgkgpcbaaGreatDoor
open Go.RowKit
theorem e_rem {ρ:Operand→Value} {o:Oper} {x y:Operand} {T U:TypeId} (ho:o.op=.binOp .rem T x y U) {k:IntKind} {m n:Nat} (hx:ρ x=.int k m) (hy:ρ y=.int k n) (hn:0<n) (w:World):(execOp ρ o).run Tryz.prog w=.ok (.value (.int k ((m%n:Nat):Int))) w:=
 Fx.e_bin ho hx hy (fun w=>by
  rw[show binOp .rem T (.int k (m:Int)) (.int k (n:Int))=Op.intDiv .rem k m n by simp[binOp]];unfold Op.intDiv;rw[if_neg (by omega),show((m:Int).tmod n)=((m%n:Nat):Int) by rw[Int.tmod_eq_emod_of_nonneg (by omega)];push_cast;rfl]
  rfl) w
theorem conv_u8i (c:UInt8) (w:World):(convert 5 3 (.int .u8 (c.toNat:Int))).run Tryz.prog w=.ok (.int .i64 (c.toNat:Int)) w:=by
 have:=c.toNat_lt;rw[run_convert_int w 5 3 .u8 c.toNat (by rw[Tryz.underlying5];rfl) Tryz.underlying3,show Tryz.prog.intKind 3=.i64 by kernel_rfl,wrap_i64 (by omega) (by omega)]
end Go.Proofs.YtdkeiefgkgpcbaaGreatDoor
