/- Steps of the proof: SealEnc, SealDec, SealOf. -/
import Derived.Test.YtdkeiefgkgpcbaaGreatDoorP16
set_option linter.unusedVariables false
set_option linter.unusedSimpArgs false
set_option maxRecDepth 100000
namespace Go.Proofs.YtdkeiefgkgpcbaaGreatDoor
open Go.RowKit
def slTxt (s:Sl):ByteArray:=putF s.n 4++mkS (h32 s.prev)++mkS (h32 s.content)++putF s.len 4++putF s.start 4++putF s.count 4++putF s.clock 4
def slEnc (s:Sl):ByteArray×Int:=if slOk s then(slTxt s,0) else(⟨#[]⟩,2)
theorem slTxt_size (s:Sl):(slTxt s).size≤104:=by
 have h:=fun n=>putF_size n 4
 have h1:=h s.n;have h2:=h s.len;have h3:=h s.start;have h4:=h s.count;have h5:=h s.clock;unfold slTxt;simp only[ByteArray.size_append,size_mkS,h32_length];omega
theorem put_h32 (h:List UInt8) (w:World):Calls Tryz.prog 139 #[.agg (hashL h).toArray] w (Ret (.string (mkS (h32 h))) w):=by
 have:=put_hash_callsL (h32 h) (h32_length h) w;rw[←hashL_32] at this;exact this
set_option maxHeartbeats 4000000 in
theorem sencode_calls (s:Sl) (hs:s.start≤4611686018427387904) (w:World):Calls Tryz.prog 106 #[.agg (slC s)] w (Ret (.tuple #[.string (slEnc s).1,.int .i64 (slEnc s).2]) w):=by
 have hst:=Sx.startN w;have HC:=Lib.hid (fun w=>scheck_calls s hs w)
 cases hok:slOk s
 case false=>
  have HE:Hid (slEnc s=(⟨#[]⟩,2)):=Lib.hid (by unfold slEnc;rw[hok];rfl);rw[hok] at HC;go_enter Tryz.func106,Tryz.ntmps106;go_wp2_with (first|(with_reducible first|refine xa rfl rfl rfl hst ?_|(refine xba rfl rfl hst rfl ?_;clear hst;intro bb w' hst))|(with_reducible (refine callB (HC.out _) hst ?_;clear hst;intro w' hst)));go_ret2;exact⟨by rw[HE.out];rfl,hst.end⟩
 case true=>
  have h0:=(slOk_iff s).1 hok;have HE:Hid (slEnc s=(slTxt s,0)):=Lib.hid (by unfold slEnc;rw[hok];rfl);rw[hok] at HC;unfold SlOk at h0;have P1:=Lib.hid (fun w=>put_any s.n 4 (by omega) w);have P2:=Lib.hid (fun w=>put_h32 s.prev w);have P3:=Lib.hid (fun w=>put_h32 s.content w);have P4:=Lib.hid (fun w=>put_any s.len 4 (by omega) w);have P5:=Lib.hid (fun w=>put_any s.start 4 (by omega) w);have P6:=Lib.hid (fun w=>put_any s.count 4 (by omega) w);have P7:=Lib.hid (fun w=>put_any s.clock 4 (by omega) w);have HZ:=Lib.hid (show slTxt s=putF s.n 4++mkS (h32 s.prev)++mkS (h32 s.content)++putF s.len 4++putF s.start 4++putF s.count 4++putF s.clock 4 from rfl);have z1:=putF_size s.n 4;have z2:(mkS (h32 s.prev)).size≤32:=by rw[size_mkS,h32_length];decide
  have z3:(mkS (h32 s.content)).size≤32:=by rw[size_mkS,h32_length];decide
  have z4:=putF_size s.len 4;have z5:=putF_size s.start 4;have z6:=putF_size s.count 4;have z7:=putF_size s.clock 4;generalize putF s.n 4=a1 at*;generalize mkS (h32 s.prev)=a2 at*;generalize mkS (h32 s.content)=a3 at*;generalize putF s.len 4=a4 at*;generalize putF s.start 4=a5 at*;generalize putF s.count 4=a6 at*;generalize putF s.clock 4=a7 at*;clear h0 hok;go_enter Tryz.func106,Tryz.ntmps106;go_wp2_with (first|(with_reducible first|refine xa rfl rfl rfl hst ?_|(refine xba rfl rfl hst rfl ?_;clear hst;intro bb w' hst))|(with_reducible (refine callB (HC.out _) hst ?_;clear hst;intro w' hst)));refine Fx.go (fun _=>false) (fun i=> !(i==1||i==4||i==8||i==12||i==17||i==22||i==26)) (fun _=>false) (List.range 31) rfl hst (by kernel_rfl) (by kernel_rfl) (by kernel_rfl) (by kernel_rfl) (by kernel_rfl) ?_;show Fx.wpLX _ _ _ [0,1,2,3,4,5,6,7,8,9,10,11,12,13,14,15,16,17,18,19,20,21,22,23,24,25,26,27,28,29,30] _ _
  repeat(first|refine Fx.fa rfl rfl rfl rfl rfl rfl ?_|refine Fx.l1 rfl rfl rfl rfl rfl rfl ?_)
  refine Fx.call rfl rfl (fun w=>P1.out w) rfl rfl (fun w=>by kernel_rfl) ?_
  repeat(first|refine Fx.fa rfl rfl rfl rfl rfl rfl ?_|refine Fx.lA rfl rfl rfl rfl rfl rfl ?_)
  refine Fx.call rfl rfl (fun w=>P2.out w) rfl rfl (fun w=>by kernel_rfl) ?_;refine Fx.val rfl rfl rfl rfl (v:=.string (a1++a2)) (e_cat rfl rfl rfl (by omega)) ?_
  repeat(first|refine Fx.fa rfl rfl rfl rfl rfl rfl ?_|refine Fx.lA rfl rfl rfl rfl rfl rfl ?_)
  refine Fx.call rfl rfl (fun w=>P3.out w) rfl rfl (fun w=>by kernel_rfl) ?_;refine Fx.val rfl rfl rfl rfl (v:=.string (a1++a2++a3)) (e_cat rfl rfl rfl (by simp only[ByteArray.size_append];omega)) ?_
  repeat(first|refine Fx.fa rfl rfl rfl rfl rfl rfl ?_|refine Fx.l1 rfl rfl rfl rfl rfl rfl ?_)
  refine Fx.call rfl rfl (fun w=>P4.out w) rfl rfl (fun w=>by kernel_rfl) ?_;refine Fx.val rfl rfl rfl rfl (v:=.string (a1++a2++a3++a4)) (e_cat rfl rfl rfl (by simp only[ByteArray.size_append];omega)) ?_
  repeat(first|refine Fx.fa rfl rfl rfl rfl rfl rfl ?_|refine Fx.l1 rfl rfl rfl rfl rfl rfl ?_)
  refine Fx.call rfl rfl (fun w=>P5.out w) rfl rfl (fun w=>by kernel_rfl) ?_;refine Fx.val rfl rfl rfl rfl (v:=.string (a1++a2++a3++a4++a5)) (e_cat rfl rfl rfl (by simp only[ByteArray.size_append];omega)) ?_
  repeat(first|refine Fx.fa rfl rfl rfl rfl rfl rfl ?_|refine Fx.l1 rfl rfl rfl rfl rfl rfl ?_)
  refine Fx.call rfl rfl (fun w=>P6.out w) rfl rfl (fun w=>by kernel_rfl) ?_;refine Fx.val rfl rfl rfl rfl (v:=.string (a1++a2++a3++a4++a5++a6)) (e_cat rfl rfl rfl (by simp only[ByteArray.size_append];omega)) ?_
  repeat(first|refine Fx.fa rfl rfl rfl rfl rfl rfl ?_|refine Fx.l1 rfl rfl rfl rfl rfl rfl ?_)
  refine Fx.call rfl rfl (fun w=>P7.out w) rfl rfl (fun w=>by kernel_rfl) ?_;refine Fx.val rfl rfl rfl rfl (v:=.string (a1++a2++a3++a4++a5++a6++a7)) (e_cat rfl rfl rfl (by simp only[ByteArray.size_append];omega)) ?_
  repeat(refine Fx.val rfl rfl rfl rfl (Fx.e_as rfl rfl) ?_)
  clear hst;intro w' hst;generalize hact:Fx.mkO _ _=act;have hv:act.tmps.getD 2 undef=.string (a1++a2++a3++a4++a5++a6++a7):=by rw[←hact];kernel_rfl
  have hv2:act.tmps.getD 3 undef=.int .i64 0:=by rw[←hact];kernel_rfl
  have hd:act.defers=[]:=by rw[←hact];kernel_rfl
  clear hact;go_wp2_with fail;refine bodyPost_ret (results_tmp2 rfl _ _ _) hd ?_;rw[hv,hv2];exact⟨by rw[HE.out,HZ.out],hst.end⟩
def slHash (s:Sl):List UInt8:=if slOk s then shaF (ls (slTxt s)) else[]
set_option maxHeartbeats 1000000 in
theorem shash_calls (s:Sl) (hs:s.start≤4611686018427387904) (w:World) (hB:GBegin w) (hG:GSha w):Calls Tryz.prog 59 #[.agg (slC s)] w (Ret (.agg (hashL (slHash s)).toArray) w):=by
 have hst:=Sx.startN w;have HC:=Lib.hid (fun w=>sencode_calls s hs w)
 cases hok:slOk s
 case false=>
  have HE:Hid (slHash s=[]):=Lib.hid (by unfold slHash;rw[hok];rfl);rw[show slEnc s=(⟨#[]⟩,2) by unfold slEnc;rw[hok];rfl] at HC;go_enter Tryz.func59,Tryz.ntmps59;go_wp2_with (first|(with_reducible (refine xval rfl 12 rfl (.agg (hashL []).toArray) (fun w=>by kernel_rfl) ?_))|(with_reducible first|refine xa rfl rfl rfl hst ?_|(refine xsa rfl rfl rfl rfl hst ?_;clear hst;intro w' hst)|(refine xba rfl rfl hst rfl ?_;clear hst;intro bb w' hst)|(refine xnw rfl rfl hst ?_;clear hst;intro bn w' hst))|(with_reducible (refine callB (HC.out _) hst ?_;clear hst;intro w' hst)));refine bodyPost_ret (results1 rfl (res_agg rfl hst.st.has)) rfl ⟨by rw[HE.out],hst.end⟩
 case true=>
  have HE:Hid (slHash s=shaF (ls (slTxt s))):=Lib.hid (by unfold slHash;rw[hok];rfl);rw[show slEnc s=(slTxt s,0) by unfold slEnc;rw[hok];rfl] at HC;have hz:=slTxt_size s;have HS:=Lib.hid (fun wx (h1:GBegin wx) (h2:GSha wx)=>sha_calls (slTxt s) (by omega) wx h1 h2);generalize slTxt s=t at*;generalize shaF (ls t)=r at*;go_enter Tryz.func59,Tryz.ntmps59;go_wp2_with (first|(with_reducible first|refine xa rfl rfl rfl hst ?_|(refine xsa rfl rfl rfl rfl hst ?_;clear hst;intro w' hst)|(refine xba rfl rfl hst rfl ?_;clear hst;intro bb w' hst)|(refine xnw rfl rfl hst ?_;clear hst;intro bn w' hst))|(with_reducible (refine callB (HC.out _) hst ?_;clear hst;intro w' hst))|(with_reducible (refine callB (HS.out _ (hB.below hst.end) (hG.below hst.end)) hst ?_;clear hst;intro w' hst)));refine bodyPost_ret (results1 rfl (res_agg rfl hst.st.has)) rfl ⟨by rw[HE.out],hst.end⟩
def slBlk (s:Sl):List UInt8×Int:=if slOk s then frEnc ⟨83,s.n,0,slTxt s⟩ else([],2)
set_option maxHeartbeats 1000000 in
theorem sblock_calls (s:Sl) (hs:s.start≤4611686018427387904) (w:World) (hG:GSums w):Calls Tryz.prog 63 #[.agg (slC s)] w (Ret (.tuple #[.string (mkS (slBlk s).1),.int .i64 (slBlk s).2]) w):=by
 have hst:=Sx.startN w;have HC:=Lib.hid (fun w=>sencode_calls s hs w)
 cases hok:slOk s
 case false=>
  have HE:Hid (slBlk s=([],2)):=Lib.hid (by unfold slBlk;rw[hok];rfl);rw[show slEnc s=(⟨#[]⟩,2) by unfold slEnc;rw[hok];rfl] at HC;go_enter Tryz.func63,Tryz.ntmps63;go_wp2_with (first|(with_reducible first|refine xa rfl rfl rfl hst ?_|(refine xba rfl rfl hst rfl ?_;clear hst;intro bb w' hst))|(with_reducible (refine callB (HC.out _) hst ?_;clear hst;intro w' hst)));go_ret2;exact⟨by rw[HE.out];rfl,hst.end⟩
 case true=>
  have h0:=(slOk_iff s).1 hok;unfold SlOk at h0;have HE:Hid (slBlk s=frEnc ⟨83,s.n,0,slTxt s⟩):=Lib.hid (by unfold slBlk;rw[hok];rfl);rw[show slEnc s=(slTxt s,0) by unfold slEnc;rw[hok];rfl] at HC;have HF:=Lib.hid (fun wx (h:GSums wx)=>frEnc_calls ⟨83,s.n,0,slTxt s⟩ (by show(0:Int)≤83∧(83:Int)<256;decide) (by show s.n≤_;omega) (by show(0:Int)≤_;decide) wx h);generalize frEnc ⟨83,s.n,0,slTxt s⟩=r at*;generalize slTxt s=t at*;clear h0;go_enter Tryz.func63,Tryz.ntmps63;go_wp2_with (first|(with_reducible (refine xval rfl 17 rfl (.agg (frC ⟨83,s.n,0,t⟩)) (fun w=>by kernel_rfl) ?_))|(with_reducible first|refine x1 rfl rfl rfl hst ?_|refine xa rfl rfl rfl hst ?_|(refine xba rfl rfl hst rfl ?_;clear hst;intro bb w' hst))|(with_reducible (refine callB (HC.out _) hst ?_;clear hst;intro w' hst))|(with_reducible (refine callE (HF.out _ (hG.below hst.end)) hst ?_;clear hst;intro w' hst)));go_ret2;exact⟨by rw[HE.out];rfl,hst.end⟩
end Go.Proofs.YtdkeiefgkgpcbaaGreatDoor
namespace Go.Proofs.YtdkeiefgkgpcbaaGreatDoor
open Go.RowKit
instance aggSReader:AggT 285 3:=⟨fun w=>by kernel_rfl,by kernel_rfl⟩
instance fldR0:Fx.FldT 285 0 0:=⟨fun ad w=>by kernel_rfl⟩
instance fldR1:Fx.FldT 285 1 1:=⟨fun ad w=>by kernel_rfl⟩
instance fldR2:Fx.FldT 285 2 2:=⟨fun ad w=>by kernel_rfl⟩
section
variable {S:List Nat} {w0 w:World} {g:Nat} {s:ByteArray} {a:Int} {bad:Bool} {L:List Blk} {D:Dat} {F:List Nat}
def SNumPost (S:List Nat) (w0:World) (g:Nat) (s:ByteArray) (a:Int) (bad:Bool) (L:List Blk) (D:Dat) (F:List Nat) (e:Ending) (w':World):Prop:=
 ∃(n a':Int) (ok:Bool),e=.returned (.int .i64 n)∧Hid (numN s a 4=n∧numA s a 4=a'∧numOk s a 4=ok)∧Sx S w0 w' ((g,readC s a' (bad|| !ok),285)::L) D F
set_option maxHeartbeats 1000000 in
theorem snum_calls (hst:Sx S w0 w ((g,readC s a bad,285)::L) D F) (hs:s.size≤maxLen):
  Calls Tryz.prog 176 #[.pointer (some ⟨g,0,none⟩)] w (SNumPost S w0 g s a bad L D F):=by
 have C1:=Lib.hid (fun w=>(get_calls3 s a 4 hs w).mono fun e w' ⟨h,hw⟩=>(show Ret _ w e w' from⟨h,hw ▸ Below.refl _ _⟩));obtain⟨n,a',ok,hn⟩:∃n a' ok,numN s a 4=n∧numA s a 4=a'∧numOk s a 4=ok:=⟨_,_,_,rfl,rfl,rfl⟩;rw[hn.1,hn.2.1,hn.2.2] at C1;have HN:=Lib.hid hn;clear hn;go_enter Tryz.func176,Tryz.ntmps176;go_wp2_with fail;refine Fx.go (fun _=>false) (fun i=> !(i==3||i==7)) (fun _=>false) (List.range 16) rfl hst (by kernel_rfl) (by kernel_rfl) (by kernel_rfl) (by kernel_rfl) (by kernel_rfl) ?_;show Fx.wpLX _ _ _ [0,1,2,3,4,5,6,7,8,9,10,11,12,13,14,15] _ _
 repeat(first|refine Fx.val rfl rfl rfl rfl (Fx.e_mv rfl rfl) ?_|refine Fx.val rfl rfl rfl rfl (Fx.e_nil rfl rfl) ?_|refine Fx.fa rfl rfl rfl rfl rfl rfl ?_|refine Fx.l1 rfl rfl rfl rfl rfl rfl ?_)
 refine Fx.call rfl rfl (fun w=>C1.out w) rfl rfl (fun w=>by kernel_rfl) ?_;refine Fx.val rfl rfl rfl rfl (v:=.tuple #[.int .i64 n,.int .i64 a',.bool ok]) (Fx.e_mv rfl rfl) ?_;refine Fx.val rfl rfl rfl rfl (v:=.int .i64 n) (fun w=>by kernel_rfl) ?_;refine Fx.val rfl rfl rfl rfl (v:=.int .i64 a') (fun w=>by kernel_rfl) ?_;refine Fx.val rfl rfl rfl rfl (v:=.bool ok) (fun w=>by kernel_rfl) ?_
 repeat(refine Fx.val rfl rfl rfl rfl (Fx.e_as rfl rfl) ?_)
 clear hst;intro w' hst;simp only[Fx.nxt_some,Fx.nxt_none,Fx.mkO_cons,Fx.mkO_nil,Fx.evO_eq]
 cases bad
 ·cases ok
  ·go_wp2_with (with_reducible first|refine x1 rfl rfl rfl hst ?_|(refine xsi rfl rfl rfl rfl hst ?_;clear hst;intro w' hst)|(refine xsb rfl rfl rfl rfl hst ?_;clear hst;intro w' hst))
   go_ret;exact⟨n,a',_,rfl,HN,hst⟩
  ·go_wp2_with (with_reducible first|refine x1 rfl rfl rfl hst ?_|(refine xsi rfl rfl rfl rfl hst ?_;clear hst;intro w' hst)|(refine xsb rfl rfl rfl rfl hst ?_;clear hst;intro w' hst))
   go_ret;exact⟨n,a',_,rfl,HN,hst⟩
 ·go_wp2_with (with_reducible first|refine x1 rfl rfl rfl hst ?_|(refine xsi rfl rfl rfl rfl hst ?_;clear hst;intro w' hst)|(refine xsb rfl rfl rfl rfl hst ?_;clear hst;intro w' hst))
  go_ret;exact⟨n,a',_,rfl,HN,hst⟩
def SHashPost (S:List Nat) (w0:World) (g:Nat) (s:ByteArray) (a:Int) (bad:Bool) (L:List Blk) (D:Dat) (F:List Nat) (e:Ending) (w':World):Prop:=
 ∃(h:List UInt8) (a':Int) (ok:Bool),e=.returned (.agg (hashL h).toArray)∧Hid (hashN s a=h∧hashA s a=a'∧thereB s a 32=ok)∧Sx S w0 w' ((g,readC s a' (bad|| !ok),285)::L) D F
set_option maxHeartbeats 1000000 in
theorem srhash_calls (hst:Sx S w0 w ((g,readC s a bad,285)::L) D F) (hs:s.size≤maxLen):
  Calls Tryz.prog 177 #[.pointer (some ⟨g,0,none⟩)] w (SHashPost S w0 g s a bad L D F):=by
 have C1:=Lib.hid (fun w=>(show Calls _ _ _ _ (Ret _ w) from get_hash_calls3 s a hs w));obtain⟨h,a',ok,hn⟩:∃n a' ok,hashN s a=n∧hashA s a=a'∧thereB s a 32=ok:=⟨_,_,_,rfl,rfl,rfl⟩;rw[hn.1,hn.2.1,hn.2.2] at C1;have HN:=Lib.hid hn;clear hn;go_enter Tryz.func177,Tryz.ntmps177;go_wp2_with (with_reducible (refine xnw rfl rfl hst ?_;clear hst;intro bn w' hst));refine Fx.go (fun i=>i==13||i==14) (fun i=> !(i==3||i==7)) (fun i=>i==14) (List.range 17) rfl hst (by kernel_rfl) (by kernel_rfl) (by kernel_rfl) (by kernel_rfl) (by kernel_rfl) ?_;show Fx.wpLX _ _ _ [0,1,2,3,4,5,6,7,8,9,10,11,12,13,14,15,16] _ _
 repeat(first|refine Fx.val rfl rfl rfl rfl (Fx.e_mv rfl rfl) ?_|refine Fx.val rfl rfl rfl rfl (Fx.e_nil rfl rfl) ?_|refine Fx.fa rfl rfl rfl rfl rfl rfl ?_|refine Fx.l1 rfl rfl rfl rfl rfl rfl ?_)
 refine Fx.call rfl rfl (fun w=>C1.out w) rfl rfl (fun w=>by kernel_rfl) ?_;refine Fx.val rfl rfl rfl rfl (v:=.tuple #[.agg (hashL h).toArray,.int .i64 a',.bool ok]) (Fx.e_mv rfl rfl) ?_;refine Fx.val rfl rfl rfl rfl (v:=.agg (hashL h).toArray) (fun w=>by kernel_rfl) ?_;refine Fx.val rfl rfl rfl rfl (v:=.int .i64 a') (fun w=>by kernel_rfl) ?_;refine Fx.val rfl rfl rfl rfl (v:=.bool ok) (fun w=>by kernel_rfl) ?_;refine Fx.nw rfl rfl rfl (fun b=>Or.inr (fun w h=>h.drop)) ?_;intro b
 repeat(first|refine Fx.val rfl rfl rfl rfl (Fx.e_as rfl rfl) ?_|refine Fx.stA rfl rfl rfl rfl rfl (Or.inl rfl) ?_)
 clear hst;intro w' hst;simp only[Fx.nxt_some,Fx.nxt_none,Fx.mkO_cons,Fx.mkO_nil,Fx.evO_eq]
 cases bad
 ·cases ok
  ·go_wp2_with (with_reducible first|refine x1 rfl rfl rfl hst ?_|refine xa rfl rfl rfl hst ?_|(refine xsi rfl rfl rfl rfl hst ?_;clear hst;intro w' hst)|(refine xsb rfl rfl rfl rfl hst ?_;clear hst;intro w' hst)|(refine xsa rfl rfl rfl rfl hst ?_;clear hst;intro w' hst))
   refine bodyPost_ret (results1 rfl (res_agg rfl hst.st.has)) rfl ⟨h,a',_,rfl,HN,hst.drop.drop⟩
  ·go_wp2_with (with_reducible first|refine x1 rfl rfl rfl hst ?_|refine xa rfl rfl rfl hst ?_|(refine xsi rfl rfl rfl rfl hst ?_;clear hst;intro w' hst)|(refine xsb rfl rfl rfl rfl hst ?_;clear hst;intro w' hst)|(refine xsa rfl rfl rfl rfl hst ?_;clear hst;intro w' hst))
   refine bodyPost_ret (results1 rfl (res_agg rfl hst.st.has)) rfl ⟨h,a',_,rfl,HN,hst.drop.drop⟩
 ·go_wp2_with (with_reducible first|refine x1 rfl rfl rfl hst ?_|refine xa rfl rfl rfl hst ?_|(refine xsi rfl rfl rfl rfl hst ?_;clear hst;intro w' hst)|(refine xsb rfl rfl rfl rfl hst ?_;clear hst;intro w' hst)|(refine xsa rfl rfl rfl rfl hst ?_;clear hst;intro w' hst))
  refine bodyPost_ret (results1 rfl (res_agg rfl hst.st.has)) rfl ⟨h,a',_,rfl,HN,hst.drop.drop⟩
end
structure SlRd where
 v:Sl
 at_:Int
 bad:Bool
def slRead (s:ByteArray):SlRd:=
 let a1:=numA s 0 4
 let a2:=hashA s a1
 let a3:=hashA s a2
 let a4:=numA s a3 4
 let a5:=numA s a4 4
 let a6:=numA s a5 4
 ⟨⟨numN s 0 4,hashN s a1,hashN s a2,numN s a3 4,numN s a4 4,numN s a5 4,numN s a6 4⟩,numA s a6 4,(((((((false|| !numOk s 0 4)|| !thereB s a1 32)|| !thereB s a2 32)|| !numOk s a3 4)|| !numOk s a4 4)|| !numOk s a5 4)|| !numOk s a6 4)⟩
def slDec (s:ByteArray):Sl×Int:=if(slRead s).bad||(decide ((slRead s).at_≠s.size)|| !slOk (slRead s).v) then(sl0,10) else((slRead s).v,0)
theorem numN_lt (s:ByteArray) (a:Int):numN s a 4<4294967296:=by
 unfold numN getF;split
 ·rename_i n x h
  split at h
  ·split at h
   ·injection h with h
    injection h with h1 h2
    subst h1;rename_i hb _;have h3:=bv_lt (sub s a 4);have h4:(sub s a 4).length≤4:=by unfold sub;exact(List.length_take_le ..)
    have h5:256 ^ (sub s a 4).length≤256 ^ 4:=Nat.pow_le_pow_right (by decide) h4;omega
   ·cases h
  ·cases h
 ·decide
theorem slRead_start (s:ByteArray):(slRead s).v.start≤4611686018427387904:=by
 have:=numN_lt s (numA s (hashA s (hashA s (numA s 0 4))) 4);show numN s _ 4≤_;omega
set_option maxHeartbeats 4000000 in
theorem sdecode_calls (s:ByteArray) (hs:s.size≤maxLen) (w:World):Calls Tryz.prog 149 #[.string s] w (Ret (.tuple #[.agg (slC (slDec s).1),.int .i64 (slDec s).2]) w):=by
 have hst:=Sx.startN w;go_enter Tryz.func149,Tryz.ntmps149;go_wp2_with (with_reducible first|(refine xba rfl rfl hst rfl ?_;clear hst;intro bb w' hst)|(refine xnw rfl rfl hst ?_;clear hst;intro bn w' hst));have hst:Sx [] w w' [(bb,readC s 0 false,285),(bn,slC sl0,41)] NoD []:=hst;refine(snum_calls hst hs).mono ?_;clear hst;rintro e w1 ⟨n,a1,ok1,rfl,H1,hst⟩;go_wp2_with fail;refine(srhash_calls hst hs).mono ?_;clear hst;rintro e w2 ⟨h1,a2,ok2,rfl,H2,hst⟩;go_wp2_with fail;refine(srhash_calls hst hs).mono ?_;clear hst;rintro e w3 ⟨h2,a3,ok3,rfl,H3,hst⟩;go_wp2_with fail;refine(snum_calls hst hs).mono ?_;clear hst;rintro e w4 ⟨ln,a4,ok4,rfl,H4,hst⟩;go_wp2_with fail;refine(snum_calls hst hs).mono ?_;clear hst;rintro e w5 ⟨st,a5,ok5,rfl,H5,hst⟩;go_wp2_with fail;refine(snum_calls hst hs).mono ?_;clear hst;rintro e w6 ⟨ct,a6,ok6,rfl,H6,hst⟩;go_wp2_with fail;refine(snum_calls hst hs).mono ?_;clear hst;rintro e w7 ⟨ck,a7,ok7,rfl,H7,hst⟩
 have HR:slRead s=⟨⟨n,h1,h2,ln,st,ct,ck⟩,a7,(((((((false|| !ok1)|| !ok2)|| !ok3)|| !ok4)|| !ok5)|| !ok6)|| !ok7)⟩:=by
  obtain⟨rfl,rfl,rfl⟩:=H1.out;obtain⟨rfl,rfl,rfl⟩:=H2.out;obtain⟨rfl,rfl,rfl⟩:=H3.out;obtain⟨rfl,rfl,rfl⟩:=H4.out;obtain⟨rfl,rfl,rfl⟩:=H5.out;obtain⟨rfl,rfl,rfl⟩:=H6.out;obtain⟨rfl,rfl,rfl⟩:=H7.out;rfl
 clear H1 H2 H3 H4 H5 H6 H7;have hss:=slRead_start s;rw[HR] at hss;generalize (((((((false|| !ok1)|| !ok2)|| !ok3)|| !ok4)|| !ok5)|| !ok6)|| !ok7)=bad at*;clear ok1 ok2 ok3 ok4 ok5 ok6 ok7;obtain⟨x,hx⟩:∃x,slOk ⟨n,h1,h2,ln,st,ct,ck⟩=x:=⟨_,rfl⟩;have HK:=Lib.hid (fun w=>scheck_calls ⟨n,h1,h2,ln,st,ct,ck⟩ hss w);rw[hx] at HK;obtain⟨d,hd⟩:∃d,decide (a7≠(s.size:Int))=d:=⟨_,rfl⟩;have HE:Hid (slDec s=if bad||(d|| !x) then(sl0,10) else(⟨n,h1,h2,ln,st,ct,ck⟩,0)):=Lib.hid (by unfold slDec;rw[HR,hx];simp only;rw[hd]);clear HR hx hss;have HF:∀ {u:Sl×Int},slDec s=u→Ending.returned (.tuple #[.agg (slC u.1),.int .i64 u.2])=.returned (.tuple #[.agg (slC (slDec s).1),.int .i64 (slDec s).2]):=fun h=>by rw[h]
 cases bad
 ·cases d
  ·cases x
   ·go_wp2_with (first|(with_reducible (refine xval rfl 24 rfl (.agg (slC ⟨n,h1,h2,ln,st,ct,ck⟩)) (fun w=>by kernel_rfl) ?_))|(with_reducible (refine xval rfl 36 rfl (.bool false) (fun w=>Fx.e_neq rfl rfl rfl hd w) ?_))|(with_reducible (refine xval rfl 43 rfl (.agg (slC sl0)) (fun w=>by kernel_rfl) ?_))|(with_reducible first|refine x1 rfl rfl rfl hst ?_|refine xa rfl rfl rfl hst ?_|(refine xsa rfl rfl rfl rfl hst ?_;clear hst;intro w' hst)|(refine xnw rfl rfl hst ?_;clear hst;intro bn w' hst))|(with_reducible (refine callB (HK.out _) hst ?_;clear hst;intro w' hst)))
    refine bodyPost_ret (results2 rfl (res_agg rfl hst.st.has) res_tmp) rfl ⟨HF HE.out,hst.end⟩
   ·go_wp2_with (first|(with_reducible (refine xval rfl 24 rfl (.agg (slC ⟨n,h1,h2,ln,st,ct,ck⟩)) (fun w=>by kernel_rfl) ?_))|(with_reducible (refine xval rfl 36 rfl (.bool false) (fun w=>Fx.e_neq rfl rfl rfl hd w) ?_))|(with_reducible (refine xval rfl 43 rfl (.agg (slC sl0)) (fun w=>by kernel_rfl) ?_))|(with_reducible first|refine x1 rfl rfl rfl hst ?_|refine xa rfl rfl rfl hst ?_|(refine xsa rfl rfl rfl rfl hst ?_;clear hst;intro w' hst)|(refine xnw rfl rfl hst ?_;clear hst;intro bn w' hst))|(with_reducible (refine callB (HK.out _) hst ?_;clear hst;intro w' hst)))
    refine bodyPost_ret (results2 rfl (res_agg rfl hst.st.has) res_tmp) rfl ⟨HF HE.out,hst.end⟩
  ·go_wp2_with (first|(with_reducible (refine xval rfl 24 rfl (.agg (slC ⟨n,h1,h2,ln,st,ct,ck⟩)) (fun w=>by kernel_rfl) ?_))|(with_reducible (refine xval rfl 36 rfl (.bool true) (fun w=>Fx.e_neq rfl rfl rfl hd w) ?_))|(with_reducible (refine xval rfl 43 rfl (.agg (slC sl0)) (fun w=>by kernel_rfl) ?_))|(with_reducible first|refine x1 rfl rfl rfl hst ?_|(refine xsa rfl rfl rfl rfl hst ?_;clear hst;intro w' hst)|(refine xnw rfl rfl hst ?_;clear hst;intro bn w' hst)))
   refine bodyPost_ret (results2 rfl (res_agg rfl hst.st.has) res_tmp) rfl ⟨HF HE.out,hst.end⟩
 ·go_wp2_with (first|(with_reducible (refine xval rfl 24 rfl (.agg (slC ⟨n,h1,h2,ln,st,ct,ck⟩)) (fun w=>by kernel_rfl) ?_))|(with_reducible (refine xval rfl 43 rfl (.agg (slC sl0)) (fun w=>by kernel_rfl) ?_))|(with_reducible first|refine x1 rfl rfl rfl hst ?_|(refine xsa rfl rfl rfl rfl hst ?_;clear hst;intro w' hst)|(refine xnw rfl rfl hst ?_;clear hst;intro bn w' hst)))
  refine bodyPost_ret (results2 rfl (res_agg rfl hst.st.has) res_tmp) rfl ⟨HF HE.out,hst.end⟩
end Go.Proofs.YtdkeiefgkgpcbaaGreatDoor
namespace Go.Proofs.YtdkeiefgkgpcbaaGreatDoor
open Go.RowKit
theorem Fx.e_eqh {ρ:Operand→Value} {o:Oper} {x y:Operand} {U:TypeId} {g h:List UInt8} {b:Bool} (ho:o.op=.binOp .eql 39 x y U) (hx:ρ x=.agg (hashL g).toArray) (hy:ρ y=.agg (hashL h).toArray) (hb:(h32 g==h32 h)=b) (w:World):(execOp ρ o).run Tryz.prog w=.ok (.value (.bool b)) w:=by
 rw[hashL_32,←arr_hashL _ (h32_length g)] at hx;rw[hashL_32,←arr_hashL _ (h32_length h)] at hy;unfold execOp;rw[ho];simp only[hx,hy,Sem.run_bind,guard_hash,Result.andThen_ok,eql_hash _ _ (h32_length g) (h32_length h),hb];rfl
theorem Fx.e_neqh {ρ:Operand→Value} {o:Oper} {x y:Operand} {U:TypeId} {g h:List UInt8} {b:Bool} (ho:o.op=.binOp .neq 39 x y U) (hx:ρ x=.agg (hashL g).toArray) (hy:ρ y=.agg (hashL h).toArray) (hb:(h32 g !=h32 h)=b) (w:World):(execOp ρ o).run Tryz.prog w=.ok (.value (.bool b)) w:=by
 rw[hashL_32,←arr_hashL _ (h32_length g)] at hx;rw[hashL_32,←arr_hashL _ (h32_length h)] at hy;unfold execOp;rw[ho];simp only[hx,hy,Sem.run_bind,guard_hash,Result.andThen_ok,neq_hash _ _ (h32_length g) (h32_length h),hb];rfl
theorem frDecF_data (t:List UInt8):(frDecF t).1.data.size≤255:=by
 unfold frDecF;split
 ·unfold decT
  split
  ·decide
  ·split
   ·rw[frOf,size_mkS]
    have:=((bareF t).1.getD 7 0).toNat_lt;exact Nat.le_trans (List.length_take_le ..) (by omega)
   ·decide
 ·decide
def slOf (s:ByteArray):Sl×Int:=
 if(frDecF (ls s)).2≠0 then(sl0,(frDecF (ls s)).2) else
  if decide ((slDec (frDecF (ls s)).1.data).2≠0)||(decide ((frDecF (ls s)).1.kind≠83)||(decide ((frDecF (ls s)).1.epoch≠(slDec (frDecF (ls s)).1.data).1.n)||decide ((frDecF (ls s)).1.index≠0))) then(sl0,10) else((slDec (frDecF (ls s)).1.data).1,0)
set_option maxHeartbeats 4000000 in
theorem sof_calls (s:ByteArray) (hs:s.size≤1000000) (w:World) (hG:GSums w):Calls Tryz.prog 118 #[.string s] w (Ret (.tuple #[.agg (slC (slOf s).1),.int .i64 (slOf s).2]) w):=by
 have hst:=Sx.startN w;have HF:=Lib.hid (fun wx (h:GSums wx)=>frDec_calls s wx hs h);have hz:=frDecF_data (ls s);have HU:=Lib.hid (show slOf s=if(frDecF (ls s)).2≠0 then(sl0,(frDecF (ls s)).2) else if decide ((slDec (frDecF (ls s)).1.data).2≠0)||(decide ((frDecF (ls s)).1.kind≠83)||(decide ((frDecF (ls s)).1.epoch≠(slDec (frDecF (ls s)).1.data).1.n)||decide ((frDecF (ls s)).1.index≠0))) then(sl0,10) else((slDec (frDecF (ls s)).1.data).1,0) from rfl);generalize frDecF (ls s)=p at*;generalize slOf s=res at*;obtain⟨⟨k,ep,ix,da⟩,er⟩:=p;simp only at HF HU hz;have HD:=Lib.hid (fun wx=>sdecode_calls da (by unfold maxLen;omega) wx);generalize slDec da=q at*;obtain⟨t,e2⟩:=q;simp only at HU HD;obtain⟨d0,h0⟩:∃d,decide (e2≠0)=d:=⟨_,rfl⟩;obtain⟨d1,h1⟩:∃d,decide (k≠83)=d:=⟨_,rfl⟩;obtain⟨d2,h2⟩:∃d,decide (ep≠t.n)=d:=⟨_,rfl⟩;obtain⟨d3,h3⟩:∃d,decide (ix≠0)=d:=⟨_,rfl⟩;rw[h0,h1,h2,h3] at HU;have HR:∀ {u:Sl×Int},res=u→Ending.returned (.tuple #[.agg (slC u.1),.int .i64 u.2])=.returned (.tuple #[.agg (slC res.1),.int .i64 res.2]):=fun h=>by rw[h]
 by_cases her:er≠0
 ·rw[if_pos her] at HU
  go_enter Tryz.func118,Tryz.ntmps118;go_wp2_with (first|(with_reducible first|(refine xsa rfl rfl rfl rfl hst ?_;clear hst;intro w' hst)|(refine xnw rfl rfl hst ?_;clear hst;intro bn w' hst))|(with_reducible (refine xval rfl 14 rfl (.agg (slC sl0)) (fun w=>by kernel_rfl) ?_))|(with_reducible (refine callE (HF.out _ (hG.below hst.end)) hst ?_;clear hst;intro w' hst))|(with_reducible (refine callB (HD.out _) hst ?_;clear hst;intro w' hst)));refine bodyPost_ret (results2 rfl (res_agg rfl hst.st.has) res_tmp) rfl ⟨HR HU.out,hst.end⟩
 ·rw[if_neg her] at HU
  cases d0
  ·cases d1
   ·cases d2
    ·cases d3
     ·go_enter Tryz.func118,Tryz.ntmps118
      go_wp2_with (first|(with_reducible first|refine x1 rfl rfl rfl hst ?_|refine xa rfl rfl rfl hst ?_|(refine xsa rfl rfl rfl rfl hst ?_;clear hst;intro w' hst)|(refine xnw rfl rfl hst ?_;clear hst;intro bn w' hst))|(with_reducible (refine xval rfl 14 rfl (.agg (slC sl0)) (fun w=>by kernel_rfl) ?_))|(with_reducible (refine callE (HF.out _ (hG.below hst.end)) hst ?_;clear hst;intro w' hst))|(with_reducible (refine callB (HD.out _) hst ?_;clear hst;intro w' hst))|(with_reducible (refine xval rfl 41 rfl (.agg (slC sl0)) (fun w=>by kernel_rfl) ?_))|(with_reducible (refine xval rfl 23 rfl (.bool false) (fun w=>Fx.e_neq rfl rfl rfl h0 w) ?_))|(with_reducible (refine xval rfl 27 rfl (.bool false) (fun w=>Fx.e_neq rfl rfl rfl h1 w) ?_))|(with_reducible (refine xval rfl 34 rfl (.bool false) (fun w=>Fx.e_neq rfl rfl rfl h2 w) ?_))|(with_reducible (refine xval rfl 39 rfl (.bool false) (fun w=>Fx.e_neq rfl rfl rfl h3 w) ?_)));refine bodyPost_ret (results2 rfl (res_agg rfl hst.st.has) res_tmp) rfl ⟨HR HU.out,hst.end⟩
     ·go_enter Tryz.func118,Tryz.ntmps118
      go_wp2_with (first|(with_reducible first|refine x1 rfl rfl rfl hst ?_|(refine xsa rfl rfl rfl rfl hst ?_;clear hst;intro w' hst)|(refine xnw rfl rfl hst ?_;clear hst;intro bn w' hst))|(with_reducible (refine xval rfl 14 rfl (.agg (slC sl0)) (fun w=>by kernel_rfl) ?_))|(with_reducible (refine callE (HF.out _ (hG.below hst.end)) hst ?_;clear hst;intro w' hst))|(with_reducible (refine callB (HD.out _) hst ?_;clear hst;intro w' hst))|(with_reducible (refine xval rfl 41 rfl (.agg (slC sl0)) (fun w=>by kernel_rfl) ?_))|(with_reducible (refine xval rfl 23 rfl (.bool false) (fun w=>Fx.e_neq rfl rfl rfl h0 w) ?_))|(with_reducible (refine xval rfl 27 rfl (.bool false) (fun w=>Fx.e_neq rfl rfl rfl h1 w) ?_))|(with_reducible (refine xval rfl 34 rfl (.bool false) (fun w=>Fx.e_neq rfl rfl rfl h2 w) ?_))|(with_reducible (refine xval rfl 39 rfl (.bool true) (fun w=>Fx.e_neq rfl rfl rfl h3 w) ?_)));refine bodyPost_ret (results2 rfl (res_agg rfl hst.st.has) res_tmp) rfl ⟨HR HU.out,hst.end⟩
    ·go_enter Tryz.func118,Tryz.ntmps118
     go_wp2_with (first|(with_reducible first|refine x1 rfl rfl rfl hst ?_|(refine xsa rfl rfl rfl rfl hst ?_;clear hst;intro w' hst)|(refine xnw rfl rfl hst ?_;clear hst;intro bn w' hst))|(with_reducible (refine xval rfl 14 rfl (.agg (slC sl0)) (fun w=>by kernel_rfl) ?_))|(with_reducible (refine callE (HF.out _ (hG.below hst.end)) hst ?_;clear hst;intro w' hst))|(with_reducible (refine callB (HD.out _) hst ?_;clear hst;intro w' hst))|(with_reducible (refine xval rfl 41 rfl (.agg (slC sl0)) (fun w=>by kernel_rfl) ?_))|(with_reducible (refine xval rfl 23 rfl (.bool false) (fun w=>Fx.e_neq rfl rfl rfl h0 w) ?_))|(with_reducible (refine xval rfl 27 rfl (.bool false) (fun w=>Fx.e_neq rfl rfl rfl h1 w) ?_))|(with_reducible (refine xval rfl 34 rfl (.bool true) (fun w=>Fx.e_neq rfl rfl rfl h2 w) ?_)));refine bodyPost_ret (results2 rfl (res_agg rfl hst.st.has) res_tmp) rfl ⟨HR HU.out,hst.end⟩
   ·go_enter Tryz.func118,Tryz.ntmps118
    go_wp2_with (first|(with_reducible first|refine x1 rfl rfl rfl hst ?_|(refine xsa rfl rfl rfl rfl hst ?_;clear hst;intro w' hst)|(refine xnw rfl rfl hst ?_;clear hst;intro bn w' hst))|(with_reducible (refine xval rfl 14 rfl (.agg (slC sl0)) (fun w=>by kernel_rfl) ?_))|(with_reducible (refine callE (HF.out _ (hG.below hst.end)) hst ?_;clear hst;intro w' hst))|(with_reducible (refine callB (HD.out _) hst ?_;clear hst;intro w' hst))|(with_reducible (refine xval rfl 41 rfl (.agg (slC sl0)) (fun w=>by kernel_rfl) ?_))|(with_reducible (refine xval rfl 23 rfl (.bool false) (fun w=>Fx.e_neq rfl rfl rfl h0 w) ?_))|(with_reducible (refine xval rfl 27 rfl (.bool true) (fun w=>Fx.e_neq rfl rfl rfl h1 w) ?_)));refine bodyPost_ret (results2 rfl (res_agg rfl hst.st.has) res_tmp) rfl ⟨HR HU.out,hst.end⟩
  ·go_enter Tryz.func118,Tryz.ntmps118
   go_wp2_with (first|(with_reducible first|refine x1 rfl rfl rfl hst ?_|(refine xsa rfl rfl rfl rfl hst ?_;clear hst;intro w' hst)|(refine xnw rfl rfl hst ?_;clear hst;intro bn w' hst))|(with_reducible (refine xval rfl 14 rfl (.agg (slC sl0)) (fun w=>by kernel_rfl) ?_))|(with_reducible (refine callE (HF.out _ (hG.below hst.end)) hst ?_;clear hst;intro w' hst))|(with_reducible (refine callB (HD.out _) hst ?_;clear hst;intro w' hst))|(with_reducible (refine xval rfl 41 rfl (.agg (slC sl0)) (fun w=>by kernel_rfl) ?_))|(with_reducible (refine xval rfl 23 rfl (.bool true) (fun w=>Fx.e_neq rfl rfl rfl h0 w) ?_)));refine bodyPost_ret (results2 rfl (res_agg rfl hst.st.has) res_tmp) rfl ⟨HR HU.out,hst.end⟩
def slFol (s:Sl):Option Sl→Bool
 |none=>decide (s.n=1)&&(h32 s.prev==h32 [])
 |some t=>decide (t.n<s.n)&&(decide (s.n-1=t.n)&&((h32 s.prev==h32 (slHash t))&&decide (t.clock≤s.clock)))
set_option maxHeartbeats 1000000 in
theorem sfollows_nil (s:Sl) (w:World):Calls Tryz.prog 61 #[.agg (slC s),.pointer none] w (Ret (.bool (slFol s none)) w):=by
 have hst:=Sx.startN w;obtain⟨d0,h0⟩:∃d,decide (s.n=1)=d:=⟨_,rfl⟩;obtain⟨d1,h1⟩:∃d,(h32 s.prev==h32 [])=d:=⟨_,rfl⟩;have HU:slFol s none=(d0&&d1):=by unfold slFol;rw[h0,h1]
 rw[HU];clear HU;go_enter Tryz.func61,Tryz.ntmps61
 cases d0
 ·go_wp2_with (first|(with_reducible (refine xval rfl 9 rfl (.bool false) (fun w=>Fx.e_eql rfl rfl rfl h0 w) ?_))|(with_reducible first|refine x1 rfl rfl rfl hst ?_|(refine xba rfl rfl hst rfl ?_;clear hst;intro bb w' hst)))
  go_ret;exact⟨rfl,hst.end⟩
 ·go_wp2_with (first|(with_reducible (refine xval rfl 9 rfl (.bool true) (fun w=>Fx.e_eql rfl rfl rfl h0 w) ?_))|(with_reducible (refine xval rfl 13 rfl (.agg (hashL []).toArray) (fun w=>by kernel_rfl) ?_))|(with_reducible (refine xval rfl 14 rfl (.bool d1) (fun w=>Fx.e_eqh rfl rfl rfl h1 w) ?_))|(with_reducible first|refine x1 rfl rfl rfl hst ?_|refine xa rfl rfl rfl hst ?_|(refine xba rfl rfl hst rfl ?_;clear hst;intro bb w' hst)))
  go_ret;exact⟨rfl,hst.end⟩
theorem GBegin.of_sx {S:List Nat} {w0 w:World} {L:List Blk} {D:Dat} {F:List Nat} (h:GBegin w0) (hs:Sx S w0 w L D F) (hS:0∉S):GBegin w:=
 ⟨fun i v hi=>by
  have h1:=h.at_ i v hi;have h2:=cell_lt h1
  exact(World.cell?_of_block (a:=⟨0,i,none⟩) (hs.st.kept _ h2 hS)).trans h1⟩
section
structure SealAt (D:Dat) (g off:Nat) (t:Sl):Prop where
 num:LdD D 3 ⟨g,off,none⟩ (.int .i64 t.n)
 clk:LdD D 3 ⟨g,off+68,none⟩ (.int .i64 t.clock)
 all:LdD D 41 ⟨g,off,none⟩ (.agg (slC t))
theorem SealAt.of {D:Dat} {g off:Nat} {t:Sl} {C:Array Value} {Tb:TypeId} (hD:D (g,C,Tb)) (hc:∀j v,(slL t)[j]? =some v→C[off+j]? =some v):SealAt D g off t:=
 ⟨LdD.one hD (by have:=hc 0 _ rfl;simpa using this),LdD.one hD (hc 68 _ rfl),LdD.agg hD ⟨rfl,hc⟩⟩
set_option maxHeartbeats 4000000 in
theorem sfollows_calls (s t:Sl) {g off:Nat} (w:World) (ha:SealAt (snap w) g off t) (hs: -4611686018427387904≤s.n∧s.n≤4611686018427387904) (ht:t.start≤4611686018427387904) (hB:GBegin w) (hG:GSha w):
  Calls Tryz.prog 61 #[.agg (slC s),.pointer (some ⟨g,off,none⟩)] w (Ret (.bool (slFol s (some t))) w):=by
 have hst:=Sx.start0 w (snap_holds w);obtain⟨i1,i2,i3⟩:=ha;have HH:=Lib.hid (fun wx (h1:GBegin wx) (h2:GSha wx)=>shash_calls t ht wx h1 h2);go_enter Tryz.func61,Tryz.ntmps61;go_wp2_with (with_reducible (refine xba rfl rfl hst rfl ?_;clear hst;intro bb w' hst))
 have hcs:(¬t.n<s.n)∨(t.n<s.n∧¬s.n-1=t.n)∨(t.n<s.n∧s.n-1=t.n∧¬(h32 s.prev==h32 (slHash t))=true)∨(t.n<s.n∧s.n-1=t.n∧(h32 s.prev==h32 (slHash t))=true∧¬t.clock≤s.clock)∨(t.n<s.n∧s.n-1=t.n∧(h32 s.prev==h32 (slHash t))=true∧t.clock≤s.clock):=by
  by_cases a:t.n<s.n<;>by_cases b:s.n-1=t.n<;>by_cases c:(h32 s.prev==h32 (slHash t))=true<;>by_cases d:t.clock≤s.clock<;>simp[a,b,c,d]
 refine Fx.go (fun _=>false) (fun i=> !(i==1||i==5||i==9||i==14||i==19||i==22||i==23||i==28||i==32)) (fun _=>false) (List.range 36) rfl hst (by kernel_rfl) (by kernel_rfl) (by kernel_rfl) (by kernel_rfl) (by kernel_rfl) ?_;show Fx.wpLX _ _ _ [0,1,2,3,4,5,6,7,8,9,10,11,12,13,14,15,16,17,18,19,20,21,22,23,24,25,26,27,28,29,30,31,32,33,34,35] _ _;rcases hcs with h |h |h |h |h
 ·have hn:=h
  refine Fx.fa rfl rfl rfl rfl rfl rfl ?_;refine Fx.l1 rfl rfl rfl rfl rfl rfl ?_;refine Fx.val (v:=.pointer (some ⟨g,off,none⟩)) rfl rfl rfl rfl (Fx.e_mv rfl rfl) ?_;refine Fx.val (v:=.pointer (some ⟨g,off,none⟩)) rfl rfl rfl rfl (Fx.e_nil rfl rfl) ?_;refine Fx.fa rfl rfl rfl rfl rfl rfl ?_;refine Fx.lD rfl rfl rfl rfl rfl rfl ?_;refine Fx.val (v:=.bool false) rfl rfl rfl rfl (Fx.e_gtr rfl rfl rfl (by first|exact decide_eq_true h0 |exact decide_eq_false hn)) ?_;refine Fx.val (v:=.bool false) rfl rfl rfl rfl (Fx.e_mv rfl rfl) ?_;refine Fx.skip rfl rfl (by kernel_rfl) rfl ?_;refine Fx.skipB rfl rfl (by kernel_rfl) (fun w h=>h) ?_;refine Fx.skip rfl rfl (by kernel_rfl) rfl ?_;refine Fx.skip rfl rfl (by kernel_rfl) rfl ?_;refine Fx.skip rfl rfl (by kernel_rfl) rfl ?_;refine Fx.skip rfl rfl (by kernel_rfl) rfl ?_;refine Fx.skipB rfl rfl (by kernel_rfl) (fun w h=>h) ?_;refine Fx.skip rfl rfl (by kernel_rfl) rfl ?_;refine Fx.val (v:=.bool false) rfl rfl rfl rfl (Fx.e_pkF rfl rfl rfl) ?_;refine Fx.val (v:=.bool false) rfl rfl rfl rfl (Fx.e_mv rfl rfl) ?_;refine Fx.skip rfl rfl (by kernel_rfl) rfl ?_;refine Fx.skipB rfl rfl (by kernel_rfl) (fun w h=>h) ?_;refine Fx.skip rfl rfl (by kernel_rfl) rfl ?_;refine Fx.skip rfl rfl (by kernel_rfl) rfl ?_;refine Fx.skipB rfl rfl (by kernel_rfl) (fun w h=>h) ?_;refine Fx.skipB rfl rfl (by kernel_rfl) (fun w h=>h) ?_;refine Fx.skip rfl rfl (by kernel_rfl) rfl ?_;refine Fx.val (v:=.bool false) rfl rfl rfl rfl (Fx.e_pkF rfl rfl rfl) ?_;refine Fx.val (v:=.bool false) rfl rfl rfl rfl (Fx.e_mv rfl rfl) ?_;refine Fx.skip rfl rfl (by kernel_rfl) rfl ?_;refine Fx.skipB rfl rfl (by kernel_rfl) (fun w h=>h) ?_;refine Fx.skip rfl rfl (by kernel_rfl) rfl ?_;refine Fx.skip rfl rfl (by kernel_rfl) rfl ?_;refine Fx.skip rfl rfl (by kernel_rfl) rfl ?_;refine Fx.skipB rfl rfl (by kernel_rfl) (fun w h=>h) ?_;refine Fx.skip rfl rfl (by kernel_rfl) rfl ?_;refine Fx.val (v:=.bool false) rfl rfl rfl rfl (Fx.e_pkF rfl rfl rfl) ?_;refine Fx.val (v:=.bool false) rfl rfl rfl rfl (Fx.e_as rfl rfl) ?_;clear hst;intro w' hst;generalize hact:Fx.mkO _ _=act;have hv:act.tmps.getD 4 undef=.bool false:=by rw[←hact];kernel_rfl
  have hd:act.defers=[]:=by rw[←hact];kernel_rfl
  clear hact;go_wp2_with fail;refine bodyPost_ret (results_tmp rfl _ _ _) hd ?_;rw[hv];exact⟨ret_bool (by first|(simp[slFol, *];done)|(simp[slFol, *];intros;omega)),hst.end⟩
 ·obtain⟨h0,hn⟩:=h
  refine Fx.fa rfl rfl rfl rfl rfl rfl ?_;refine Fx.l1 rfl rfl rfl rfl rfl rfl ?_;refine Fx.val (v:=.pointer (some ⟨g,off,none⟩)) rfl rfl rfl rfl (Fx.e_mv rfl rfl) ?_;refine Fx.val (v:=.pointer (some ⟨g,off,none⟩)) rfl rfl rfl rfl (Fx.e_nil rfl rfl) ?_;refine Fx.fa rfl rfl rfl rfl rfl rfl ?_;refine Fx.lD rfl rfl rfl rfl rfl rfl ?_;refine Fx.val (v:=.bool true) rfl rfl rfl rfl (Fx.e_gtr rfl rfl rfl (by first|exact decide_eq_true h0 |exact decide_eq_false hn)) ?_;refine Fx.val (v:=.bool true) rfl rfl rfl rfl (Fx.e_mv rfl rfl) ?_;refine Fx.fa rfl rfl rfl (by kernel_rfl) rfl rfl ?_;refine Fx.l1 rfl rfl rfl (by kernel_rfl) rfl rfl ?_;refine Fx.val (v:=.int .i64 (s.n-1)) rfl rfl rfl (by kernel_rfl) (Fx.e_sub (m:=s.n) (n:=1) rfl rfl rfl (by omega)) ?_;refine Fx.val (v:=.pointer (some ⟨g,off,none⟩)) rfl rfl rfl (by kernel_rfl) (Fx.e_mv rfl rfl) ?_;refine Fx.val (v:=.pointer (some ⟨g,off,none⟩)) rfl rfl rfl (by kernel_rfl) (Fx.e_nil rfl rfl) ?_;refine Fx.fa rfl rfl rfl (by kernel_rfl) rfl rfl ?_;refine Fx.lD rfl rfl rfl (by kernel_rfl) rfl rfl ?_;refine Fx.val (v:=.bool false) rfl rfl rfl (by kernel_rfl) (Fx.e_eql rfl rfl rfl (by first|exact decide_eq_true h1 |exact decide_eq_false hn)) ?_;refine Fx.val (v:=.bool false) rfl rfl rfl rfl (Fx.e_pkT rfl rfl rfl) ?_;refine Fx.val (v:=.bool false) rfl rfl rfl rfl (Fx.e_mv rfl rfl) ?_;refine Fx.skip rfl rfl (by kernel_rfl) rfl ?_;refine Fx.skipB rfl rfl (by kernel_rfl) (fun w h=>h) ?_;refine Fx.skip rfl rfl (by kernel_rfl) rfl ?_;refine Fx.skip rfl rfl (by kernel_rfl) rfl ?_;refine Fx.skipB rfl rfl (by kernel_rfl) (fun w h=>h) ?_;refine Fx.skipB rfl rfl (by kernel_rfl) (fun w h=>h) ?_;refine Fx.skip rfl rfl (by kernel_rfl) rfl ?_;refine Fx.val (v:=.bool false) rfl rfl rfl rfl (Fx.e_pkF rfl rfl rfl) ?_;refine Fx.val (v:=.bool false) rfl rfl rfl rfl (Fx.e_mv rfl rfl) ?_;refine Fx.skip rfl rfl (by kernel_rfl) rfl ?_;refine Fx.skipB rfl rfl (by kernel_rfl) (fun w h=>h) ?_;refine Fx.skip rfl rfl (by kernel_rfl) rfl ?_;refine Fx.skip rfl rfl (by kernel_rfl) rfl ?_;refine Fx.skip rfl rfl (by kernel_rfl) rfl ?_;refine Fx.skipB rfl rfl (by kernel_rfl) (fun w h=>h) ?_;refine Fx.skip rfl rfl (by kernel_rfl) rfl ?_;refine Fx.val (v:=.bool false) rfl rfl rfl rfl (Fx.e_pkF rfl rfl rfl) ?_;refine Fx.val (v:=.bool false) rfl rfl rfl rfl (Fx.e_as rfl rfl) ?_;clear hst;intro w' hst;generalize hact:Fx.mkO _ _=act;have hv:act.tmps.getD 4 undef=.bool false:=by rw[←hact];kernel_rfl
  have hd:act.defers=[]:=by rw[←hact];kernel_rfl
  clear hact;go_wp2_with fail;refine bodyPost_ret (results_tmp rfl _ _ _) hd ?_;rw[hv];exact⟨ret_bool (by first|(simp[slFol, *];done)|(simp[slFol, *];intros;omega)),hst.end⟩
 ·obtain⟨h0,h1,hn⟩:=h
  refine Fx.fa rfl rfl rfl rfl rfl rfl ?_;refine Fx.l1 rfl rfl rfl rfl rfl rfl ?_;refine Fx.val (v:=.pointer (some ⟨g,off,none⟩)) rfl rfl rfl rfl (Fx.e_mv rfl rfl) ?_;refine Fx.val (v:=.pointer (some ⟨g,off,none⟩)) rfl rfl rfl rfl (Fx.e_nil rfl rfl) ?_;refine Fx.fa rfl rfl rfl rfl rfl rfl ?_;refine Fx.lD rfl rfl rfl rfl rfl rfl ?_;refine Fx.val (v:=.bool true) rfl rfl rfl rfl (Fx.e_gtr rfl rfl rfl (by first|exact decide_eq_true h0 |exact decide_eq_false hn)) ?_;refine Fx.val (v:=.bool true) rfl rfl rfl rfl (Fx.e_mv rfl rfl) ?_;refine Fx.fa rfl rfl rfl (by kernel_rfl) rfl rfl ?_;refine Fx.l1 rfl rfl rfl (by kernel_rfl) rfl rfl ?_;refine Fx.val (v:=.int .i64 (s.n-1)) rfl rfl rfl (by kernel_rfl) (Fx.e_sub (m:=s.n) (n:=1) rfl rfl rfl (by omega)) ?_;refine Fx.val (v:=.pointer (some ⟨g,off,none⟩)) rfl rfl rfl (by kernel_rfl) (Fx.e_mv rfl rfl) ?_;refine Fx.val (v:=.pointer (some ⟨g,off,none⟩)) rfl rfl rfl (by kernel_rfl) (Fx.e_nil rfl rfl) ?_;refine Fx.fa rfl rfl rfl (by kernel_rfl) rfl rfl ?_;refine Fx.lD rfl rfl rfl (by kernel_rfl) rfl rfl ?_;refine Fx.val (v:=.bool true) rfl rfl rfl (by kernel_rfl) (Fx.e_eql rfl rfl rfl (by first|exact decide_eq_true h1 |exact decide_eq_false hn)) ?_;refine Fx.val (v:=.bool true) rfl rfl rfl rfl (Fx.e_pkT rfl rfl rfl) ?_;refine Fx.val (v:=.bool true) rfl rfl rfl rfl (Fx.e_mv rfl rfl) ?_;refine Fx.fa rfl rfl rfl (by kernel_rfl) rfl rfl ?_;refine Fx.lA rfl rfl rfl (by kernel_rfl) rfl rfl ?_;refine Fx.val (v:=.pointer (some ⟨g,off,none⟩)) rfl rfl rfl (by kernel_rfl) (Fx.e_mv rfl rfl) ?_;refine Fx.val (v:=.pointer (some ⟨g,off,none⟩)) rfl rfl rfl (by kernel_rfl) (Fx.e_nil rfl rfl) ?_;refine Fx.lD rfl rfl rfl (by kernel_rfl) rfl rfl ?_;refine Fx.callB rfl rfl (fun w h=>h) (fun w h=>HH.out w (hB.below h.end) (hG.below h.end)) rfl (by kernel_rfl) (fun w=>by kernel_rfl) ?_;refine Fx.val (v:=.bool false) rfl rfl rfl (by kernel_rfl) (Fx.e_eqh rfl rfl rfl (by first|exact h2 |simpa using hn)) ?_;refine Fx.val (v:=.bool false) rfl rfl rfl rfl (Fx.e_pkT rfl rfl rfl) ?_;refine Fx.val (v:=.bool false) rfl rfl rfl rfl (Fx.e_mv rfl rfl) ?_;refine Fx.skip rfl rfl (by kernel_rfl) rfl ?_;refine Fx.skipB rfl rfl (by kernel_rfl) (fun w h=>h) ?_;refine Fx.skip rfl rfl (by kernel_rfl) rfl ?_;refine Fx.skip rfl rfl (by kernel_rfl) rfl ?_;refine Fx.skip rfl rfl (by kernel_rfl) rfl ?_;refine Fx.skipB rfl rfl (by kernel_rfl) (fun w h=>h) ?_;refine Fx.skip rfl rfl (by kernel_rfl) rfl ?_;refine Fx.val (v:=.bool false) rfl rfl rfl rfl (Fx.e_pkF rfl rfl rfl) ?_;refine Fx.val (v:=.bool false) rfl rfl rfl rfl (Fx.e_as rfl rfl) ?_;clear hst;intro w' hst;generalize hact:Fx.mkO _ _=act;have hv:act.tmps.getD 4 undef=.bool false:=by rw[←hact];kernel_rfl
  have hd:act.defers=[]:=by rw[←hact];kernel_rfl
  clear hact;go_wp2_with fail;refine bodyPost_ret (results_tmp rfl _ _ _) hd ?_;rw[hv];exact⟨ret_bool (by first|(simp[slFol, *];done)|(simp[slFol, *];intros;omega)),hst.end⟩
 ·obtain⟨h0,h1,h2,hn⟩:=h
  refine Fx.fa rfl rfl rfl rfl rfl rfl ?_;refine Fx.l1 rfl rfl rfl rfl rfl rfl ?_;refine Fx.val (v:=.pointer (some ⟨g,off,none⟩)) rfl rfl rfl rfl (Fx.e_mv rfl rfl) ?_;refine Fx.val (v:=.pointer (some ⟨g,off,none⟩)) rfl rfl rfl rfl (Fx.e_nil rfl rfl) ?_;refine Fx.fa rfl rfl rfl rfl rfl rfl ?_;refine Fx.lD rfl rfl rfl rfl rfl rfl ?_;refine Fx.val (v:=.bool true) rfl rfl rfl rfl (Fx.e_gtr rfl rfl rfl (by first|exact decide_eq_true h0 |exact decide_eq_false hn)) ?_;refine Fx.val (v:=.bool true) rfl rfl rfl rfl (Fx.e_mv rfl rfl) ?_;refine Fx.fa rfl rfl rfl (by kernel_rfl) rfl rfl ?_;refine Fx.l1 rfl rfl rfl (by kernel_rfl) rfl rfl ?_;refine Fx.val (v:=.int .i64 (s.n-1)) rfl rfl rfl (by kernel_rfl) (Fx.e_sub (m:=s.n) (n:=1) rfl rfl rfl (by omega)) ?_;refine Fx.val (v:=.pointer (some ⟨g,off,none⟩)) rfl rfl rfl (by kernel_rfl) (Fx.e_mv rfl rfl) ?_;refine Fx.val (v:=.pointer (some ⟨g,off,none⟩)) rfl rfl rfl (by kernel_rfl) (Fx.e_nil rfl rfl) ?_;refine Fx.fa rfl rfl rfl (by kernel_rfl) rfl rfl ?_;refine Fx.lD rfl rfl rfl (by kernel_rfl) rfl rfl ?_;refine Fx.val (v:=.bool true) rfl rfl rfl (by kernel_rfl) (Fx.e_eql rfl rfl rfl (by first|exact decide_eq_true h1 |exact decide_eq_false hn)) ?_;refine Fx.val (v:=.bool true) rfl rfl rfl rfl (Fx.e_pkT rfl rfl rfl) ?_;refine Fx.val (v:=.bool true) rfl rfl rfl rfl (Fx.e_mv rfl rfl) ?_;refine Fx.fa rfl rfl rfl (by kernel_rfl) rfl rfl ?_;refine Fx.lA rfl rfl rfl (by kernel_rfl) rfl rfl ?_;refine Fx.val (v:=.pointer (some ⟨g,off,none⟩)) rfl rfl rfl (by kernel_rfl) (Fx.e_mv rfl rfl) ?_;refine Fx.val (v:=.pointer (some ⟨g,off,none⟩)) rfl rfl rfl (by kernel_rfl) (Fx.e_nil rfl rfl) ?_;refine Fx.lD rfl rfl rfl (by kernel_rfl) rfl rfl ?_;refine Fx.callB rfl rfl (fun w h=>h) (fun w h=>HH.out w (hB.below h.end) (hG.below h.end)) rfl (by kernel_rfl) (fun w=>by kernel_rfl) ?_;refine Fx.val (v:=.bool true) rfl rfl rfl (by kernel_rfl) (Fx.e_eqh rfl rfl rfl (by first|exact h2 |simpa using hn)) ?_;refine Fx.val (v:=.bool true) rfl rfl rfl rfl (Fx.e_pkT rfl rfl rfl) ?_;refine Fx.val (v:=.bool true) rfl rfl rfl rfl (Fx.e_mv rfl rfl) ?_;refine Fx.fa rfl rfl rfl (by kernel_rfl) rfl rfl ?_;refine Fx.l1 rfl rfl rfl (by kernel_rfl) rfl rfl ?_;refine Fx.val (v:=.pointer (some ⟨g,off,none⟩)) rfl rfl rfl (by kernel_rfl) (Fx.e_mv rfl rfl) ?_;refine Fx.val (v:=.pointer (some ⟨g,off,none⟩)) rfl rfl rfl (by kernel_rfl) (Fx.e_nil rfl rfl) ?_;refine Fx.fa rfl rfl rfl (by kernel_rfl) rfl rfl ?_;refine Fx.lD rfl rfl rfl (by kernel_rfl) rfl rfl ?_;refine Fx.val (v:=.bool false) rfl rfl rfl (by kernel_rfl) (Fx.e_geq rfl rfl rfl (by first|exact decide_eq_true h3 |exact decide_eq_false hn)) ?_;refine Fx.val (v:=.bool false) rfl rfl rfl rfl (Fx.e_pkT rfl rfl rfl) ?_;refine Fx.val (v:=.bool false) rfl rfl rfl rfl (Fx.e_as rfl rfl) ?_;clear hst;intro w' hst;generalize hact:Fx.mkO _ _=act;have hv:act.tmps.getD 4 undef=.bool false:=by rw[←hact];kernel_rfl
  have hd:act.defers=[]:=by rw[←hact];kernel_rfl
  clear hact;go_wp2_with fail;refine bodyPost_ret (results_tmp rfl _ _ _) hd ?_;rw[hv];exact⟨ret_bool (by first|(simp[slFol, *];done)|(simp[slFol, *];intros;omega)),hst.end⟩
 ·obtain⟨h0,h1,h2,h3⟩:=h
  refine Fx.fa rfl rfl rfl rfl rfl rfl ?_;refine Fx.l1 rfl rfl rfl rfl rfl rfl ?_;refine Fx.val (v:=.pointer (some ⟨g,off,none⟩)) rfl rfl rfl rfl (Fx.e_mv rfl rfl) ?_;refine Fx.val (v:=.pointer (some ⟨g,off,none⟩)) rfl rfl rfl rfl (Fx.e_nil rfl rfl) ?_;refine Fx.fa rfl rfl rfl rfl rfl rfl ?_;refine Fx.lD rfl rfl rfl rfl rfl rfl ?_;refine Fx.val (v:=.bool true) rfl rfl rfl rfl (Fx.e_gtr rfl rfl rfl (by first|exact decide_eq_true h0 |exact decide_eq_false hn)) ?_;refine Fx.val (v:=.bool true) rfl rfl rfl rfl (Fx.e_mv rfl rfl) ?_;refine Fx.fa rfl rfl rfl (by kernel_rfl) rfl rfl ?_;refine Fx.l1 rfl rfl rfl (by kernel_rfl) rfl rfl ?_;refine Fx.val (v:=.int .i64 (s.n-1)) rfl rfl rfl (by kernel_rfl) (Fx.e_sub (m:=s.n) (n:=1) rfl rfl rfl (by omega)) ?_;refine Fx.val (v:=.pointer (some ⟨g,off,none⟩)) rfl rfl rfl (by kernel_rfl) (Fx.e_mv rfl rfl) ?_;refine Fx.val (v:=.pointer (some ⟨g,off,none⟩)) rfl rfl rfl (by kernel_rfl) (Fx.e_nil rfl rfl) ?_;refine Fx.fa rfl rfl rfl (by kernel_rfl) rfl rfl ?_;refine Fx.lD rfl rfl rfl (by kernel_rfl) rfl rfl ?_;refine Fx.val (v:=.bool true) rfl rfl rfl (by kernel_rfl) (Fx.e_eql rfl rfl rfl (by first|exact decide_eq_true h1 |exact decide_eq_false hn)) ?_;refine Fx.val (v:=.bool true) rfl rfl rfl rfl (Fx.e_pkT rfl rfl rfl) ?_;refine Fx.val (v:=.bool true) rfl rfl rfl rfl (Fx.e_mv rfl rfl) ?_;refine Fx.fa rfl rfl rfl (by kernel_rfl) rfl rfl ?_;refine Fx.lA rfl rfl rfl (by kernel_rfl) rfl rfl ?_;refine Fx.val (v:=.pointer (some ⟨g,off,none⟩)) rfl rfl rfl (by kernel_rfl) (Fx.e_mv rfl rfl) ?_;refine Fx.val (v:=.pointer (some ⟨g,off,none⟩)) rfl rfl rfl (by kernel_rfl) (Fx.e_nil rfl rfl) ?_;refine Fx.lD rfl rfl rfl (by kernel_rfl) rfl rfl ?_;refine Fx.callB rfl rfl (fun w h=>h) (fun w h=>HH.out w (hB.below h.end) (hG.below h.end)) rfl (by kernel_rfl) (fun w=>by kernel_rfl) ?_;refine Fx.val (v:=.bool true) rfl rfl rfl (by kernel_rfl) (Fx.e_eqh rfl rfl rfl (by first|exact h2 |simpa using hn)) ?_;refine Fx.val (v:=.bool true) rfl rfl rfl rfl (Fx.e_pkT rfl rfl rfl) ?_;refine Fx.val (v:=.bool true) rfl rfl rfl rfl (Fx.e_mv rfl rfl) ?_;refine Fx.fa rfl rfl rfl (by kernel_rfl) rfl rfl ?_;refine Fx.l1 rfl rfl rfl (by kernel_rfl) rfl rfl ?_;refine Fx.val (v:=.pointer (some ⟨g,off,none⟩)) rfl rfl rfl (by kernel_rfl) (Fx.e_mv rfl rfl) ?_;refine Fx.val (v:=.pointer (some ⟨g,off,none⟩)) rfl rfl rfl (by kernel_rfl) (Fx.e_nil rfl rfl) ?_;refine Fx.fa rfl rfl rfl (by kernel_rfl) rfl rfl ?_;refine Fx.lD rfl rfl rfl (by kernel_rfl) rfl rfl ?_;refine Fx.val (v:=.bool true) rfl rfl rfl (by kernel_rfl) (Fx.e_geq rfl rfl rfl (by first|exact decide_eq_true h3 |exact decide_eq_false hn)) ?_;refine Fx.val (v:=.bool true) rfl rfl rfl rfl (Fx.e_pkT rfl rfl rfl) ?_;refine Fx.val (v:=.bool true) rfl rfl rfl rfl (Fx.e_as rfl rfl) ?_;clear hst;intro w' hst;generalize hact:Fx.mkO _ _=act;have hv:act.tmps.getD 4 undef=.bool true:=by rw[←hact];kernel_rfl
  have hd:act.defers=[]:=by rw[←hact];kernel_rfl
  clear hact;go_wp2_with fail;refine bodyPost_ret (results_tmp rfl _ _ _) hd ?_;rw[hv];exact⟨ret_bool (by first|(simp[slFol, *];done)|(simp[slFol, *];intros;omega)),hst.end⟩
end
end Go.Proofs.YtdkeiefgkgpcbaaGreatDoor
