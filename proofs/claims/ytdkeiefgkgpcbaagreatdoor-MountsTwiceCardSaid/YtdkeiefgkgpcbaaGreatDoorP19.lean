/- Steps of the proof: PlanMake, DevCtx, Commit. -/
import Derived.Test.YtdkeiefgkgpcbaaGreatDoorP18
set_option linter.unusedVariables false
set_option linter.unusedSimpArgs false
set_option maxRecDepth 100000
namespace Go.Proofs.YtdkeiefgkgpcbaaGreatDoor
open Go.RowKit
structure Pl where
 start:Int
 count:Int
 pb:Option Addr
 nb:Nat
 cb:Nat
 pe:Option Addr
 ne:Nat
 ce:Nat
 sl:Sl
def plL (p:Pl):List Value:=.int .i64 p.start::.int .i64 p.count::.slice p.pb p.nb p.cb::.slice p.pe p.ne p.ce::slL p.sl
def plC (p:Pl):Array Value:=(plL p).toArray
def pl0:Pl:=⟨0,0,none,0,0,none,0,0,sl0⟩
theorem plL_one (p:Pl):(plL p).all (·.oneCell')=true:=rfl
instance encPl:Enc plL 73:=⟨fun _=>rfl,fun x v hv=>List.all_eq_true.1 (plL_one x) v hv⟩
instance aggPl:AggT 43 73:=⟨fun w=>by kernel_rfl,by kernel_rfl⟩
instance eltPl:Elt 43 73:=⟨.agg (plC pl0),168,by kernel_rfl,rfl,by decide,by decide⟩
instance zeroPl:ZeroT 43 (plC pl0):=.agg fun w=>by kernel_rfl
instance wrPl (p q:Pl):WrAt (plC p) 0 73 (.agg (plC q)) (plC q):=wr_row _ _ _ _ (plL q) rfl rfl (Nat.le_of_ble_eq_true rfl) (by kernel_rfl)
instance fldPl0:Fx.FldT 43 0 0:=⟨fun ad w=>by kernel_rfl⟩
instance fldPl1:Fx.FldT 43 1 2:=⟨fun ad w=>by kernel_rfl⟩
instance fldPl2:Fx.FldT 43 2 3:=⟨fun ad w=>by kernel_rfl⟩
instance fldPl3:Fx.FldT 43 3 4:=⟨fun ad w=>by kernel_rfl⟩
instance plc0 (p:Pl):CellAt (plC p) 0 (.int .i64 p.start):=⟨rfl⟩
instance plc1 (p:Pl):CellAt (plC p) 1 (.int .i64 p.count):=⟨rfl⟩
instance plc2 (p:Pl):CellAt (plC p) 2 (.slice p.pb p.nb p.cb):=⟨rfl⟩
instance plc3 (p:Pl):CellAt (plC p) 3 (.slice p.pe p.ne p.ce):=⟨rfl⟩
instance plpAll (p:Pl):PartAt (plC p) 0 73 (plL p):=⟨rfl,fun j v h=>by rw[Nat.zero_add];simpa[plC] using h⟩
instance wrPlL (p q:Pl):WrAt (plC p) 0 73 (.agg (plL q).toArray) (plC q):=wr_row _ _ _ _ (plL q) rfl rfl (Nat.le_of_ble_eq_true rfl) (by kernel_rfl)
instance wrPlB (p:Pl) (q:Option Addr) (n c:Nat):WrAt (plC p) 2 1 (.slice q n c) (plC {p with pb:=q,nb:=n,cb:=c}):=⟨rfl,Nat.le_of_ble_eq_true rfl,fun x hx=>by simp[Value.cells] at hx;subst hx;rfl,by kernel_rfl⟩
instance wrSlN (s:Sl) (z:Int):WrAt (slC s) 0 1 (.int .i64 z) (slC {s with n:=z}):=⟨rfl,Nat.le_of_ble_eq_true rfl,fun x hx=>by simp[Value.cells] at hx;subst hx;rfl,by kernel_rfl⟩
instance wrSlP (s:Sl) (h:List UInt8):WrAt (slC s) 1 32 (.agg (hashL h).toArray) (slC {s with prev:=h}):=wr_row _ _ _ _ (hashL h) rfl rfl (Nat.le_of_ble_eq_true rfl) (by kernel_rfl)
inductive LastAt (D:Dat):Value→Option Sl→Prop
 |none:LastAt D (.pointer none) none
 |some {g off:Nat} {t:Sl} (h:SealAt D g off t) (h1:t.start≤4611686018427387904) (h2:0≤t.n∧t.n≤1073741824):LastAt D (.pointer (some ⟨g,off,none⟩)) (some t)
def lastN:Option Sl→Int
 |none=>1
 |some t=>t.n+1
def lastH:Option Sl→List UInt8
 |none=>[]
 |some t=>slHash t
def mkTx (l:List Pu) (start:Int):List UInt8×Int:=encF (lay start 0 l).1
def mkSl (last:Option Sl) (clock:Int) (l:List Pu) (start:Int):Sl:=⟨lastN last,lastH last,shaF (mkTx l start).1,(mkTx l start).1.length,start+(lay start 0 l).2,pkCount (mkTx l start).1.length,clock⟩
def makeErr (last:Option Sl) (clock:Int) (l:List Pu) (start:Int):Int:=
 if(needF l).2≠0 then(needF l).2 else if 512-(needF l).1<start then 241 else if(mkTx l start).2≠0 then(mkTx l start).2 else
  if slOk (mkSl last clock l start)&&slFol (mkSl last clock l start) last then 0 else 2
def makeErr2 (last:Option Sl) (clock:Int) (l:List Pu) (start:Int):Int:=if slOk (mkSl last clock l start)&&slFol (mkSl last clock l start) last then 0 else 2
theorem need_ok {l:List Pu} (h:(needF l).2=0) (hl:l.length≤1000000) (hw:∀x∈l,x.e.Wf) (ht:∀x∈l,x.text.size≤999999):(2≤(needF l).1∧(needF l).1≤10000000000000)∧chkF l=0:=by
 have hc:chkF l=0:=by
  by_cases hc:chkF l=0
  ·exact hc
  ·unfold needF at h;rw[if_pos hc] at h;exact h
 refine⟨?_,hc⟩;obtain⟨h200,hpo⟩:=chk_ok hc ht;have hrg:=lay_range 0 l 0 hpo;have hlw:=lay_wf 0 (by omega) l 0 hpo hw (by omega) (by omega);have hlen:=lay_len 0 l 0
 have hz:=encF_len (l:=needE l) (by unfold needE;rw[List.length_map];omega) (fun e he=>by
  unfold needE at he;obtain⟨x,hx,rfl⟩:=List.mem_map.1 he
  exact z0_wf (hlw x hx))
 unfold needF at h ⊢;rw[if_neg (by simp[hc])] at h ⊢
 by_cases h2:(encF (needE l)).2≠0
 ·rw[if_pos h2] at h;exact absurd h h2
 ·rw[if_neg h2]
  simp only;generalize (encF (needE l)).1.length=m at*;have:1≤pkCount (m:Int)∧pkCount (m:Int)≤1000000000001:=by unfold pkCount;rw[if_neg (by omega)];omega
  omega
theorem SealAt.snapOf {w w':World} {g off:Nat} {t:Sl} (h:SealAt (snap w) g off t) {S:List Nat} {w0:World} {L:List Blk} {F:List Nat} (hs:Sx S w0 w' L (snap w) F):SealAt (snap w') g off t:=
 ⟨⟨fun wx hx=>h.num.run wx (fun p hp=>hx p (hs.data p hp))⟩,⟨fun wx hx=>h.clk.run wx (fun p hp=>hx p (hs.data p hp))⟩,⟨fun wx hx=>h.all.run wx (fun p hp=>hx p (hs.data p hp))⟩⟩
def splL (kind ep:Int) (s:List UInt8):List ByteArray:=(List.range (pkCount s.length).toNat).map (splB kind ep s)
def putBlocks (ep:Int) (l:List Pu):List ByteArray:=l.flatMap fun x=>if x.e.kind=2 then splL 80 ep (ls x.text) else[]
def makeB (last:Option Sl) (clock:Int) (l:List Pu) (start:Int):List ByteArray:=
 putBlocks (lastN last) l++(splL 68 (lastN last) (mkTx l start).1++[mkS (slBlk (mkSl last clock l start)).1])
def MakePost (w:World) (last:Option Sl) (clock:Int) (l:List Pu) (start:Int) (e:Ending) (w':World):Prop:=
 ∃p LoB LoE,e=.returned (.tuple #[.agg (plC p),.int .i64 (makeErr last clock l start)])∧St [] w w' (LoB++LoE)∧
  (makeErr last clock l start=0→p.start=start∧p.count=(needF l).1∧p.sl=mkSl last clock l start∧OwnR 9 1 strL LoB (.slice p.pb p.nb p.cb) (makeB last clock l start)∧OwnR 66 39 entL LoE (.slice p.pe p.ne p.ce) (lay start 0 l).1)
theorem perm_count {l1 l2:List Blk} (h:∀ [BEq Blk] [LawfulBEq Blk] (a:Blk),l1.count a=l2.count a):l1.Perm l2:=by
 classical
 exact List.perm_iff_count.2 (fun a=>h a)
theorem perm_in (a b c:Blk) (B R:List Blk):(a::b::c::(B++R)).Perm (B++(a::b::c::R)):=perm_count fun x=>by
 simp only[List.count_append,List.count_cons];omega
theorem perm_x (a b c:Blk) (B E X:List Blk):(a::b::c::(B++(E++X))).Perm (X++(a::b::c::(B++E))):=perm_count fun x=>by
 simp only[List.count_append,List.count_cons];omega
theorem perm_new (d a b c:Blk) (B E X:List Blk):(X++(d::a::b::c::(B++E))).Perm (a::b::c::(B++(E++(d::X)))):=perm_count fun x=>by
 simp only[List.count_append,List.count_cons];omega
theorem perm_new3 (a b c:Blk) (B E X:List Blk):(X++(a::b::c::(B++E))).Perm (a::b::c::(B++(E++X))):=perm_count fun x=>by
 simp only[List.count_append,List.count_cons];omega
theorem cell_data {w wx:World} {a:Addr} {v:Value} (h:w.cell? a=some v) (hx:Holds (snap w) wx):wx.cell? a=some v:=by
 unfold World.cell? at h ⊢
 cases hb:w.heap[a.block]? with
 |none=>rw[hb] at h;cases h
 |some b=>
  rw[hb] at h
  cases b with
  |cells C T z=>
   obtain⟨z2,hz⟩:=hx (a.block,C,T) ⟨z,hb⟩;rw[hz];exact h
  |_=>cases h
theorem GBegin.ofData {w wx:World} (h:GBegin w) (hx:Holds (snap w) wx):GBegin wx:=⟨fun i v hi=>cell_data (h.at_ i v hi) hx⟩
theorem GSha.ofData {w wx:World} (h:GSha w) (hx:Holds (snap w) wx):GSha wx:=⟨fun i hi=>cell_data (h.at_ i hi) hx⟩
theorem GSums.ofData {w wx:World} (h:GSums w) (hx:Holds (snap w) wx):GSums wx:=⟨fun i hi=>cell_data (h.at_ i hi) hx⟩
theorem OwnR.srcOf {T:TypeId} {k:Nat} {α:Type} {enc:α→List Value} {Lo:List Blk} {v:Value} {l:List α} [Enc enc k] {w:World} (h:OwnR T k enc Lo v l) (hb:l.length≤1000000000) (hk:0<k) (hw:∀p∈Lo,w.heap[p.1]? =some (.cells p.2.1 p.2.2 (0,0))):Src w enc v l:=
 (h.row hb (D:=fun p=>p∈Lo) (fun p hp=>hp)).src (fun p hp=>⟨_,hw p hp⟩) hk
theorem spl_ok {kind ep n:Int} (hk:kind=68∨kind=80∨kind=83) (he:1≤ep∧ep≤1073741824) (hn:0≤n∧n≤1000000):splE kind ep n=0:=by
 unfold splE frErr pkCount;rw[if_neg (show ¬n<0 by omega),if_neg (by omega),if_pos hk,if_neg (by omega)]
theorem splL_len (kind ep:Int) (s:List UInt8) (h:s.length≤1000000):(splL kind ep s).length≤10000:=by
 unfold splL pkCount;rw[List.length_map,List.length_range,if_neg (by omega)];omega
theorem putBlocks_len (ep:Int):∀(l:List Pu),(∀x∈l,x.text.size≤999999)→(putBlocks ep l).length≤10000*l.length
 | [],_=>by simp[putBlocks]
 |x::l,h=>by
  have h1:=putBlocks_len ep l (fun y hy=>h y (List.mem_cons_of_mem _ hy));have h2:=h x (by simp);have h3:=splL_len 80 ep (ls x.text) (by rw[ls_length];omega);unfold putBlocks at h1 ⊢;rw[List.flatMap_cons,List.length_append,List.length_cons];split
  ·omega
  ·simp only[List.length_nil];omega
set_option maxHeartbeats 8000000 in
theorem make_calls {p:Option Addr} {c:Nat} {l:List Pu} {lv:Value} {last:Option Sl} {clock start:Int} (w:World) (hlast:LastAt (snap w) lv last) (hr:RowAt (snap w) 68 40 puL p c l) (hl:l.length≤1000000) (ht:∀x∈l,x.text.size≤999999) (hwf:∀x∈l,x.e.Wf)
  (hs:0≤start∧start≤1000000) (hbig:(mkTx l start).1.length≤1000000) (hck:0≤clock∧clock≤1073741824) (hB:GBegin w) (hG:GSha w) (hU:GSums w):
  Calls Tryz.prog 24 #[lv,.int .i64 clock,.slice p l.length c,.int .i64 start] w (MakePost w last clock l start):=by
 have hst:=Sx.start0 w (snap_holds w);have HN:=Lib.hid (fun wx L (h:Sx [] w wx L (snap w) [])=>need_calls wx (hr.snapOf h) hl ht hwf (hB.below h.end) (hG.below h.end))
 by_cases hn:(needF l).2≠0
 ·have HE:Hid (makeErr last clock l start=(needF l).2):=Lib.hid (by unfold makeErr;rw[if_pos hn])
  generalize needF l=q at*;obtain⟨z,er⟩:=q;go_enter Tryz.func24,Tryz.ntmps24;go_wp2_with (first|(with_reducible (refine xval rfl 32 rfl (.agg (plC pl0)) (fun w=>by kernel_rfl) ?_))|(with_reducible first|(refine xsa rfl rfl rfl rfl hst ?_;clear hst;intro w' hst)|(refine xnw rfl rfl hst ?_;clear hst;intro bn w' hst))|(with_reducible (refine callB (HN.out _ _ hst) hst ?_;clear hst;intro w' hst)));refine bodyPost_ret (results2 rfl (res_agg rfl hst.st.has) res_tmp) rfl ⟨pl0,[],[],by rw[HE.out];rfl,hst.endF,fun h=>absurd (HE.out.symm.trans h) hn⟩
 have hn0:(needF l).2=0:=by simpa using hn
 obtain⟨hnr,hc⟩:=need_ok hn0 hl hwf ht;obtain⟨h200,hpo⟩:=chk_ok hc ht;obtain⟨need,hneed⟩:∃z,(needF l).1=z:=⟨_,rfl⟩;rw[hn0,hneed] at HN;rw[hneed] at hnr
 by_cases hd:512-need<start
 ·have HE:Hid (makeErr last clock l start=241):=Lib.hid (by unfold makeErr;rw[if_neg hn,hneed,if_pos hd])
  have hd1:=decide_eq_true hd;go_enter Tryz.func24,Tryz.ntmps24;go_wp2_with (first|(with_reducible (refine xval rfl 42 rfl (.agg (plC pl0)) (fun w=>by kernel_rfl) ?_))|(with_reducible (refine xval rfl 35 rfl (.bool false) (fun w=>Fx.e_lss rfl rfl rfl (decide_eq_false (by omega)) w) ?_))|(with_reducible (refine xval rfl 40 rfl (.bool true) (fun w=>Fx.e_gtr rfl rfl rfl hd1 w) ?_))|(with_reducible first|(refine xsa rfl rfl rfl rfl hst ?_;clear hst;intro w' hst)|(refine xnw rfl rfl hst ?_;clear hst;intro bn w' hst))|(with_reducible (refine callB (HN.out _ _ hst) hst ?_;clear hst;intro w' hst)));refine bodyPost_ret (results2 rfl (res_agg rfl hst.st.has) res_tmp) rfl ⟨pl0,[],[],by rw[HE.out];rfl,hst.endF,fun h=>absurd (HE.out.symm.trans h) (by decide)⟩
 have hd1:=decide_eq_false hd;have hrg:=lay_range start l 0 hpo;have hlw:=lay_wf start hs l 0 hpo hwf (by omega) (by omega);have hlen:=lay_len start l 0;have HE1:Hid (makeErr last clock l start=if(mkTx l start).2≠0 then(mkTx l start).2 else makeErr2 last clock l start):=Lib.hid (by unfold makeErr makeErr2;rw[if_neg hn,hneed,if_neg hd]);go_enter Tryz.func24,Tryz.ntmps24;go_wp2_with (first|(with_reducible (refine xval rfl 35 rfl (.bool false) (fun w=>Fx.e_lss rfl rfl rfl (decide_eq_false (by omega)) w) ?_))|(with_reducible (refine xval rfl 40 rfl (.bool false) (fun w=>Fx.e_gtr rfl rfl rfl hd1 w) ?_))|(with_reducible (refine xnw rfl rfl hst ?_;clear hst;intro bn w' hst))|(with_reducible (refine callB (HN.out _ _ hst) hst ?_;clear hst;intro w' hst)));refine(laid_calls start w' (hr.snapOf hst) h200 hpo hs).mono ?_;rintro e w2 ⟨v,LoE,rfl,hown,hs2⟩;obtain⟨b8,rfl⟩:∃b,b=bn:=⟨_,rfl⟩;have hst:=(hst.take hs2).perm List.perm_append_comm;clear hs2 HN;obtain⟨q,hq⟩:∃q,lay start 0 l=q:=⟨_,rfl⟩;rw[hq] at hown hrg hlw hlen ⊢;obtain⟨out,n⟩:=q;simp only at hown hrg hlw hlen ⊢;obtain⟨pe,ce,rfl⟩:=hown.slice;have hol:out.length≤200:=by omega
 have HLn:=Lib.hid hlen;have hT:mkTx l start=encF out:=by unfold mkTx;rw[hq]
 have HEn:=Lib.hid (fun wx x (h:Sx [] w wx (x::LoE) (snap w) [])=>encode_calls _ out wx (hown.ents (by omega) hlw (fun q hq=>h.st.blk q (by simp[hq]))) (by omega));have HO:=Lib.hid hown;have hss:start+n≤4611686018427387904:=by omega
 clear hown hlen hlw;rw[←hT] at HEn;obtain⟨r,hr2⟩:∃r,mkTx l start=r:=⟨_,rfl⟩;rw[hr2] at HEn HE1 hbig;obtain⟨bs,er⟩:=r;simp only at HEn HE1 hbig;have hst:Sx [] w w2 ((b8,plC pl0,43)::LoE) (snap w) []:=hst
 by_cases her:er≠0
 ·have HE:Hid (makeErr last clock l start=er):=Lib.hid (by rw[HE1.out,if_pos her])
  go_wp2_with (first|(with_reducible (refine xval rfl 56 rfl (.agg (plC pl0)) (fun w=>by kernel_rfl) ?_))|(with_reducible (refine xsa rfl rfl rfl rfl hst ?_;clear hst;intro w' hst))|(with_reducible (refine callE (HEn.out _ _ hst) hst ?_;clear hst;intro w' hst)));refine bodyPost_ret (results2 rfl (res_agg rfl hst.st.has) res_tmp) rfl ⟨pl0,[],[],by rw[HE.out];rfl,hst.endF,fun h=>absurd (HE.out.symm.trans h) her⟩
 have her0:er=0:=by simpa using her
 subst her0;have HE0:Hid (makeErr last clock l start=makeErr2 last clock l start):=Lib.hid (by rw[HE1.out,if_neg her]);clear HE1 her;have HSh:=Lib.hid (fun wx L (h:Sx [] w wx L (snap w) [])=>sha_calls (mkS bs) (by rw[size_mkS];exact hbig) wx (hB.below h.end) (hG.below h.end));have HCn:=Lib.hid (fun wx=>count_calls ((mkS bs).size:Int) (by rw[size_mkS];omega) wx);rw[show ls (mkS bs)=bs from rfl] at HSh;have hmk:∀la,mkSl la clock l start=⟨lastN la,lastH la,shaF bs,(mkS bs).size,start+n,pkCount (mkS bs).size,clock⟩:=fun la=>by unfold mkSl;rw[hr2,hq];rfl
 have HSp:Hid (∀ep,splL 68 ep (mkTx l start).1=splL 68 ep (ls (mkS bs))):=Lib.hid (fun ep=>by rw[hr2];rfl);have hbz:(mkS bs).size≤1000000:=hbig;clear hr2 hT hbig;generalize mkS bs=tx at*;generalize pkCount tx.size=ct at*;generalize shaF bs=hh at*
 cases hlast with
 |none=>
   have HS0:=hmk none;obtain⟨s,hsE⟩:∃s,mkSl none clock l start=s:=⟨_,rfl⟩;rw[hsE] at HS0;have HS:Hid (s=mkSl none clock l start):=Lib.hid hsE.symm;have HV:Hid (s=⟨1,[],hh,tx.size,start+n,ct,clock⟩):=Lib.hid HS0;have hss:(mkSl none clock l start).start≤4611686018427387904:=by rw[hsE,HS0];exact hss
   clear hmk hsE HS0;go_wp2_with (first|(with_reducible (refine xval rfl 70 rfl (.agg (slC s)) (fun w=>by rw[HV.out];kernel_rfl) ?_))|(with_reducible first|refine xa rfl rfl rfl hst ?_|(refine xsa rfl rfl rfl rfl hst ?_;clear hst;intro w' hst)|(refine xnw rfl rfl hst ?_;clear hst;intro bn w' hst))|(with_reducible (refine callE (HEn.out _ _ hst) hst ?_;clear hst;intro w' hst))|(with_reducible (refine callB (HSh.out _ _ hst) hst ?_;clear hst;intro w' hst))|(with_reducible (refine callB (HCn.out _) hst ?_;clear hst;intro w' hst)));have HF:=Lib.hid (fun wx L (h:Sx [] w wx L (snap w) [])=>sfollows_nil s wx);obtain⟨b15,rfl⟩:∃b,b=bn:=⟨_,rfl⟩;have hs1:s.start≤4611686018427387904:=by rw[HS.out];exact hss
   have HK:=Lib.hid (fun wx=>scheck_calls s hs1 wx);obtain⟨b1,hb1⟩:∃b,slOk s=b:=⟨_,rfl⟩;obtain⟨b2,hb2⟩:∃b,slFol s none=b:=⟨_,rfl⟩;rw[hb1] at HK;rw[hb2] at HF;have HE2:Hid (makeErr none clock l start=if b1&&b2 then 0 else 2):=Lib.hid (by rw[HE0.out];unfold makeErr2;rw[←HS.out,hb1,hb2])
   cases b1
   ·have HE:Hid (makeErr none clock l start=2):=Lib.hid (by rw[HE2.out];rfl)
    go_wp2_with (first|(with_reducible (refine xval rfl 93 rfl (.agg (plC pl0)) (fun w=>by kernel_rfl) ?_))|(with_reducible (refine xsa rfl rfl rfl rfl hst ?_;clear hst;intro w' hst))|(with_reducible (refine callB (HK.out _) hst ?_;clear hst;intro w' hst))|(with_reducible (refine callB (HF.out _ _ hst) hst ?_;clear hst;intro w' hst)));refine bodyPost_ret (results2 rfl (res_agg rfl hst.st.has) res_tmp) rfl ⟨pl0,[],[],by rw[HE.out];rfl,hst.endF,fun h=>absurd (HE.out.symm.trans h) (by decide)⟩
   cases b2
   ·have HE:Hid (makeErr none clock l start=2):=Lib.hid (by rw[HE2.out];rfl)
    go_wp2_with (first|(with_reducible (refine xval rfl 93 rfl (.agg (plC pl0)) (fun w=>by kernel_rfl) ?_))|(with_reducible first|refine xa rfl rfl rfl hst ?_|(refine xsa rfl rfl rfl rfl hst ?_;clear hst;intro w' hst))|(with_reducible (refine callB (HK.out _) hst ?_;clear hst;intro w' hst))|(with_reducible (refine callB (HF.out _ _ hst) hst ?_;clear hst;intro w' hst)));refine bodyPost_ret (results2 rfl (res_agg rfl hst.st.has) res_tmp) rfl ⟨pl0,[],[],by rw[HE.out];rfl,hst.endF,fun h=>absurd (HE.out.symm.trans h) (by decide)⟩
   have HE:Hid (makeErr none clock l start=0):=Lib.hid (by rw[HE2.out];rfl);have hok:=(slOk_iff s).1 hb1;unfold SlOk at hok;have hsn:1≤s.n∧s.n≤1073741824:=⟨hok.1,hok.2.1⟩;clear hok HE2 hb1 hb2;go_wp2_with (first|(with_reducible (refine xval rfl 93 rfl (.agg (plC pl0)) (fun w=>by kernel_rfl) ?_))|(with_reducible (refine xval rfl 99 rfl (.agg (plC ⟨start,need,none,0,0,pe,out.length,ce,s⟩)) (fun w=>by kernel_rfl) ?_))|(with_reducible first|refine xa rfl rfl rfl hst ?_|(refine xsa rfl rfl rfl rfl hst ?_;clear hst;intro w' hst)|(refine xnw rfl rfl hst ?_;clear hst;intro bn w' hst))|(with_reducible (refine callB (HK.out _) hst ?_;clear hst;intro w' hst))|(with_reducible (refine callB (HF.out _ _ hst) hst ?_;clear hst;intro w' hst)));clear HK HF;obtain⟨b16,rfl⟩:∃b,b=bn:=⟨_,rfl⟩;clear HEn HSh HCn;go_loopw [102] (fun iv wr=>∃(k:Nat) (pb:Option Addr) (nb cb:Nat) (LoB:List Blk),k≤l.length∧iv=.int .i64 k∧Hid (OwnR 9 1 strL LoB (.slice pb nb cb) (putBlocks s.n (l.take k)))∧Sx [] w wr ((b16,plC ⟨start,need,pb,nb,cb,pe,out.length,ce,s⟩,43)::(b15,slC s,41)::(b8,plC pl0,43)::(LoB++LoE)) (snap w) []) (fun iv _=>l.length-(intOf iv).toNat)
   case atStart=>exact⟨0,none,0,0,[],Nat.zero_le _,by go_num,Lib.hid (OwnR.none _),hst⟩
   case round=>
    clear hst;obtain⟨k,pb,nb,cb,LoB,hk,rfl,HOB,hst⟩:=hrel
    by_cases hlt:k<l.length
    ·obtain⟨gp,op,rfl⟩:=hr.at_some hlt
     have hld:=hr.lda hlt;have hxt:=ht _ (List.getElem_mem hlt);have HPB:putBlocks s.n (l.take (k+1))=putBlocks s.n (l.take k)++(if l[k].e.kind=2 then splL 80 s.n (ls l[k].text) else[]):=by rw[List.take_succ_eq_append_getElem hlt];unfold putBlocks;rw[List.flatMap_append];simp
     have hbl:=putBlocks_len s.n (l.take k) (fun x hx=>ht x (List.mem_of_mem_take hx));rw[List.length_take] at hbl;generalize l[k]=x at*;generalize putBlocks s.n (l.take k)=m at*
     by_cases hk2:x.e.kind=2
     ·rw[if_pos hk2] at HPB
      have HM:=Lib.hid HPB;have hz:=splL_len 80 s.n (ls x.text) (by rw[ls_length];omega);have hok2:splE 80 s.n ((ls x.text).length:Int)=0:=spl_ok (Or.inr (Or.inl rfl)) hsn (by rw[ls_length];omega);have HSP:=Lib.hid (fun wx (h:GSums wx)=>split_calls (kind:=80) (ep:=s.n) x.text (by omega) (by decide) (by omega) h);clear HPB;go_wp2_with (with_reducible first|refine x1 rfl rfl rfl hst ?_|refine xd rfl rfl rfl hst ?_|(refine xsa rfl rfl rfl rfl hst ?_;clear hst;intro w' hst)|(refine xnw rfl rfl hst ?_;clear hst;intro bn w' hst));refine(HSP.out _ (hU.below hst.end)).mono ?_;rintro e w3 ⟨v2,Lo2,rfl,⟨p2,n2,c2,rfl⟩,hown2,hs2⟩;have hown2:OwnR 9 1 strL Lo2 (.slice p2 n2 c2) (splL 80 s.n (ls x.text)):=hown2 hok2;have hst:=(hst.take hs2).perm (perm_new ..);generalize splL 80 s.n (ls x.text)=m2 at*;clear hs2 HSP;go_wp2_with (first|((with_reducible refine xap (T:=9) (Lo:=LoB) rfl _ _ rfl rfl rfl (hst.perm (perm_in ..)) HOB.out (hown2.srcOf (by omega) (by decide) (fun q hq=>hst.st.blk q (by simp[hq]))) (by omega) ?_);clear hst;intro p4 c4 w4 Lo4 hown4 hst;rw[List.length_append] at hown4;have hst:=hst.perm (perm_in ..).symm)|(with_reducible first|refine x1 rfl rfl rfl hst ?_|(refine xsl rfl rfl rfl rfl hst ?_;clear hst;intro w' hst)));go_roundw
      case rel=>exact⟨k+1,p4,_,c4,Lo4,by omega,by go_num,Lib.hid (by rw[HM.out];exact hown4),(hst.perm (perm_x ..)).dropL⟩
      case measure=>simp[intOf];omega
     ·rw[if_neg hk2,List.append_nil] at HPB
      have HM:=Lib.hid HPB;clear HPB;go_wp2_with (with_reducible first|refine x1 rfl rfl rfl hst ?_|refine xd rfl rfl rfl hst ?_|(refine xsa rfl rfl rfl rfl hst ?_;clear hst;intro w' hst)|(refine xnw rfl rfl hst ?_;clear hst;intro bn w' hst));go_roundw
      case rel=>exact⟨k+1,pb,nb,cb,LoB,by omega,by go_num,Lib.hid (by rw[HM.out];exact HOB.out),hst.drop⟩
      case measure=>simp[intOf];omega
    ·obtain rfl:k=l.length:=by omega
     have hbl:=putBlocks_len s.n l ht;have HBs:=Lib.hid (show putBlocks s.n l=putBlocks s.n l from rfl);rw[List.take_length] at HOB
     have HMB:Hid (makeB none clock l start=putBlocks s.n l++(splL 68 s.n (ls tx)++[mkS (slBlk s).1])):=Lib.hid (by
      unfold makeB
      rw[HSp.out,←HS.out,show lastN none=s.n by rw[HS.out];rfl])
     have hz:=splL_len 68 s.n (ls tx) (by rw[ls_length];omega);have hok2:splE 68 s.n ((ls tx).length:Int)=0:=spl_ok (Or.inl rfl) hsn (by rw[ls_length];omega);have HSP:=Lib.hid (fun wx (h:GSums wx)=>split_calls (kind:=68) (ep:=s.n) tx (by omega) (by decide) (by omega) h);have HBk:=Lib.hid (fun wx (h:GSums wx)=>sblock_calls s hs1 wx h);generalize putBlocks s.n l=m at*;generalize (slBlk s).2=be at*;generalize mkS (slBlk s).1=bk at*;go_wp2_with (with_reducible refine x1 rfl rfl rfl hst ?_);refine(HSP.out _ (hU.below hst.end)).mono ?_;rintro e w3 ⟨v2,Lo2,rfl,⟨p2,n2,c2,rfl⟩,hown2,hs2⟩;have hown2:OwnR 9 1 strL Lo2 (.slice p2 n2 c2) (splL 68 s.n (ls tx)):=hown2 hok2;have hst:=(hst.take hs2).perm (perm_new3 ..);generalize splL 68 s.n (ls tx)=m2 at*;clear hs2 HSP;go_wp2_with (first|((with_reducible refine xap1 (T:=9) rfl _ _ rfl bk rfl rfl rfl hst hown4 rfl (by simp only[List.length_append];omega) ?_);clear hst;intro p5 c5 w5 Lo5 hown5 hst;rw[List.length_append] at hown5;have hst:=hst.perm (perm_in ..).symm)|((with_reducible refine xap (T:=9) (Lo:=LoB) rfl _ _ rfl rfl rfl (hst.perm (perm_in ..)) HOB.out (hown2.srcOf (by omega) (by decide) (fun q hq=>hst.st.blk q (by simp[hq]))) (by omega) ?_);clear hst;intro p4 c4 w4 Lo4 hown4 hst;rw[List.length_append] at hown4)|(with_reducible refine xmk rfl 141 rfl hst #[.string bk] 9 (fun b=>.slice (some ⟨b,0,none⟩) 1 1) (fun w=>by kernel_rfl) ?_;clear hst;intro b w' hst)|(with_reducible (refine callB (HBk.out _ (hU.below hst.end)) hst ?_;clear hst;intro w' hst))|(with_reducible first|refine x1 rfl rfl rfl hst ?_|refine xa rfl rfl rfl hst ?_|(refine xsl rfl rfl rfl rfl hst ?_;clear hst;intro w' hst)|(refine xsa rfl rfl rfl rfl hst ?_;clear hst;intro w' hst)));refine bodyPost_ret (results2 rfl (res_agg rfl hst.st.has) res_tmp) rfl ⟨⟨start,need,p5,_,c5,pe,out.length,ce,s⟩,Lo5,LoE,by rw[HE.out];rfl,((hst.perm (perm_x ..)).dropL).drop.drop.drop.st,fun _=>⟨rfl,hneed.symm,HS.out,?_,?_⟩⟩
     ·rw[HMB.out,←List.append_assoc]
      exact hown5
     ·rw[hq]
      exact HO.out
 | @some g off t ha h1 h2=>
   have HS0:=hmk (some t);obtain⟨s,hsE⟩:∃s,mkSl (some t) clock l start=s:=⟨_,rfl⟩;rw[hsE] at HS0;have HS:Hid (s=mkSl (some t) clock l start):=Lib.hid hsE.symm;have HV:Hid (s=⟨t.n+1,slHash t,hh,tx.size,start+n,ct,clock⟩):=Lib.hid HS0;have hss:(mkSl (some t) clock l start).start≤4611686018427387904:=by rw[hsE,HS0];exact hss
   clear hmk hsE HS0;have HH:=Lib.hid (fun wx (h:Holds (snap w) wx)=>shash_calls t h1 wx (hB.ofData h) (hG.ofData h));obtain⟨i1,i2,i3⟩:=id ha;go_wp2_with (first|(with_reducible (refine xval rfl 70 rfl (.agg (slC ⟨1,[],hh,tx.size,start+n,ct,clock⟩)) (fun w=>by kernel_rfl) ?_))|(with_reducible first|(refine xsa rfl rfl rfl rfl hst ?_;clear hst;intro w' hst)|(refine xnw rfl rfl hst ?_;clear hst;intro bn w' hst))|(with_reducible (refine callE (HEn.out _ _ hst) hst ?_;clear hst;intro w' hst))|(with_reducible (refine callB (HSh.out _ _ hst) hst ?_;clear hst;intro w' hst))|(with_reducible (refine callB (HCn.out _) hst ?_;clear hst;intro w' hst)));refine Fx.goD (fun i=>i==10||i==12) (fun i=> !(i==3||i==7||i==8)) (fun i=>i==12) (List.range 13) rfl hst (by kernel_rfl) (by kernel_rfl) (by kernel_rfl) (by kernel_rfl) (by kernel_rfl) ?_;show Fx.wpLX _ _ _ [0,1,2,3,4,5,6,7,8,9,10,11,12] _ _
   repeat(first|refine Fx.val rfl rfl rfl rfl (Fx.e_mv rfl rfl) ?_|refine Fx.val rfl rfl rfl rfl (Fx.e_nil rfl rfl) ?_|refine Fx.fa rfl rfl rfl rfl rfl rfl ?_|refine Fx.ldD rfl rfl rfl rfl rfl rfl ?_|refine Fx.val rfl rfl rfl rfl (Fx.e_add rfl rfl rfl (by omega)) ?_)
   refine Fx.callB rfl rfl (fun w h=>h.data) (fun w h=>HH.out w h) rfl rfl (fun w=>by kernel_rfl) ?_
   repeat(refine Fx.fa rfl rfl rfl rfl rfl rfl ?_)
   refine Fx.stI rfl rfl rfl rfl rfl (Or.inr (fun w h=>h.data)) ?_
   repeat(first|refine Fx.fa rfl rfl rfl rfl rfl rfl ?_|refine Fx.stA rfl rfl rfl rfl rfl (Or.inl rfl) ?_)
   clear hst;intro w' hst;generalize hact:Fx.mkO _ _=act;have hv0:act.tmps.getD 0 undef=.pointer (some ⟨g,off,none⟩):=by rw[←hact];kernel_rfl
   have hv1:act.tmps.getD 1 undef=.int .i64 clock:=by rw[←hact];kernel_rfl
   have hv2:act.tmps.getD 2 undef=.slice p l.length c:=by rw[←hact];kernel_rfl
   have hv3:act.tmps.getD 3 undef=.int .i64 start:=by rw[←hact];kernel_rfl
   have hv8:act.tmps.getD 8 undef=.pointer (some ⟨b8,0,none⟩):=by rw[←hact];kernel_rfl
   have hv9:act.tmps.getD 9 undef=.int .i64 0:=by rw[←hact];kernel_rfl
   have hv10:act.tmps.getD 10 undef=.int .i64 need:=by rw[←hact];kernel_rfl
   have hv11:act.tmps.getD 11 undef=.int .i64 0:=by rw[←hact];kernel_rfl
   have hv12:act.tmps.getD 12 undef=.slice pe out.length ce:=by rw[←hact];kernel_rfl
   have hv13:act.tmps.getD 13 undef=.int .i64 n:=by rw[←hact];kernel_rfl
   have hv14:act.tmps.getD 14 undef=.string tx:=by rw[←hact];kernel_rfl
   have hv15:act.tmps.getD 15 undef=.pointer (some ⟨bn,0,none⟩):=by rw[←hact];kernel_rfl
   obtain⟨fZ,hfZ,hact2⟩:=act_lit act 145 (by rw[←hact];kernel_rfl) (by rw[←hact];kernel_rfl);clear hact;have he0:fZ 0=.pointer (some ⟨g,off,none⟩):=(hfZ 0).symm.trans hv0;have he1:fZ 1=.int .i64 clock:=(hfZ 1).symm.trans hv1;have he2:fZ 2=.slice p l.length c:=(hfZ 2).symm.trans hv2;have he3:fZ 3=.int .i64 start:=(hfZ 3).symm.trans hv3;have he8:fZ 8=.pointer (some ⟨b8,0,none⟩):=(hfZ 8).symm.trans hv8;have he9:fZ 9=.int .i64 0:=(hfZ 9).symm.trans hv9;have he10:fZ 10=.int .i64 need:=(hfZ 10).symm.trans hv10;have he11:fZ 11=.int .i64 0:=(hfZ 11).symm.trans hv11;have he12:fZ 12=.slice pe out.length ce:=(hfZ 12).symm.trans hv12;have he13:fZ 13=.int .i64 n:=(hfZ 13).symm.trans hv13;have he14:fZ 14=.string tx:=(hfZ 14).symm.trans hv14;have he15:fZ 15=.pointer (some ⟨bn,0,none⟩):=(hfZ 15).symm.trans hv15;simp only[show List.range 145=[0,1,2,3,4,5,6,7,8,9,10,11,12,13,14,15,16,17,18,19,20,21,22,23,24,25,26,27,28,29,30,31,32,33,34,35,36,37,38,39,40,41,42,43,44,45,46,47,48,49,50,51,52,53,54,55,56,57,58,59,60,61,62,63,64,65,66,67,68,69,70,71,72,73,74,75,76,77,78,79,80,81,82,83,84,85,86,87,88,89,90,91,92,93,94,95,96,97,98,99,100,101,102,103,104,105,106,107,108,109,110,111,112,113,114,115,116,117,118,119,120,121,122,123,124,125,126,127,128,129,130,131,132,133,134,135,136,137,138,139,140,141,142,143,144] from rfl,List.map_cons,List.map_nil,he0,he1,he2,he3,he8,he9,he10,he11,he12,he13,he14,he15] at hact2;clear hfZ hv0 he0 hv1 he1 hv2 he2 hv3 he3 hv8 he8 hv9 he9 hv10 he10 hv11 he11 hv12 he12 hv13 he13 hv14 he14 hv15 he15;subst hact2;have hst:Sx [] w w' ((bn,slC s,41)::(b8,plC pl0,43)::LoE) (snap w) []:=by rw[HV.out];exact hst
   clear HH i1 i2 i3;have HF:=Lib.hid (fun wx L (h:Sx [] w wx L (snap w) [])=>sfollows_calls s t wx (ha.snapOf h) (by rw[HS.out];show -4611686018427387904≤t.n+1∧t.n+1≤_;omega) h1 (hB.below h.end) (hG.below h.end));obtain⟨b15,rfl⟩:∃b,b=bn:=⟨_,rfl⟩;have hs1:s.start≤4611686018427387904:=by rw[HS.out];exact hss
   have HK:=Lib.hid (fun wx=>scheck_calls s hs1 wx);obtain⟨b1,hb1⟩:∃b,slOk s=b:=⟨_,rfl⟩;obtain⟨b2,hb2⟩:∃b,slFol s (some t)=b:=⟨_,rfl⟩;rw[hb1] at HK;rw[hb2] at HF;have HE2:Hid (makeErr (some t) clock l start=if b1&&b2 then 0 else 2):=Lib.hid (by rw[HE0.out];unfold makeErr2;rw[←HS.out,hb1,hb2])
   cases b1
   ·have HE:Hid (makeErr (some t) clock l start=2):=Lib.hid (by rw[HE2.out];rfl)
    go_wp2_with (first|(with_reducible (refine xval rfl 93 rfl (.agg (plC pl0)) (fun w=>by kernel_rfl) ?_))|(with_reducible first|refine xa rfl rfl rfl hst ?_|(refine xsa rfl rfl rfl rfl hst ?_;clear hst;intro w' hst))|(with_reducible (refine callB (HK.out _) hst ?_;clear hst;intro w' hst))|(with_reducible (refine callB (HF.out _ _ hst) hst ?_;clear hst;intro w' hst)));refine bodyPost_ret (results2 rfl (res_agg rfl hst.st.has) res_tmp) rfl ⟨pl0,[],[],by rw[HE.out];rfl,hst.endF,fun h=>absurd (HE.out.symm.trans h) (by decide)⟩
   cases b2
   ·have HE:Hid (makeErr (some t) clock l start=2):=Lib.hid (by rw[HE2.out];rfl)
    go_wp2_with (first|(with_reducible (refine xval rfl 93 rfl (.agg (plC pl0)) (fun w=>by kernel_rfl) ?_))|(with_reducible first|refine xa rfl rfl rfl hst ?_|(refine xsa rfl rfl rfl rfl hst ?_;clear hst;intro w' hst))|(with_reducible (refine callB (HK.out _) hst ?_;clear hst;intro w' hst))|(with_reducible (refine callB (HF.out _ _ hst) hst ?_;clear hst;intro w' hst)));refine bodyPost_ret (results2 rfl (res_agg rfl hst.st.has) res_tmp) rfl ⟨pl0,[],[],by rw[HE.out];rfl,hst.endF,fun h=>absurd (HE.out.symm.trans h) (by decide)⟩
   have HE:Hid (makeErr (some t) clock l start=0):=Lib.hid (by rw[HE2.out];rfl);have hok:=(slOk_iff s).1 hb1;unfold SlOk at hok;have hsn:1≤s.n∧s.n≤1073741824:=⟨hok.1,hok.2.1⟩;clear hok HE2 hb1 hb2;go_wp2_with (first|(with_reducible (refine xval rfl 93 rfl (.agg (plC pl0)) (fun w=>by kernel_rfl) ?_))|(with_reducible (refine xval rfl 99 rfl (.agg (plC ⟨start,need,none,0,0,pe,out.length,ce,s⟩)) (fun w=>by kernel_rfl) ?_))|(with_reducible first|refine xa rfl rfl rfl hst ?_|(refine xsa rfl rfl rfl rfl hst ?_;clear hst;intro w' hst)|(refine xnw rfl rfl hst ?_;clear hst;intro bn w' hst))|(with_reducible (refine callB (HK.out _) hst ?_;clear hst;intro w' hst))|(with_reducible (refine callB (HF.out _ _ hst) hst ?_;clear hst;intro w' hst)));clear HK HF;obtain⟨b16,rfl⟩:∃b,b=bn:=⟨_,rfl⟩;clear HEn HSh HCn;go_loopw [102] (fun iv wr=>∃(k:Nat) (pb:Option Addr) (nb cb:Nat) (LoB:List Blk),k≤l.length∧iv=.int .i64 k∧Hid (OwnR 9 1 strL LoB (.slice pb nb cb) (putBlocks s.n (l.take k)))∧Sx [] w wr ((b16,plC ⟨start,need,pb,nb,cb,pe,out.length,ce,s⟩,43)::(b15,slC s,41)::(b8,plC pl0,43)::(LoB++LoE)) (snap w) []) (fun iv _=>l.length-(intOf iv).toNat)
   case atStart=>exact⟨0,none,0,0,[],Nat.zero_le _,by go_num,Lib.hid (OwnR.none _),hst⟩
   case round=>
    clear hst;obtain⟨k,pb,nb,cb,LoB,hk,rfl,HOB,hst⟩:=hrel
    by_cases hlt:k<l.length
    ·obtain⟨gp,op,rfl⟩:=hr.at_some hlt
     have hld:=hr.lda hlt;have hxt:=ht _ (List.getElem_mem hlt);have HPB:putBlocks s.n (l.take (k+1))=putBlocks s.n (l.take k)++(if l[k].e.kind=2 then splL 80 s.n (ls l[k].text) else[]):=by rw[List.take_succ_eq_append_getElem hlt];unfold putBlocks;rw[List.flatMap_append];simp
     have hbl:=putBlocks_len s.n (l.take k) (fun x hx=>ht x (List.mem_of_mem_take hx));rw[List.length_take] at hbl;generalize l[k]=x at*;generalize putBlocks s.n (l.take k)=m at*
     by_cases hk2:x.e.kind=2
     ·rw[if_pos hk2] at HPB
      have HM:=Lib.hid HPB;have hz:=splL_len 80 s.n (ls x.text) (by rw[ls_length];omega);have hok2:splE 80 s.n ((ls x.text).length:Int)=0:=spl_ok (Or.inr (Or.inl rfl)) hsn (by rw[ls_length];omega);have HSP:=Lib.hid (fun wx (h:GSums wx)=>split_calls (kind:=80) (ep:=s.n) x.text (by omega) (by decide) (by omega) h);clear HPB;go_wp2_with (with_reducible first|refine x1 rfl rfl rfl hst ?_|refine xd rfl rfl rfl hst ?_|(refine xsa rfl rfl rfl rfl hst ?_;clear hst;intro w' hst)|(refine xnw rfl rfl hst ?_;clear hst;intro bn w' hst));refine(HSP.out _ (hU.below hst.end)).mono ?_;rintro e w3 ⟨v2,Lo2,rfl,⟨p2,n2,c2,rfl⟩,hown2,hs2⟩;have hown2:OwnR 9 1 strL Lo2 (.slice p2 n2 c2) (splL 80 s.n (ls x.text)):=hown2 hok2;have hst:=(hst.take hs2).perm (perm_new ..);generalize splL 80 s.n (ls x.text)=m2 at*;clear hs2 HSP;go_wp2_with (first|((with_reducible refine xap (T:=9) (Lo:=LoB) rfl _ _ rfl rfl rfl (hst.perm (perm_in ..)) HOB.out (hown2.srcOf (by omega) (by decide) (fun q hq=>hst.st.blk q (by simp[hq]))) (by omega) ?_);clear hst;intro p4 c4 w4 Lo4 hown4 hst;rw[List.length_append] at hown4;have hst:=hst.perm (perm_in ..).symm)|(with_reducible first|refine x1 rfl rfl rfl hst ?_|(refine xsl rfl rfl rfl rfl hst ?_;clear hst;intro w' hst)));go_roundw
      case rel=>exact⟨k+1,p4,_,c4,Lo4,by omega,by go_num,Lib.hid (by rw[HM.out];exact hown4),(hst.perm (perm_x ..)).dropL⟩
      case measure=>simp[intOf];omega
     ·rw[if_neg hk2,List.append_nil] at HPB
      have HM:=Lib.hid HPB;clear HPB;go_wp2_with (with_reducible first|refine x1 rfl rfl rfl hst ?_|refine xd rfl rfl rfl hst ?_|(refine xsa rfl rfl rfl rfl hst ?_;clear hst;intro w' hst)|(refine xnw rfl rfl hst ?_;clear hst;intro bn w' hst));go_roundw
      case rel=>exact⟨k+1,pb,nb,cb,LoB,by omega,by go_num,Lib.hid (by rw[HM.out];exact HOB.out),hst.drop⟩
      case measure=>simp[intOf];omega
    ·obtain rfl:k=l.length:=by omega
     have hbl:=putBlocks_len s.n l ht;have HBs:=Lib.hid (show putBlocks s.n l=putBlocks s.n l from rfl);rw[List.take_length] at HOB
     have HMB:Hid (makeB (some t) clock l start=putBlocks s.n l++(splL 68 s.n (ls tx)++[mkS (slBlk s).1])):=Lib.hid (by
      unfold makeB
      rw[HSp.out,←HS.out,show lastN (some t)=s.n by rw[HS.out];rfl])
     have hz:=splL_len 68 s.n (ls tx) (by rw[ls_length];omega);have hok2:splE 68 s.n ((ls tx).length:Int)=0:=spl_ok (Or.inl rfl) hsn (by rw[ls_length];omega);have HSP:=Lib.hid (fun wx (h:GSums wx)=>split_calls (kind:=68) (ep:=s.n) tx (by omega) (by decide) (by omega) h);have HBk:=Lib.hid (fun wx (h:GSums wx)=>sblock_calls s hs1 wx h);generalize putBlocks s.n l=m at*;generalize (slBlk s).2=be at*;generalize mkS (slBlk s).1=bk at*;go_wp2_with (with_reducible refine x1 rfl rfl rfl hst ?_);refine(HSP.out _ (hU.below hst.end)).mono ?_;rintro e w3 ⟨v2,Lo2,rfl,⟨p2,n2,c2,rfl⟩,hown2,hs2⟩;have hown2:OwnR 9 1 strL Lo2 (.slice p2 n2 c2) (splL 68 s.n (ls tx)):=hown2 hok2;have hst:=(hst.take hs2).perm (perm_new3 ..);generalize splL 68 s.n (ls tx)=m2 at*;clear hs2 HSP;go_wp2_with (first|((with_reducible refine xap1 (T:=9) rfl _ _ rfl bk rfl rfl rfl hst hown4 rfl (by simp only[List.length_append];omega) ?_);clear hst;intro p5 c5 w5 Lo5 hown5 hst;rw[List.length_append] at hown5;have hst:=hst.perm (perm_in ..).symm)|((with_reducible refine xap (T:=9) (Lo:=LoB) rfl _ _ rfl rfl rfl (hst.perm (perm_in ..)) HOB.out (hown2.srcOf (by omega) (by decide) (fun q hq=>hst.st.blk q (by simp[hq]))) (by omega) ?_);clear hst;intro p4 c4 w4 Lo4 hown4 hst;rw[List.length_append] at hown4)|(with_reducible refine xmk rfl 141 rfl hst #[.string bk] 9 (fun b=>.slice (some ⟨b,0,none⟩) 1 1) (fun w=>by kernel_rfl) ?_;clear hst;intro b w' hst)|(with_reducible (refine callB (HBk.out _ (hU.below hst.end)) hst ?_;clear hst;intro w' hst))|(with_reducible first|refine x1 rfl rfl rfl hst ?_|refine xa rfl rfl rfl hst ?_|(refine xsl rfl rfl rfl rfl hst ?_;clear hst;intro w' hst)|(refine xsa rfl rfl rfl rfl hst ?_;clear hst;intro w' hst)));refine bodyPost_ret (results2 rfl (res_agg rfl hst.st.has) res_tmp) rfl ⟨⟨start,need,p5,_,c5,pe,out.length,ce,s⟩,Lo5,LoE,by rw[HE.out];rfl,((hst.perm (perm_x ..)).dropL).drop.drop.drop.st,fun _=>⟨rfl,hneed.symm,HS.out,?_,?_⟩⟩
     ·rw[HMB.out,←List.append_assoc]
      exact hown5
     ·rw[hq]
      exact HO.out
end Go.Proofs.YtdkeiefgkgpcbaaGreatDoor
namespace Go.Proofs.YtdkeiefgkgpcbaaGreatDoor
open Go.RowKit
class Ctx (L0 X:List Blk) (C:outParam (List Blk→List Blk)):Prop where
 eq:L0=C X
 perm:∀Y,(C Y).Perm (Y++C [])
instance ctxHere {g:Nat} {d:Dv} {q:Dp}:Ctx (devL g d q) (devL g d q) (fun Y=>Y):=⟨rfl,fun Y=>by simp⟩
instance ctxCons {b:Blk} {L0 X:List Blk} {C:List Blk→List Blk} [h:Ctx L0 X C]:Ctx (b::L0) X (fun Y=>b::C Y):=⟨by rw[←h.eq],fun Y=>((h.perm Y).cons b).trans List.perm_middle.symm⟩
section
variable {S:List Nat} {w0 w:World} {L0:List Blk} {D:Dat} {g:Nat} {d:Dv} {q:Dp} {f:FuncId} {args:Array Value} {v:Value} {K:Ending→World→Prop} {C:List Blk→List Blk}
theorem callO {d':Dv} [c:Ctx L0 (devL g d q) C] (hc:∀F wx,DevW D F wx g d→Calls Tryz.prog f args wx (DevRet v D F wx g d')) (h:Sx S w0 w L0 D []) (m:DevMem D d q)
  (hk:∀w' q',Sx S w0 w' (C (devL g d' q')) D []→DevMem D d' q'→K (.returned v) w'):Calls Tryz.prog f args w K:=by
 have h1:Sx S w0 w (devL g d q++C []) D []:=(show Sx S w0 w (C (devL g d q)) D [] from c.eq ▸ h).perm (c.perm _);obtain⟨F',hd,_,_,hs⟩:=h1.closeDev m rfl;refine callD (hc F' w hd) hs (fun w' F2 hs2 hd2=>?_);obtain⟨q',m',_,hs3⟩:=hs2.openDev hd2;exact hk w' q' (hs3.perm (c.perm _).symm) m'
theorem callOr [c:Ctx L0 (devL g d q) C] (hc:∀F wx,DevW D F wx g d→Calls Tryz.prog f args wx (Ret v wx)) (h:Sx S w0 w L0 D []) (m:DevMem D d q)
  (hk:∀w',Sx S w0 w' L0 D []→K (.returned v) w'):Calls Tryz.prog f args w K:=by
 have h1:Sx S w0 w (devL g d q++C []) D []:=(show Sx S w0 w (C (devL g d q)) D [] from c.eq ▸ h).perm (c.perm _);obtain⟨F',hd,_,_,hs⟩:=h1.closeDev m rfl;exact callB (hc F' w hd) h hk
theorem Sx.devW [c:Ctx L0 (devL g d q) C] (h:Sx S w0 w L0 D []) (m:DevMem D d q):∃F,DevW D F w g d:=by
 have h1:Sx S w0 w (devL g d q++C []) D []:=(show Sx S w0 w (C (devL g d q)) D [] from c.eq ▸ h).perm (c.perm _);obtain⟨F',hd,_⟩:=h1.closeDev m rfl;exact⟨F',hd⟩
theorem Sx.devRet {F:List Nat} {d':Dv} {e:Ending} (h:Sx F w0 w (devL g d' q) D []) (m:DevMem D d' q) (he:e=.returned v):DevRet v D F w0 g d' e w:=by
 obtain⟨F',hd,hs,hF,_⟩:=Sx.closeDev (L:=[]) (by rw[List.append_nil];exact h) m rfl;exact⟨he,F',hd,hs,hF⟩
end
end Go.Proofs.YtdkeiefgkgpcbaaGreatDoor
namespace Go.Proofs.YtdkeiefgkgpcbaaGreatDoor
open Go.RowKit
theorem freeGo_wf:∀(l:List Int) (i:Nat) (f:Int) (out:List Rn),i+l.length≤1000000000→ -1≤f∧f≤i→(∀r∈out,r.Wf)→∀r∈freeGo i f l out,r.Wf
 | [],_,_,_,_,_,h=>h
 |s::l,i,f,out,hl,hf,h=>by
  simp only[List.length_cons] at hl;unfold freeGo;split
  ·exact freeGo_wf l (i+1) i out (by omega) (by omega) h
  ·split
   ·refine freeGo_wf l (i+1) (-1) _ (by omega) (by omega) (fun r hr=>?_)
    rcases List.mem_append.1 hr with hr |hr
    ·exact h r hr
    ·obtain rfl:=List.mem_singleton.1 hr
     exact⟨⟨by show -9223372036854775808≤f;omega,by show f≤_;omega⟩,⟨by show -9223372036854775808≤(i:Int)-f;omega,by show(i:Int)-f≤_;omega⟩⟩
   ·exact freeGo_wf l (i+1) f out (by omega) (by omega) h
theorem rFree_wf {l:List Int} (h:l.length≤100000000):∀r∈rFree l,r.Wf:=freeGo_wf _ _ _ _ (by rw[List.length_append,List.length_singleton];omega) (by omega) (by simp)
theorem freeGo_len:∀(l:List Int) (i:Nat) (f:Int) (out:List Rn),(freeGo i f l out).length≤out.length+l.length
 | [],_,_,out=>by simp[freeGo]
 |s::l,i,f,out=>by
  unfold freeGo;split
  ·have:=freeGo_len l (i+1) i out;rw[List.length_cons];omega
  ·split
   ·have:=freeGo_len l (i+1) (-1) (out++[⟨f,i-f⟩]);rw[List.length_append,List.length_singleton] at this;rw[List.length_cons];omega
   ·have:=freeGo_len l (i+1) f out;rw[List.length_cons];omega
def placeF (d:Dv) (n:Int):Int×Bool:=if n<1 then(0,false) else((rTake (rFree (dStates d)) n).1.s,(rTake (rFree (dStates d)) n).2)
section
variable {D:Dat} {F:List Nat} {w:World} {g:Nat} {d:Dv}
set_option maxHeartbeats 1000000 in
theorem place_calls (h:DevW D F w g d) (n:Int) (hn:I64 n):Calls Tryz.prog 14 #[.pointer (some ⟨g,0,none⟩),.int .i64 n] w (Ret (.tuple #[.int .i64 (placeF d n).1,.bool (placeF d n).2]) w):=by
 have hst:=Sx.start0 w h.data
 by_cases h1:n<1
 ·have HP:=Lib.hid (show placeF d n=(0,false) by unfold placeF;rw[if_pos h1])
  go_enter Tryz.func14,Tryz.ntmps14;go_wp2_with fail;go_ret2;exact⟨by rw[HP.out];rfl,hst.end⟩
 ·have HP:=Lib.hid (show placeF d n=((rTake (rFree (dStates d)) n).1.s,(rTake (rFree (dStates d)) n).2) by unfold placeF;rw[if_neg h1])
  have hmax:=h.ok.max;have hdl:(dStates d).length=d.now.length:=by unfold dStates;rw[List.length_map]
  have hfl:(rFree (dStates d)).length≤1000:=by have:=freeGo_len (dStates d++[1]) 0 (-1) [];rw[List.length_append,List.length_singleton] at this;unfold rFree;simp only[List.length_nil] at this;omega
  have hwf:=rFree_wf (l:=dStates d) (by omega);have HS:=Lib.hid (fun wx (hb:Below w.heap.size w wx)=>dstates_calls (h.below hb));obtain⟨ss,hss⟩:∃x,dStates d=x:=⟨_,rfl⟩;rw[hss] at hdl hfl hwf HP HS;have hsl:ss.length≤512:=by omega
  clear hdl hmax;obtain⟨fr,hfr⟩:∃x,rFree ss=x:=⟨_,rfl⟩;rw[hfr] at hfl hwf HP;obtain⟨rq,hrq⟩:∃x,rTake fr n=x:=⟨_,rfl⟩;rw[hrq] at HP;go_enter Tryz.func14,Tryz.ntmps14;go_wp2_with fail;refine(HS.out _ hst.end).mono ?_;rintro e w2 ⟨v,Lo,rfl,hown,hs2⟩;have hst:=(hst.take hs2).lay;obtain⟨p1,c1,rfl,hrow⟩:=hown.row (by omega) (D:=fun p=>D p∨p∈Lo) (fun p hp=>Or.inr hp);go_wp2_with fail;refine(free_calls hrow (by omega) _ hst.data).mono ?_;rintro e w3 ⟨v2,Lo2,rfl,hown2,hs3⟩;rw[hfr] at hown2;have hst:=(hst.take hs3).lay;obtain⟨p2,c2,rfl,hrow2⟩:=hown2.row (by omega) (D:=fun p=>(D p∨p∈Lo)∨p∈Lo2) (fun p hp=>Or.inr hp);go_wp2_with fail;refine(rtake_calls hrow2 n hn hwf _ hst.data).mono ?_;rintro e w4 ⟨v3,rfl,hb⟩;have hst:=hst.below hb;rw[hrq];obtain⟨⟨qs,qc⟩,qb⟩:=rq;simp only;go_wp2_with (with_reducible first|refine x1 rfl rfl rfl hst ?_|(refine xsa rfl rfl rfl rfl hst ?_;clear hst;intro w' hst)|(refine xnw rfl rfl hst ?_;clear hst;intro bn w' hst));go_ret2;exact⟨by rw[HP.out];rfl,hst.end⟩
def cwGo (start:Int) (last:Nat):Nat→List ByteArray→Dv→Dv×Int
 |_,[],d=>dFlush d
 |i,b::bs,d=>
  if(if i=last then dFlush d else(d,0)).2≠0 then(if i=last then dFlush d else(d,0)) else
  if(dWrite (if i=last then dFlush d else(d,0)).1 (start+i) b).2≠0 then dWrite (if i=last then dFlush d else(d,0)).1 (start+i) b else
  cwGo start last (i+1) bs (dWrite (if i=last then dFlush d else(d,0)).1 (start+i) b).1
def cWrite (d:Dv) (start count:Int) (l:List ByteArray):Dv×Int:=if l.length=0∨count≠l.length then(d,2) else cwGo start (l.length-1) 0 l d
theorem dFails_acts (d:Dv):(dFails d).1.acts=d.acts:=by unfold dFails;split<;>rfl
theorem dCrash_acts (d:Dv) (k:List Int):(dCrash d k).1.acts.length≤d.acts.length:=by unfold dCrash;split<;>simp
theorem dFlush_acts (d:Dv):(dFlush d).1.acts.length≤d.acts.length:=by
 unfold dFlush;split
 ·exact Nat.le_refl _
 ·simp only
  split
  ·exact Nat.le_trans (dCrash_acts _ _) (by rw[dFails_acts];exact Nat.le_refl _)
  ·simp
theorem dDo_acts (d:Dv) (x:Ac):(dDo d x).1.acts.length≤d.acts.length+1:=by
 unfold dDo;simp only;have h:(dPut (dFails d).1 x).acts.length=d.acts.length+1:=by unfold dPut;simp[dFails_acts]
 split
 ·exact Nat.le_trans (dCrash_acts _ _) (by omega)
 ·simp only;omega
theorem dWrite_acts (d:Dv) (i:Int) (s:ByteArray):(dWrite d i s).1.acts.length≤d.acts.length+1:=by
 unfold dWrite;split
 ·exact Nat.le_succ _
 ·split
  ·exact Nat.le_succ _
  ·split
   ·exact Nat.le_succ _
   ·split
    ·exact Nat.le_succ _
    ·exact dDo_acts _ _
set_option maxHeartbeats 4000000 in
theorem cwrite_calls (h:DevW D F w g d) {start count:Int} {pb:Option Addr} {cb:Nat} {pe:Option Addr} {ne ce:Nat} {sl:Sl} {l:List ByteArray} (hr:RowAt D 9 1 strL pb cb l) (hs:∀s∈l,s.size≤100000) (hst0:0≤start∧start≤1000000) (hl:l.length≤100000) (hal:d.acts.length+l.length<1000000):
  Calls Tryz.prog 25 #[.pointer (some ⟨g,0,none⟩),.agg (plC ⟨start,count,pb,l.length,cb,pe,ne,ce,sl⟩)] w (DevRet (.int .i64 (cWrite d start count l).2) D F w g (cWrite d start count l).1):=by
 obtain⟨q,m,_,hst⟩:=h.open h.lt;clear h;obtain⟨R,hR⟩:∃R,cWrite d start count l=R:=⟨_,rfl⟩;rw[hR];have HR0:∀ {u:Dv×Int},R=u→Ending.returned (.int .i64 u.2)=.returned (.int .i64 R.2):=fun e=>by rw[e]
 by_cases hz:l.length=0
 ·have HR:Hid (R=(d,2)):=Lib.hid (by rw[←hR];unfold cWrite;rw[if_pos (Or.inl hz)])
  clear hR;go_enter Tryz.func25,Tryz.ntmps25;go_wp2_with (first|(with_reducible (refine xval rfl 15 rfl (.bool true) (fun w=>Fx.e_lss rfl rfl rfl (decide_eq_true (by omega)) w) ?_))|(with_reducible first|refine x1 rfl rfl rfl hst ?_|(refine xba rfl rfl hst rfl ?_;clear hst;intro bb w' hst)));go_ret;rw[HR.out];exact hst.drop.devRet m rfl
 by_cases hz2:count≠l.length
 ·have HR:Hid (R=(d,2)):=Lib.hid (by rw[←hR];unfold cWrite;rw[if_pos (Or.inr hz2)])
  clear hR;have hd1:=decide_eq_true hz2;go_enter Tryz.func25,Tryz.ntmps25;go_wp2_with (first|(with_reducible (refine xval rfl 15 rfl (.bool false) (fun w=>Fx.e_lss rfl rfl rfl (decide_eq_false (by omega)) w) ?_))|(with_reducible (refine xval rfl 23 rfl (.bool true) (fun w=>Fx.e_neq rfl rfl rfl hd1 w) ?_))|(with_reducible first|refine x1 rfl rfl rfl hst ?_|(refine xba rfl rfl hst rfl ?_;clear hst;intro bb w' hst)));go_ret;rw[HR.out];exact hst.drop.devRet m rfl
 have hct:count=l.length:=by simpa using hz2
 subst hct;have HC0:Hid (cwGo start (l.length-1) 0 (l.drop 0) d=R):=Lib.hid (by rw[←hR];unfold cWrite;rw[if_neg (by simp[hz])];rfl);clear hR;go_enter Tryz.func25,Tryz.ntmps25;go_wp2_with (first|(with_reducible (refine xval rfl 15 rfl (.bool false) (fun w=>Fx.e_lss rfl rfl rfl (decide_eq_false (by omega)) w) ?_))|(with_reducible (refine xval rfl 23 rfl (.bool false) (fun w=>Fx.e_neq rfl rfl rfl (decide_eq_false (by simp)) w) ?_))|(with_reducible first|refine x1 rfl rfl rfl hst ?_|(refine xba rfl rfl hst rfl ?_;clear hst;intro bb w' hst)));obtain⟨b3,rfl⟩:∃b,b=bb:=⟨_,rfl⟩;go_loopw [28] (fun iv wr=>∃(k:Nat) (d':Dv) (q:Dp),k≤l.length∧iv=.int .i64 k∧Hid (cwGo start (l.length-1) k (l.drop k) d'=R)∧Hid (d'.acts.length+(l.length-k)<1000000)∧DevMem D d' q∧Sx F w wr ((b3,plC ⟨start,l.length,pb,l.length,cb,pe,ne,ce,sl⟩,43)::devL g d' q) D []) (fun iv _=>l.length-(intOf iv).toNat)
 case atStart=>exact⟨0,d,q,Nat.zero_le _,by go_num,HC0,Lib.hid (by omega),m,hst⟩
 case round=>
  clear hst HC0 m;obtain⟨k,d',q,hk,rfl,HC,HA,m,hst⟩:=hrel
  by_cases hlt:k<l.length
  ·obtain⟨g2,off,rfl⟩:=hr.at_some hlt
   have hld:=hr.ld1 hlt rfl;have hxs:=hs _ (List.getElem_mem hlt);rw[List.drop_eq_getElem_cons hlt] at HC;generalize l[k]=x at*;obtain⟨f,hf⟩:∃f,(if k=l.length-1 then dFlush d' else(d',0))=f:=⟨_,rfl⟩
   have hfa:f.1.acts.length≤d'.acts.length:=by
    rw[←hf];split
    ·exact dFlush_acts d'
    ·exact Nat.le_refl _
   have hHC:(if f.2≠0 then f else if(dWrite f.1 (start+k) x).2≠0 then dWrite f.1 (start+k) x else cwGo start (l.length-1) (k+1) (l.drop (k+1)) (dWrite f.1 (start+k) x).1)=R:=by
    have:=HC.out;simp only[cwGo,hf] at this;exact this
   obtain⟨r,hrw⟩:∃r,dWrite f.1 (start+k) x=r:=⟨_,rfl⟩;have hra:r.1.acts.length≤f.1.acts.length+1:=by rw[←hrw];exact dWrite_acts ..
   have HWr:=Lib.hid (fun F wx (hd:DevW D F wx g f.1)=>dwrite_calls hd (start+k) x hxs (by have:=HA.out;omega));rw[hrw] at HWr hHC;have HHC:=Lib.hid hHC;clear hHC hrw HC;obtain⟨d2,e2⟩:=f;obtain⟨d3,e3⟩:=r;simp only at hfa hra HWr HHC
   by_cases hla:k=l.length-1
   ·rw[if_pos hla] at hf
    have HFl:=Lib.hid (fun F wx (hd:DevW D F wx g d')=>dflush_calls hd);rw[hf] at HFl;have HKI:=Lib.hid (decide_eq_true (show(k:Int)=(l.length:Int)-1 by omega));clear hf hla
    by_cases he2:e2=0
    ·subst he2
     by_cases he3:e3=0
     ·subst he3
      have HN:Hid (cwGo start (l.length-1) (k+1) (l.drop (k+1)) d3=R):=Lib.hid (by have:=HHC.out;simpa using this);go_wp2_with (first|(with_reducible (refine xval rfl 35 rfl (.bool true) (fun w=>Fx.e_eql rfl rfl rfl HKI.out w) ?_))|(with_reducible first|refine x1 rfl rfl rfl hst ?_|refine xd rfl rfl rfl hst ?_)|(with_reducible (refine callO (HFl.out) hst m ?_;clear hst m;intro w5 q5 hst m))|(with_reducible (refine callO (HWr.out) hst m ?_;clear hst m;intro w5 q5 hst m)));go_roundw
      case rel=>exact⟨k+1,d3,_,by omega,by go_num,HN,Lib.hid (by have:=HA.out;omega),m,hst⟩
      case measure=>simp[intOf];omega
     ·have HR:Hid (R=(d3,e3)):=Lib.hid (by have:=HHC.out;simp[he3] at this;exact this.symm)
      go_wp2_with (first|(with_reducible (refine xval rfl 35 rfl (.bool true) (fun w=>Fx.e_eql rfl rfl rfl HKI.out w) ?_))|(with_reducible first|refine x1 rfl rfl rfl hst ?_|refine xd rfl rfl rfl hst ?_)|(with_reducible (refine callO (HFl.out) hst m ?_;clear hst m;intro w5 q5 hst m))|(with_reducible (refine callO (HWr.out) hst m ?_;clear hst m;intro w5 q5 hst m)));go_ret;rw[HR.out];exact hst.drop.devRet m rfl
    ·have HR:Hid (R=(d2,e2)):=Lib.hid (by have:=HHC.out;simp[he2] at this;exact this.symm)
     go_wp2_with (first|(with_reducible (refine xval rfl 35 rfl (.bool true) (fun w=>Fx.e_eql rfl rfl rfl HKI.out w) ?_))|(with_reducible refine xd rfl rfl rfl hst ?_)|(with_reducible (refine callO (HFl.out) hst m ?_;clear hst m;intro w5 q5 hst m))|(with_reducible (refine callO (HWr.out) hst m ?_;clear hst m;intro w5 q5 hst m)));go_ret;rw[HR.out];exact hst.drop.devRet m rfl
   ·rw[if_neg hla] at hf
    injection hf with hf1 hf2
    subst hf1 hf2;have HKI:=Lib.hid (decide_eq_false (show ¬(k:Int)=(l.length:Int)-1 by omega));clear hla
    by_cases he3:e3=0
    ·subst he3
     have HN:Hid (cwGo start (l.length-1) (k+1) (l.drop (k+1)) d3=R):=Lib.hid (by have:=HHC.out;simpa using this);go_wp2_with (first|(with_reducible (refine xval rfl 35 rfl (.bool false) (fun w=>Fx.e_eql rfl rfl rfl HKI.out w) ?_))|(with_reducible first|refine x1 rfl rfl rfl hst ?_|refine xd rfl rfl rfl hst ?_)|(with_reducible (refine callO (HWr.out) hst m ?_;clear hst m;intro w5 q5 hst m)));go_roundw
     case rel=>exact⟨k+1,d3,_,by omega,by go_num,HN,Lib.hid (by have:=HA.out;omega),m,hst⟩
     case measure=>simp[intOf];omega
    ·have HR:Hid (R=(d3,e3)):=Lib.hid (by have:=HHC.out;simp[he3] at this;exact this.symm)
     go_wp2_with (first|(with_reducible (refine xval rfl 35 rfl (.bool false) (fun w=>Fx.e_eql rfl rfl rfl HKI.out w) ?_))|(with_reducible first|refine x1 rfl rfl rfl hst ?_|refine xd rfl rfl rfl hst ?_)|(with_reducible (refine callO (HWr.out) hst m ?_;clear hst m;intro w5 q5 hst m)));go_ret;rw[HR.out];exact hst.drop.devRet m rfl
  ·obtain rfl:k=l.length:=by omega
   have HFl:=Lib.hid (fun F wx (hd:DevW D F wx g d')=>dflush_calls hd);have HR:Hid (dFlush d'=R):=Lib.hid (by have:=HC.out;rw[List.drop_length] at this;exact this);rw[HR.out] at HFl;go_wp2_with (first|fail |(with_reducible (refine callO (HFl.out) hst m ?_;clear hst m;intro w5 q5 hst m)));go_ret;exact hst.drop.devRet m rfl
end
end Go.Proofs.YtdkeiefgkgpcbaaGreatDoor
