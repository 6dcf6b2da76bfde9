/- Steps of the proof: Holds, Stream, Clones, SmOwn. -/
import Derived.Test.YtdkeiefgkgpcbaaGreatDoorP25
set_option linter.unusedVariables false
set_option linter.unusedSimpArgs false
set_option maxRecDepth 100000
namespace Go.Proofs.YtdkeiefgkgpcbaaGreatDoor
open Go.RowKit
theorem bytesLess_total:∀(x y:List UInt8),(Op.bytesLess x y||(x==y))= !Op.bytesLess y x
 | [],[]=>by simp[Op.bytesLess]
 |_::_,[]=>by simp[Op.bytesLess]
 | [],_::_=>by simp[Op.bytesLess]
 |a::x,b::y=>by
  have ih:=bytesLess_total x y;rcases Nat.lt_trichotomy a.toNat b.toNat with h |h |h
  ·have h1:a<b:=UInt8.lt_iff_toNat_lt.2 h
   have h2:¬b<a:=fun h2=>by have:=UInt8.lt_iff_toNat_lt.1 h2;omega
   have h3:¬b=a:=fun h3=>by subst h3;omega
   simp[Op.bytesLess,h1,h2,h3]
  ·obtain rfl:a=b:=UInt8.toNat_inj.1 h
   have h1:¬a<a:=fun h1=>by have:=UInt8.lt_iff_toNat_lt.1 h1;omega
   simp only[Op.bytesLess,h1,decide_false,Bool.false_or,beq_self_eq_true,Bool.true_and,List.cons_beq_cons];exact ih
  ·have h1:b<a:=UInt8.lt_iff_toNat_lt.2 h
   have h2:¬a<b:=fun h2=>by have:=UInt8.lt_iff_toNat_lt.1 h2;omega
   have h3:¬a=b:=fun h3=>by subst h3;omega
   simp[Op.bytesLess,h1,h2,h3]
theorem lessS_total (s t:ByteArray):(lessS s t||(s.toList==t.toList))= !lessS t s:=bytesLess_total _ _
def nmErr (s:ByteArray):Int:=errOf (nameOk s) 130
theorem nmErr_ok {s:ByteArray} (h:nameOk s=true):nmErr s=0:=by unfold nmErr errOf;rw[if_pos h]
theorem nmErr_no {s:ByteArray} (h:nameOk s=false):nmErr s=130:=by unfold nmErr errOf;rw[if_neg (by rw[h];decide)]
theorem nm_calls (s:ByteArray) (hs:s.size≤maxLen) (w:World):Calls Tryz.prog 110 #[.string s] w (Ret (.int .i64 (nmErr s)) w):=names_check_calls s hs w
def holdsF (l:List ByteArray):Bool:=l.all nameOk&&(risingS l&&decide ((l.length:Int)≤4))
set_option maxHeartbeats 2000000 in
theorem holds_calls {D:Dat} {p:Option Addr} {c:Nat} {l:List ByteArray} (hr:RowAt D 9 1 strL p c l) (hsz:∀s∈l,s.size≤maxLen) (w:World) (hD:Holds D w):Calls Tryz.prog 111 #[.slice p l.length c] w (Ret (.bool (holdsF l)) w):=by
 have hst:=Sx.start0 w hD;have hcap:=hr.cap;have hbg:=hr.big;go_enter Tryz.func111,Tryz.ntmps111;go_wp2_with fail;go_loopw [3,4,7] (fun _ _ iv wr=>∃k:Nat,k≤l.length∧iv=.int .i64 k∧Hid ((l.take k).all nameOk=true∧∀i (h:i+1<l.length),i+1<k→lessS l[i] l[i+1]=true)∧Sx [] w wr [] D []) (fun _ _ iv _=>l.length-(intOf iv).toNat)
 case atStart=>exact⟨0,Nat.zero_le _,by go_num,Lib.hid ⟨by simp,fun i h h2=>by omega⟩,hst⟩
 case round=>
  clear hst;obtain⟨k,hk,rfl,HK,hst⟩:=hrel
  by_cases hlt:k<l.length
  ·obtain⟨g,off,rfl⟩:=hr.at_some hlt
   have e1:LdD D 9 ⟨g,off+k,none⟩ (.string l[k]):=hr.ld1 hlt rfl;have hk1:k-1<l.length:=by omega
   have e2:LdD D 9 ⟨g,off+(k-1),none⟩ (.string l[k-1]):=hr.ld1 hk1 rfl;have HCk:=Lib.hid (fun w=>nm_calls l[k] (hsz _ (List.getElem_mem hlt)) w)
   have HT:nameOk l[k]=false→Hid (holdsF l=false):=fun h=>Lib.hid (by
    unfold holdsF;rw[show l.all nameOk=false from List.all_eq_false.2 ⟨_,List.getElem_mem hlt,by rw[h];decide⟩]
    rfl)
   have HT2:0<k→lessS l[k-1] l[k]=false→Hid (holdsF l=false):=fun h0 h1=>Lib.hid (by
    have h2:risingS l=false:=by
     cases h:risingS l with
     |false=>rfl
     |true=>
      have:=risingS_iff.1 h (k-1) (by omega);simp only[show k-1+1=k by omega] at this;rw[h1] at this
      cases this
    unfold holdsF;rw[h2]
    simp)
   have HN:nameOk l[k]=true→(0<k→lessS l[k-1] l[k]=true)→Hid ((l.take (k+1)).all nameOk=true∧∀i (h:i+1<l.length),i+1<k+1→lessS l[i] l[i+1]=true):=fun h h0=>Lib.hid ⟨by rw[List.take_succ_eq_append_getElem hlt,List.all_append,HK.out.1,List.all_cons,h];rfl,fun i h1 h2=>by
    by_cases h3:i+1=k
    ·subst h3
     exact h0 (by omega)
    ·exact HK.out.2 i h1 (by omega)⟩
   have hsub:((k:Int)-1)=((k-1:Nat):Int)∨k=0:=by omega
   have htot:=lessS_total l[k] l[k-1];generalize l[k]=y at*;generalize l[k-1]=x at*
   cases hn:nameOk y with
   |false=>
    have HR:=HT hn;rw[nmErr_no hn] at HCk;clear HT HT2 HN hsub htot hn hk1;go_wp2_with (first|(with_reducible refine xd rfl rfl rfl hst ?_)|(with_reducible (refine callB (HCk.out _) hst ?_;clear hst;intro w' hst)));go_ret;exact⟨by rw[HR.out];rfl,hst.end⟩
   |true=>
    have HN2:=HN hn;rw[nmErr_ok hn] at HCk;clear HT HN hn
    by_cases h0:k=0
    ·subst h0
     have HR:=HN2 (fun h=>absurd h (by omega));clear HT2 HN2 hsub htot hk1 e2;go_wp2_with (first|(with_reducible refine xd rfl rfl rfl hst ?_)|(with_reducible (refine callB (HCk.out _) hst ?_;clear hst;intro w' hst)));go_roundw
     case rel=>exact⟨0+1,by omega,by go_num,HR,hst⟩
     case measure=>simp[intOf];omega
    ·have HSub:=Lib.hid (show((k:Int)-1)=((k-1:Nat):Int) by omega)
     have HG0:=Lib.hid (decide_eq_true (show(0:Int)<(k:Int) by omega));clear hsub;obtain⟨b,hb⟩:∃b,lessS x y=b:=⟨_,rfl⟩;rw[hb] at htot;have HTo:=Lib.hid htot;clear htot
     cases b with
     |false=>
      have HR:=HT2 (by omega) hb;clear HT2 HN2 hb;go_wp2_with (first|(with_reducible (refine xval rfl 17 rfl (.bool true) (fun w=>Fx.e_gtr rfl rfl rfl HG0.out w) ?_))|(with_reducible (refine xval rfl 22 rfl (.int .i64 ((k-1:Nat):Int)) (fun w=>by rw[←HSub.out];exact Fx.e_sub rfl rfl rfl (by omega) w) ?_))|(with_reducible (refine xval rfl 25 rfl (.bool true) (fun w=>e_leqs rfl rfl rfl HTo.out w) ?_))|(with_reducible refine xd rfl rfl rfl hst ?_)|(with_reducible (refine callB (HCk.out _) hst ?_;clear hst;intro w' hst)));go_ret;exact⟨by rw[HR.out];rfl,hst.end⟩
     |true=>
      have HR:=HN2 (fun _=>hb);clear HT2 HN2 hb;go_wp2_with (first|(with_reducible (refine xval rfl 17 rfl (.bool true) (fun w=>Fx.e_gtr rfl rfl rfl HG0.out w) ?_))|(with_reducible (refine xval rfl 22 rfl (.int .i64 ((k-1:Nat):Int)) (fun w=>by rw[←HSub.out];exact Fx.e_sub rfl rfl rfl (by omega) w) ?_))|(with_reducible (refine xval rfl 25 rfl (.bool false) (fun w=>e_leqs rfl rfl rfl HTo.out w) ?_))|(with_reducible refine xd rfl rfl rfl hst ?_)|(with_reducible (refine callB (HCk.out _) hst ?_;clear hst;intro w' hst)));go_roundw
      case rel=>exact⟨k+1,by omega,by go_num,HR,hst⟩
      case measure=>simp[intOf];omega
  ·obtain rfl:k=l.length:=by omega
   have hR:holdsF l=decide ((l.length:Int)≤4):=by
    have h1:=HK.out.1;rw[List.take_length] at h1;unfold holdsF;rw[h1,risingS_iff.2 (fun i h=>HK.out.2 i h (by omega))];rfl
   obtain⟨b,hb⟩:∃b,decide ((l.length:Int)≤4)=b:=⟨_,rfl⟩;rw[hb] at hR;replace hb:=Lib.hid hb;go_wp2_with (first|(with_reducible (refine xval rfl 31 rfl (.bool b) (fun w=>Fx.e_leq rfl rfl rfl hb.out w) ?_))|fail);go_ret;exact⟨by rw[hR];rfl,hst.end⟩
end Go.Proofs.YtdkeiefgkgpcbaaGreatDoor
namespace Go.Proofs.YtdkeiefgkgpcbaaGreatDoor
open Go.RowKit
structure Stm where
 name:ByteArray
 retain:Int
 holds:List ByteArray
 recs:List Rec
structure Sv where
 ph:Option Addr
 ch:Nat
 pr:Option Addr
 cr:Nat
 s:Stm
def svL (v:Sv):List Value:=[.string v.s.name,.int .i64 v.s.retain,.slice v.ph v.s.holds.length v.ch,.slice v.pr v.s.recs.length v.cr]
def svC (v:Sv):Array Value:=(svL v).toArray
def stm0:Stm:=⟨noS,0,[],[]⟩
def sv0:Sv:=⟨none,0,none,0,stm0⟩
theorem svL_one (v:Sv):(svL v).all (·.oneCell')=true:=rfl
instance encSv:Enc svL 4:=⟨fun _=>rfl,fun x v hv=>List.all_eq_true.1 (svL_one x) v hv⟩
instance aggSv:AggT 90 4:=⟨fun w=>by kernel_rfl,by kernel_rfl⟩
instance eltSv:Elt 90 4:=⟨.agg (svC sv0),72,by kernel_rfl,rfl,by decide,by decide⟩
instance sltSv:SlT 29 90:=⟨Tryz.underlying29⟩
instance zeroSv:ZeroT 90 (svC sv0):=.agg fun w=>by kernel_rfl
instance wrSv (p q:Sv):WrAt (svC p) 0 4 (.agg (svC q)) (svC q):=wr_row _ _ _ _ (svL q) rfl rfl (Nat.le_of_ble_eq_true rfl) (by kernel_rfl)
instance wrSvL (p q:Sv):WrAt (svC p) 0 4 (.agg (svL q).toArray) (svC q):=wr_row _ _ _ _ (svL q) rfl rfl (Nat.le_of_ble_eq_true rfl) (by kernel_rfl)
instance fldSv0:Fx.FldT 90 0 0:=⟨fun ad w=>by kernel_rfl⟩
instance fldSv1:Fx.FldT 90 1 1:=⟨fun ad w=>by kernel_rfl⟩
instance fldSv2:Fx.FldT 90 2 2:=⟨fun ad w=>by kernel_rfl⟩
instance fldSv3:Fx.FldT 90 3 3:=⟨fun ad w=>by kernel_rfl⟩
instance sv0' (v:Sv):CellAt (svC v) 0 (.string v.s.name):=⟨rfl⟩
instance sv1' (v:Sv):CellAt (svC v) 1 (.int .i64 v.s.retain):=⟨rfl⟩
instance sv2' (v:Sv):CellAt (svC v) 2 (.slice v.ph v.s.holds.length v.ch):=⟨rfl⟩
instance sv3' (v:Sv):CellAt (svC v) 3 (.slice v.pr v.s.recs.length v.cr):=⟨rfl⟩
instance svAll (v:Sv):PartAt (svC v) 0 4 (svL v):=⟨rfl,fun j u h=>by rw[Nat.zero_add];simpa[svC] using h⟩
instance oneRecs:OneT 88:=⟨fun w=>by kernel_rfl,by kernel_rfl⟩
structure StmAt (D:Dat) (v:Sv):Prop where
 holds:RowAt D 9 1 strL v.ph v.ch v.s.holds
 recs:RowAt D 143 37 recL v.pr v.cr v.s.recs
 name:v.s.name.size≤maxLen
 hsz:∀s∈v.s.holds,s.size≤maxLen
theorem StmAt.mono {D D':Dat} {v:Sv} (h:StmAt D v) (hs:∀p,D p→D' p):StmAt D' v:=⟨h.holds.mono hs,h.recs.mono hs,h.name,h.hsz⟩
def upR:List Rec→Bool
 |a::b::l=>decide (a.time≤b.time)&&upR (b::l)
 |_=>true
theorem upR_iff {l:List Rec}:upR l=true↔∀i (h:i+1<l.length),l[i].time≤l[i+1].time:=by
 induction l with
 |nil=>simp[upR]
 |cons a l ih=>
  cases l with
  |nil=>simp[upR]
  |cons b l=>
   simp only[upR,Bool.and_eq_true,decide_eq_true_eq];rw[ih];constructor
   ·rintro⟨h1,h2⟩ i hi
    cases i with
    |zero=>exact h1
    |succ i=>exact h2 i (by simpa using hi)
   ·intro h
    exact⟨h 0 (by simp),fun i hi=>h (i+1) (by simpa using hi)⟩
def recsOk (l:List Rec):Bool:=l.all recOk&&upR l
def stmOk (s:Stm):Bool:=nameOk s.name&&(decide (0≤s.retain)&&(decide (s.retain≤1073741824)&&(holdsF s.holds&&(decide ((s.recs.length:Int)≤64)&&recsOk s.recs))))
theorem stmOk_head {s:Stm} (h:(nameOk s.name&&(decide (0≤s.retain)&&(decide (s.retain≤1073741824)&&(holdsF s.holds&&decide ((s.recs.length:Int)≤64)))))=false):stmOk s=false:=by
 unfold stmOk
 revert h
 cases nameOk s.name<;>cases decide (0≤s.retain)<;>cases decide (s.retain≤1073741824)<;>cases holdsF s.holds<;>cases decide ((s.recs.length:Int)≤64)<;>simp
theorem stmOk_tail {s:Stm} (h:(nameOk s.name&&(decide (0≤s.retain)&&(decide (s.retain≤1073741824)&&(holdsF s.holds&&decide ((s.recs.length:Int)≤64)))))=true):stmOk s=recsOk s.recs:=by
 unfold stmOk
 revert h
 cases nameOk s.name<;>cases decide (0≤s.retain)<;>cases decide (s.retain≤1073741824)<;>cases holdsF s.holds<;>cases decide ((s.recs.length:Int)≤64)<;>simp
set_option maxHeartbeats 4000000 in
theorem smcheck_calls {D:Dat} {ph:Option Addr} {ch:Nat} {pr:Option Addr} {cr:Nat} {s:Stm} (hv:StmAt D ⟨ph,ch,pr,cr,s⟩) (w:World) (hD:Holds D w):Calls Tryz.prog 65 #[.agg (svL ⟨ph,ch,pr,cr,s⟩).toArray] w (Ret (.bool (stmOk s)) w):=by
 have hst:=Sx.start0 w hD;have HNm:=Lib.hid (fun w=>nm_calls s.name hv.name w);have HHo:=Lib.hid (fun wx hx=>(show Calls Tryz.prog 111 #[.slice ph s.holds.length ch] wx (Ret (.bool (holdsF s.holds)) wx) from holds_calls hv.holds hv.hsz wx hx));have hr:RowAt D 143 37 recL pr cr s.recs:=hv.recs;have hcap:=hr.cap;have hbg:=hr.big;have HHd:=Lib.hid (@stmOk_head s);have HTl:=Lib.hid (@stmOk_tail s);have hC:(svL ⟨ph,ch,pr,cr,s⟩).toArray=svC ⟨ph,ch,pr,cr,s⟩:=rfl;rw[hC];clear hC hv;obtain⟨b1,h1⟩:∃b,decide (nmErr s.name≠0)=b:=⟨_,rfl⟩
 have HE:nameOk s.name= !b1:=by
  rw[←h1]
  cases h:nameOk s.name with
  |true=>rw[nmErr_ok h];rfl
  |false=>rw[nmErr_no h];rfl
 obtain⟨b2,h2⟩:∃b,decide (s.retain<0)=b:=⟨_,rfl⟩;obtain⟨b3,h3⟩:∃b,decide (1073741824<s.retain)=b:=⟨_,rfl⟩;obtain⟨b4,h4⟩:∃b,holdsF s.holds=b:=⟨_,rfl⟩;obtain⟨b5,h5⟩:∃b,decide ((64:Int)<(s.recs.length:Int))=b:=⟨_,rfl⟩
 have hh:(nameOk s.name&&(decide (0≤s.retain)&&(decide (s.retain≤1073741824)&&(holdsF s.holds&&decide ((s.recs.length:Int)≤64)))))=(!b1&&(!b2&&(!b3&&(b4&& !b5)))):=by
  rw[HE,h4,←h2,←h3,←h5];have e1:decide (0≤s.retain)= !decide (s.retain<0):=by by_cases h:s.retain<0<;>simp[h]<;>omega
  have e2:decide (s.retain≤1073741824)= !decide (1073741824<s.retain):=by by_cases h:1073741824<s.retain<;>simp[h]<;>omega
  have e3:decide ((s.recs.length:Int)≤64)= !decide ((64:Int)<(s.recs.length:Int)):=by by_cases h:(64:Int)<(s.recs.length:Int)<;>simp[h]<;>omega
  rw[e1,e2,e3]
 rw[hh] at HHd HTl;rw[h4] at HHo;replace h1:=Lib.hid h1;replace h2:=Lib.hid h2;replace h3:=Lib.hid h3;replace h5:=Lib.hid h5;clear HE h4 hh;generalize nmErr s.name=E at*;go_enter Tryz.func65,Tryz.ntmps65
 cases b1 with
 |true=>
  have HR:=Lib.hid (HHd.out rfl);clear HHd HTl;go_wp2_with (first|(with_reducible (refine xval rfl 8 rfl _ (fun w=>Fx.e_neq rfl rfl rfl h1.out w) ?_))|(with_reducible (refine xval rfl 12 rfl _ (fun w=>Fx.e_lss rfl rfl rfl h2.out w) ?_))|(with_reducible (refine xval rfl 17 rfl _ (fun w=>Fx.e_gtr rfl rfl rfl h3.out w) ?_))|(with_reducible (refine xval rfl 29 rfl _ (fun w=>Fx.e_gtr rfl rfl rfl h5.out w) ?_))|(with_reducible first|refine x1 rfl rfl rfl hst ?_|(refine xba rfl rfl hst rfl ?_;clear hst;intro bb w' hst))|(with_reducible (refine callB (HNm.out _) hst ?_;clear hst;intro w' hst))|(with_reducible (refine callB (HHo.out _ hst.data) hst ?_;clear hst;intro w' hst)));go_ret;exact⟨by rw[HR.out];rfl,hst.end⟩
 |false=>
 cases b2 with
 |true=>
  have HR:=Lib.hid (HHd.out rfl);clear HHd HTl;go_wp2_with (first|(with_reducible (refine xval rfl 8 rfl _ (fun w=>Fx.e_neq rfl rfl rfl h1.out w) ?_))|(with_reducible (refine xval rfl 12 rfl _ (fun w=>Fx.e_lss rfl rfl rfl h2.out w) ?_))|(with_reducible (refine xval rfl 17 rfl _ (fun w=>Fx.e_gtr rfl rfl rfl h3.out w) ?_))|(with_reducible (refine xval rfl 29 rfl _ (fun w=>Fx.e_gtr rfl rfl rfl h5.out w) ?_))|(with_reducible first|refine x1 rfl rfl rfl hst ?_|(refine xba rfl rfl hst rfl ?_;clear hst;intro bb w' hst))|(with_reducible (refine callB (HNm.out _) hst ?_;clear hst;intro w' hst))|(with_reducible (refine callB (HHo.out _ hst.data) hst ?_;clear hst;intro w' hst)));go_ret;exact⟨by rw[HR.out];rfl,hst.end⟩
 |false=>
 cases b3 with
 |true=>
  have HR:=Lib.hid (HHd.out rfl);clear HHd HTl;go_wp2_with (first|(with_reducible (refine xval rfl 8 rfl _ (fun w=>Fx.e_neq rfl rfl rfl h1.out w) ?_))|(with_reducible (refine xval rfl 12 rfl _ (fun w=>Fx.e_lss rfl rfl rfl h2.out w) ?_))|(with_reducible (refine xval rfl 17 rfl _ (fun w=>Fx.e_gtr rfl rfl rfl h3.out w) ?_))|(with_reducible (refine xval rfl 29 rfl _ (fun w=>Fx.e_gtr rfl rfl rfl h5.out w) ?_))|(with_reducible first|refine x1 rfl rfl rfl hst ?_|(refine xba rfl rfl hst rfl ?_;clear hst;intro bb w' hst))|(with_reducible (refine callB (HNm.out _) hst ?_;clear hst;intro w' hst))|(with_reducible (refine callB (HHo.out _ hst.data) hst ?_;clear hst;intro w' hst)));go_ret;exact⟨by rw[HR.out];rfl,hst.end⟩
 |false=>
 cases b4 with
 |false=>
  have HR:=Lib.hid (HHd.out rfl);clear HHd HTl;go_wp2_with (first|(with_reducible (refine xval rfl 8 rfl _ (fun w=>Fx.e_neq rfl rfl rfl h1.out w) ?_))|(with_reducible (refine xval rfl 12 rfl _ (fun w=>Fx.e_lss rfl rfl rfl h2.out w) ?_))|(with_reducible (refine xval rfl 17 rfl _ (fun w=>Fx.e_gtr rfl rfl rfl h3.out w) ?_))|(with_reducible (refine xval rfl 29 rfl _ (fun w=>Fx.e_gtr rfl rfl rfl h5.out w) ?_))|(with_reducible first|refine x1 rfl rfl rfl hst ?_|(refine xba rfl rfl hst rfl ?_;clear hst;intro bb w' hst))|(with_reducible (refine callB (HNm.out _) hst ?_;clear hst;intro w' hst))|(with_reducible (refine callB (HHo.out _ hst.data) hst ?_;clear hst;intro w' hst)));go_ret;exact⟨by rw[HR.out];rfl,hst.end⟩
 |true=>
 cases b5 with
 |true=>
  have HR:=Lib.hid (HHd.out rfl);clear HHd HTl;go_wp2_with (first|(with_reducible (refine xval rfl 8 rfl _ (fun w=>Fx.e_neq rfl rfl rfl h1.out w) ?_))|(with_reducible (refine xval rfl 12 rfl _ (fun w=>Fx.e_lss rfl rfl rfl h2.out w) ?_))|(with_reducible (refine xval rfl 17 rfl _ (fun w=>Fx.e_gtr rfl rfl rfl h3.out w) ?_))|(with_reducible (refine xval rfl 29 rfl _ (fun w=>Fx.e_gtr rfl rfl rfl h5.out w) ?_))|(with_reducible first|refine x1 rfl rfl rfl hst ?_|(refine xba rfl rfl hst rfl ?_;clear hst;intro bb w' hst))|(with_reducible (refine callB (HNm.out _) hst ?_;clear hst;intro w' hst))|(with_reducible (refine callB (HHo.out _ hst.data) hst ?_;clear hst;intro w' hst)));go_ret;exact⟨by rw[HR.out];rfl,hst.end⟩
 |false=>
 have HR:=Lib.hid (HTl.out rfl);clear HHd HTl;obtain⟨res,hres⟩:∃res,stmOk s=res:=⟨_,rfl⟩;rw[hres] at HR ⊢;clear hres;go_wp2_with (first|(with_reducible (refine xval rfl 8 rfl _ (fun w=>Fx.e_neq rfl rfl rfl h1.out w) ?_))|(with_reducible (refine xval rfl 12 rfl _ (fun w=>Fx.e_lss rfl rfl rfl h2.out w) ?_))|(with_reducible (refine xval rfl 17 rfl _ (fun w=>Fx.e_gtr rfl rfl rfl h3.out w) ?_))|(with_reducible (refine xval rfl 29 rfl _ (fun w=>Fx.e_gtr rfl rfl rfl h5.out w) ?_))|(with_reducible first|refine x1 rfl rfl rfl hst ?_|(refine xba rfl rfl hst rfl ?_;clear hst;intro bb w' hst))|(with_reducible (refine callB (HNm.out _) hst ?_;clear hst;intro w' hst))|(with_reducible (refine callB (HHo.out _ hst.data) hst ?_;clear hst;intro w' hst)));clear h1 h2 h3 h5 HNm HHo;generalize hact:Act.mk _ _=act;have hv0:act.tmps.getD 0 undef=.agg (svC ⟨ph,ch,pr,cr,s⟩):=by rw[←hact];rfl
 have hv1:act.tmps.getD 1 undef=.pointer (some ⟨bb,0,none⟩):=by rw[←hact];rfl
 have hv32:act.tmps.getD 32 undef=.slice pr s.recs.length cr:=by rw[←hact];rfl
 have hv33:act.tmps.getD 33 undef=.int .i64 s.recs.length:=by rw[←hact];rfl
 have hv34:act.tmps.getD 34 undef=.int .i64 0:=by rw[←hact];rfl
 obtain⟨fY,hfY,hact2⟩:=act_lit act 59 (by rw[←hact];rfl) (by rw[←hact]);clear hact;have he0:fY 0=.agg (svC ⟨ph,ch,pr,cr,s⟩):=(hfY 0).symm.trans hv0;have he1:fY 1=.pointer (some ⟨bb,0,none⟩):=(hfY 1).symm.trans hv1;have he32:fY 32=.slice pr s.recs.length cr:=(hfY 32).symm.trans hv32;have he33:fY 33=.int .i64 s.recs.length:=(hfY 33).symm.trans hv33;have he34:fY 34=.int .i64 0:=(hfY 34).symm.trans hv34;simp only[show List.range 59=[0,1,2,3,4,5,6,7,8,9,10,11,12,13,14,15,16,17,18,19,20,21,22,23,24,25,26,27,28,29,30,31,32,33,34,35,36,37,38,39,40,41,42,43,44,45,46,47,48,49,50,51,52,53,54,55,56,57,58] from rfl,List.map_cons,List.map_nil,he0,he1,he32,he33,he34] at hact2;clear hfY hv0 he0 hv1 he1 hv32 he32 hv33 he33 hv34 he34;subst hact2;go_loopw [3,4,34] (fun _ _ iv wr=>∃k:Nat,k≤s.recs.length∧iv=.int .i64 k∧Hid ((s.recs.take k).all recOk=true∧∀i (h:i+1<s.recs.length),i+1<k→s.recs[i].time≤s.recs[i+1].time)∧Sx [] w wr [(bb,svC ⟨ph,ch,pr,cr,s⟩,90)] D []) (fun _ _ iv _=>s.recs.length-(intOf iv).toNat)
 case atStart=>exact⟨0,Nat.zero_le _,by go_num,Lib.hid ⟨by simp,fun i h h2=>by omega⟩,hst⟩
 case round=>
  clear hst;obtain⟨k,hk,rfl,HK,hst⟩:=hrel
  by_cases hlt:k<s.recs.length
  ·obtain⟨g,off,rfl⟩:=hr.at_some hlt
   have e1:LdD D 143 ⟨g,off+k*37,none⟩ (.agg (recL s.recs[k]).toArray):=hr.lda hlt;have hk1:k-1<s.recs.length:=by omega
   have e2:LdD D 3 ⟨g,off+(k-1)*37+0,none⟩ (.int .i64 s.recs[k-1].time):=hr.ldf hk1 0 rfl rfl;have HRc:=Lib.hid (fun w=>record_calls s.recs[k] w);obtain⟨b,hb⟩:∃b,(!recOk s.recs[k]||(decide (0<k)&&decide (s.recs[k].time<s.recs[k-1].time)))=b:=⟨_,rfl⟩
   have HT:b=true→Hid (res=false):=fun h=>Lib.hid (by
    rw[HR.out];rw[h] at hb;unfold recsOk;rcases Bool.or_eq_true_iff.1 hb with h1 |h1
    ·rw[show s.recs.all recOk=false from List.all_eq_false.2 ⟨_,List.getElem_mem hlt,by simpa using h1⟩]
     rfl
    ·obtain⟨h2,h3⟩:=Bool.and_eq_true_iff.1 h1
     have h2:=of_decide_eq_true h2;have h3:=of_decide_eq_true h3
     have:upR s.recs=false:=by
      cases hu:upR s.recs with
      |false=>rfl
      |true=>
       have:=upR_iff.1 hu (k-1) (by omega);simp only[show k-1+1=k by omega] at this;omega
     rw[this]
     simp)
   have HN:b=false→Hid ((s.recs.take (k+1)).all recOk=true∧∀i (h:i+1<s.recs.length),i+1<k+1→s.recs[i].time≤s.recs[i+1].time):=fun h=>Lib.hid (by
    rw[h] at hb;obtain⟨h1,h2⟩:=Bool.or_eq_false_iff.1 hb;refine⟨by rw[List.take_succ_eq_append_getElem hlt,List.all_append,HK.out.1,List.all_cons,show recOk s.recs[k]=true by simpa using h1];rfl,fun i h3 h4=>?_⟩
    by_cases h5:i+1=k
    ·subst h5
     have h6:decide (s.recs[i+1].time<s.recs[i+1-1].time)=false:=by simpa using h2
     have h7:=of_decide_eq_false h6;simp only[show i+1-1=i by omega] at h7;omega
    ·exact HK.out.2 i h3 (by omega))
   have hcs:(recOk s.recs[k]=false∧b=true)∨(recOk s.recs[k]=true∧k=0∧b=false)∨(recOk s.recs[k]=true∧0<k∧decide (s.recs[k].time<s.recs[k-1].time)=true∧b=true)∨(recOk s.recs[k]=true∧0<k∧decide (s.recs[k].time<s.recs[k-1].time)=false∧b=false):=by
    subst hb
    by_cases h0:k=0
    ·cases recOk s.recs[k]<;>simp[h0]
    ·have h1:0<k:=by omega
     cases recOk s.recs[k]<;>cases decide (s.recs[k].time<s.recs[k-1].time)<;>simp[h1]
   clear hb;generalize s.recs[k]=x at*;generalize s.recs[k-1]=y at*;go_wp2_with (with_reducible first|refine xd rfl rfl rfl hst ?_|(refine xsa rfl rfl rfl rfl hst ?_;clear hst;intro w' hst)|(refine xnw rfl rfl hst ?_;clear hst;intro bn w' hst));refine Fx.goP (fun _=>false) (fun i=> !(i==0||i==1||i==8||i==10||i==15)) (fun _=>false) (List.range 19) rfl hst (by kernel_rfl) (by kernel_rfl) (by kernel_rfl) (by kernel_rfl) (by kernel_rfl) (fun L' a'=>L'=[(bn,recC x,143),(bb,svC ⟨ph,ch,some ⟨g,off,none⟩,cr,s⟩,90)]∧a'.tmps.size=59∧a'.defers=[]∧[0,1,2,3,4,5,6,7,8,9,10,11,12,13,14,15,16,17,18,19,20,21,22,23,24,25,26,27,28,29,30,31,32,33,34,57].map (fun i=>a'.tmps.getD i undef)=[.agg (svC ⟨ph,ch,some ⟨g,off,none⟩,cr,s⟩),.pointer (some ⟨bb,0,none⟩),u2,.int .i64 k,.pointer (some ⟨bn,0,none⟩),fY 5,fY 6,fY 7,fY 8,fY 9,fY 10,fY 11,fY 12,fY 13,fY 14,fY 15,fY 16,fY 17,fY 18,fY 19,fY 20,fY 21,fY 22,fY 23,fY 24,fY 25,fY 26,fY 27,fY 28,fY 29,fY 30,fY 31,.slice (some ⟨g,off,none⟩) s.recs.length cr,.int .i64 s.recs.length,.int .i64 k,.bool b]) ?_ ?_
   ·show Fx.wpLX _ _ _ [0,1,2,3,4,5,6,7,8,9,10,11,12,13,14,15,16,17,18] _ _
    clear hst HT HN HK;rcases hcs with⟨h1,rfl⟩ |⟨h1,rfl,rfl⟩ |⟨h1,h0,hlt2,rfl⟩ |⟨h1,h0,hlt2,rfl⟩
    ·rw[h1] at HRc
     refine Fx.lA rfl rfl rfl rfl rfl rfl ?_;refine Fx.callB rfl rfl (fun w h=>h) (fun w h=>HRc.out w) rfl rfl (fun w=>by kernel_rfl) ?_;refine Fx.val rfl rfl rfl rfl (v:=.bool true) (Fx.e_notT rfl rfl) ?_
     repeat(first|refine Fx.valN (v:=.bool true) rfl rfl rfl rfl (Fx.e_pkT rfl rfl rfl) ?_|refine Fx.valN (v:=.bool true) rfl rfl rfl rfl (Fx.e_mv rfl rfl) ?_|refine Fx.skipN rfl rfl rfl (by kernel_rfl) rfl ?_|refine Fx.skipBN rfl rfl rfl (by kernel_rfl) (fun w h=>h) ?_)
     exact⟨rfl,by kernel_rfl,by kernel_rfl,by kernel_rfl⟩
    ·rw[h1] at HRc
     refine Fx.lA rfl rfl rfl rfl rfl rfl ?_;refine Fx.callB rfl rfl (fun w h=>h) (fun w h=>HRc.out w) rfl rfl (fun w=>by kernel_rfl) ?_;refine Fx.val rfl rfl rfl rfl (v:=.bool false) (Fx.e_notF rfl rfl) ?_;refine Fx.val rfl rfl rfl rfl (v:=.bool false) (Fx.e_mv rfl rfl) ?_;refine Fx.val rfl rfl rfl (by kernel_rfl) (v:=.int .i64 (0:Nat)) (Fx.e_mv rfl rfl) ?_;refine Fx.val rfl rfl rfl (by kernel_rfl) (v:=.bool false) (Fx.e_gtr rfl rfl rfl (by decide)) ?_;refine Fx.val rfl rfl rfl (by kernel_rfl) (v:=.bool false) (Fx.e_mv rfl rfl) ?_
     iterate 10 (first|refine Fx.skipN rfl rfl rfl (by kernel_rfl) rfl ?_|refine Fx.skipBN rfl rfl rfl (by kernel_rfl) (fun w h=>h) ?_)
     refine Fx.val rfl rfl rfl (by kernel_rfl) (v:=.bool false) (Fx.e_pkF rfl rfl rfl) ?_;refine Fx.val rfl rfl rfl rfl (v:=.bool false) (Fx.e_pkF rfl rfl rfl) ?_;exact⟨rfl,by kernel_rfl,by kernel_rfl,by kernel_rfl⟩
    all_goals
     rw[h1] at HRc;have HS1:=Lib.hid (show((k:Int)-1)=((k-1:Nat):Int) by omega);refine Fx.lA rfl rfl rfl rfl rfl rfl ?_;refine Fx.callB rfl rfl (fun w h=>h) (fun w h=>HRc.out w) rfl rfl (fun w=>by kernel_rfl) ?_;refine Fx.val rfl rfl rfl rfl (v:=.bool false) (Fx.e_notF rfl rfl) ?_;refine Fx.val rfl rfl rfl rfl (v:=.bool false) (Fx.e_mv rfl rfl) ?_;refine Fx.val rfl rfl rfl (by kernel_rfl) (v:=.int .i64 k) (Fx.e_mv rfl rfl) ?_;refine Fx.val rfl rfl rfl (by kernel_rfl) (v:=.bool true) (Fx.e_gtr rfl rfl rfl (decide_eq_true (by omega))) ?_;refine Fx.val rfl rfl rfl (by kernel_rfl) (v:=.bool true) (Fx.e_mv rfl rfl) ?_;refine Fx.fa rfl rfl rfl (by kernel_rfl) rfl rfl ?_;refine Fx.l1 rfl rfl rfl (by kernel_rfl) rfl rfl ?_;refine Fx.fa rfl rfl rfl (by kernel_rfl) rfl rfl ?_;refine Fx.l1 rfl rfl rfl (by kernel_rfl) rfl rfl ?_;refine Fx.val rfl rfl rfl (by kernel_rfl) (v:=.int .i64 k) (Fx.e_mv rfl rfl) ?_;refine Fx.val rfl rfl rfl (by kernel_rfl) (v:=.int .i64 ((k-1:Nat):Int)) (fun w=>by rw[←HS1.out];exact Fx.e_sub rfl rfl rfl (by omega) w) ?_;refine Fx.ix rfl rfl rfl (by kernel_rfl) rfl rfl rfl hk1 ?_;refine Fx.fa rfl rfl rfl (by kernel_rfl) rfl rfl ?_;refine Fx.lD rfl rfl rfl (by kernel_rfl) rfl rfl ?_;refine Fx.val rfl rfl rfl (by kernel_rfl) (Fx.e_lss rfl rfl rfl hlt2) ?_;refine Fx.val rfl rfl rfl (by kernel_rfl) (Fx.e_pkT rfl rfl rfl) ?_;refine Fx.val rfl rfl rfl rfl (Fx.e_pkF rfl rfl rfl) ?_;exact⟨rfl,by kernel_rfl,by kernel_rfl,by kernel_rfl⟩
   ·clear hcs hst
    rintro L' a1 ⟨rfl,hsz,hdf,hvs⟩ w' hst;simp only[List.map_cons,List.map_nil,List.cons.injEq,and_true] at hvs;obtain⟨hv0,hv1,hv2,hv3,hv4,hv5,hv6,hv7,hv8,hv9,hv10,hv11,hv12,hv13,hv14,hv15,hv16,hv17,hv18,hv19,hv20,hv21,hv22,hv23,hv24,hv25,hv26,hv27,hv28,hv29,hv30,hv31,hv32,hv33,hv34,hv57⟩:=hvs;obtain⟨fZ,hfZ,hact2⟩:=act_lit a1 59 hsz hdf;clear hsz hdf;have he0:fZ 0=.agg (svC ⟨ph,ch,some ⟨g,off,none⟩,cr,s⟩):=(hfZ 0).symm.trans hv0;have he1:fZ 1=.pointer (some ⟨bb,0,none⟩):=(hfZ 1).symm.trans hv1;have he2:fZ 2=u2:=(hfZ 2).symm.trans hv2;have he3:fZ 3=.int .i64 k:=(hfZ 3).symm.trans hv3;have he4:fZ 4=.pointer (some ⟨bn,0,none⟩):=(hfZ 4).symm.trans hv4;have he5:fZ 5=fY 5:=(hfZ 5).symm.trans hv5;have he6:fZ 6=fY 6:=(hfZ 6).symm.trans hv6;have he7:fZ 7=fY 7:=(hfZ 7).symm.trans hv7;have he8:fZ 8=fY 8:=(hfZ 8).symm.trans hv8;have he9:fZ 9=fY 9:=(hfZ 9).symm.trans hv9;have he10:fZ 10=fY 10:=(hfZ 10).symm.trans hv10;have he11:fZ 11=fY 11:=(hfZ 11).symm.trans hv11;have he12:fZ 12=fY 12:=(hfZ 12).symm.trans hv12;have he13:fZ 13=fY 13:=(hfZ 13).symm.trans hv13;have he14:fZ 14=fY 14:=(hfZ 14).symm.trans hv14;have he15:fZ 15=fY 15:=(hfZ 15).symm.trans hv15;have he16:fZ 16=fY 16:=(hfZ 16).symm.trans hv16;have he17:fZ 17=fY 17:=(hfZ 17).symm.trans hv17;have he18:fZ 18=fY 18:=(hfZ 18).symm.trans hv18;have he19:fZ 19=fY 19:=(hfZ 19).symm.trans hv19;have he20:fZ 20=fY 20:=(hfZ 20).symm.trans hv20;have he21:fZ 21=fY 21:=(hfZ 21).symm.trans hv21;have he22:fZ 22=fY 22:=(hfZ 22).symm.trans hv22;have he23:fZ 23=fY 23:=(hfZ 23).symm.trans hv23;have he24:fZ 24=fY 24:=(hfZ 24).symm.trans hv24;have he25:fZ 25=fY 25:=(hfZ 25).symm.trans hv25;have he26:fZ 26=fY 26:=(hfZ 26).symm.trans hv26;have he27:fZ 27=fY 27:=(hfZ 27).symm.trans hv27;have he28:fZ 28=fY 28:=(hfZ 28).symm.trans hv28;have he29:fZ 29=fY 29:=(hfZ 29).symm.trans hv29;have he30:fZ 30=fY 30:=(hfZ 30).symm.trans hv30;have he31:fZ 31=fY 31:=(hfZ 31).symm.trans hv31;have he32:fZ 32=.slice (some ⟨g,off,none⟩) s.recs.length cr:=(hfZ 32).symm.trans hv32;have he33:fZ 33=.int .i64 s.recs.length:=(hfZ 33).symm.trans hv33;have he34:fZ 34=.int .i64 k:=(hfZ 34).symm.trans hv34;have he57:fZ 57=.bool b:=(hfZ 57).symm.trans hv57;simp only[show List.range 59=[0,1,2,3,4,5,6,7,8,9,10,11,12,13,14,15,16,17,18,19,20,21,22,23,24,25,26,27,28,29,30,31,32,33,34,35,36,37,38,39,40,41,42,43,44,45,46,47,48,49,50,51,52,53,54,55,56,57,58] from rfl,List.map_cons,List.map_nil,he0,he1,he2,he3,he4,he5,he6,he7,he8,he9,he10,he11,he12,he13,he14,he15,he16,he17,he18,he19,he20,he21,he22,he23,he24,he25,he26,he27,he28,he29,he30,he31,he32,he33,he34,he57] at hact2;clear hfZ hv0 he0 hv1 he1 hv2 he2 hv3 he3 hv4 he4 hv5 he5 hv6 he6 hv7 he7 hv8 he8 hv9 he9 hv10 he10 hv11 he11 hv12 he12 hv13 he13 hv14 he14 hv15 he15 hv16 he16 hv17 he17 hv18 he18 hv19 he19 hv20 he20 hv21 he21 hv22 he22 hv23 he23 hv24 he24 hv25 he25 hv26 he26 hv27 he27 hv28 he28 hv29 he29 hv30 he30 hv31 he31 hv32 he32 hv33 he33 hv34 he34 hv57 he57;subst hact2
    cases b with
    |true=>
     have HR2:=HT rfl;clear HT HN;go_wp2_with fail;go_ret;exact⟨by rw[HR2.out];rfl,hst.end⟩
    |false=>
     have HN2:=HN rfl;clear HT HN;go_wp2_with fail;go_roundw
     case rel=>exact⟨k+1,by omega,by go_num,HN2,hst.drop⟩
     case measure=>simp[intOf];omega
  ·obtain rfl:k=s.recs.length:=by omega
   have h1:res=true:=by
    have h2:=HK.out.1;rw[List.take_length] at h2;rw[HR.out];unfold recsOk;rw[h2,upR_iff.2 (fun i h=>HK.out.2 i h (by omega))];rfl
   go_wp2_with fail;go_ret;exact⟨by rw[h1];rfl,hst.end⟩
end Go.Proofs.YtdkeiefgkgpcbaaGreatDoor
namespace Go.Proofs.YtdkeiefgkgpcbaaGreatDoor
open Go.RowKit
theorem cloneStr_calls {D:Dat} {p:Option Addr} {c:Nat} {l:List ByteArray} (h:RowAt D 9 1 strL p c l) (w:World) (hD:Holds D w):Calls Tryz.prog 143 #[.slice p l.length c] w (OwnRet 9 1 strL l w):=by
 have hbig:=h.big
 cases p with
 |none=>
  obtain rfl:l=[]:=h.nil_of rfl;go_enter Tryz.func143,Tryz.ntmps143;go_wp2_with (refine xval rfl 4 rfl (.bool true) (fun w=>by kernel_rfl) ?_);go_ret;exact⟨_,[],rfl,OwnR.none _,(Sx.startN w).st⟩
 |some ad=>
  have hst:=Sx.start0 w hD;have hsrc:∀w',Holds D w'→Src w' strL (.slice (some ad) l.length c) l:=fun w' hw=>RowD.src ⟨_,_,rfl,h⟩ hw (by decide)
  go_enter Tryz.func143,Tryz.ntmps143;go_wp2_with (first|(with_reducible refine xval rfl 4 rfl (.bool false) (fun w=>by kernel_rfl) ?_)|(with_reducible refine xmk rfl 5 rfl hst #[] 9 (fun b=>.slice (some ⟨b,0,none⟩) 0 0) (fun w=>by kernel_rfl) ?_;clear hst;intro b w' hst)|(with_reducible refine xap0 (T:=9) (TS:=37) rfl rfl rfl hst (hsrc _ hst.data) rfl hbig ?_;clear hst;intro p2 c2 w2 Lo hown hst));go_ret;exact⟨_,Lo,rfl,hown,hst.takeL.st⟩
theorem cloneRec_calls {D:Dat} {p:Option Addr} {c:Nat} {l:List Rec} (h:RowAt D 143 37 recL p c l) (w:World) (hD:Holds D w):Calls Tryz.prog 144 #[.slice p l.length c] w (OwnRet 143 37 recL l w):=by
 have hbig:=h.big
 cases p with
 |none=>
  obtain rfl:l=[]:=h.nil_of rfl;go_enter Tryz.func144,Tryz.ntmps144;go_wp2_with (refine xval rfl 4 rfl (.bool true) (fun w=>by kernel_rfl) ?_);go_ret;exact⟨_,[],rfl,OwnR.none _,(Sx.startN w).st⟩
 |some ad=>
  have hst:=Sx.start0 w hD;have hsrc:∀w',Holds D w'→Src w' recL (.slice (some ad) l.length c) l:=fun w' hw=>RowD.src ⟨_,_,rfl,h⟩ hw (by decide)
  go_enter Tryz.func144,Tryz.ntmps144;go_wp2_with (first|(with_reducible refine xval rfl 4 rfl (.bool false) (fun w=>by kernel_rfl) ?_)|(with_reducible refine xmk rfl 5 rfl hst #[] 143 (fun b=>.slice (some ⟨b,0,none⟩) 0 0) (fun w=>by kernel_rfl) ?_;clear hst;intro b w' hst)|(with_reducible refine xap0 (T:=143) (TS:=88) rfl rfl rfl hst (hsrc _ hst.data) rfl hbig ?_;clear hst;intro p2 c2 w2 Lo hown hst));go_ret;exact⟨_,Lo,rfl,hown,hst.takeL.st⟩
theorem cloneSv_calls {D:Dat} {p:Option Addr} {c:Nat} {l:List Sv} (h:RowAt D 90 4 svL p c l) (w:World) (hD:Holds D w):Calls Tryz.prog 69 #[.slice p l.length c] w (OwnRet 90 4 svL l w):=by
 have hbig:=h.big
 cases p with
 |none=>
  obtain rfl:l=[]:=h.nil_of rfl;go_enter Tryz.func69,Tryz.ntmps69;go_wp2_with (refine xval rfl 4 rfl (.bool true) (fun w=>by kernel_rfl) ?_);go_ret;exact⟨_,[],rfl,OwnR.none _,(Sx.startN w).st⟩
 |some ad=>
  have hst:=Sx.start0 w hD;have hsrc:∀w',Holds D w'→Src w' svL (.slice (some ad) l.length c) l:=fun w' hw=>RowD.src ⟨_,_,rfl,h⟩ hw (by decide)
  go_enter Tryz.func69,Tryz.ntmps69;go_wp2_with (first|(with_reducible refine xval rfl 4 rfl (.bool false) (fun w=>by kernel_rfl) ?_)|(with_reducible refine xmk rfl 5 rfl hst #[] 90 (fun b=>.slice (some ⟨b,0,none⟩) 0 0) (fun w=>by kernel_rfl) ?_;clear hst;intro b w' hst)|(with_reducible refine xap0 (T:=90) (TS:=29) rfl rfl rfl hst (hsrc _ hst.data) rfl hbig ?_;clear hst;intro p2 c2 w2 Lo hown hst));go_ret;exact⟨_,Lo,rfl,hown,hst.takeL.st⟩
end Go.Proofs.YtdkeiefgkgpcbaaGreatDoor
namespace Go.Proofs.YtdkeiefgkgpcbaaGreatDoor
open Go.RowKit
def sC (n:ByteArray) (r:Int) (h q:Value):Array Value:=#[.string n,.int .i64 r,h,q]
section
variable (n:ByteArray) (r:Int) (h q:Value)
instance sc0:CellAt (sC n r h q) 0 (.string n):=⟨rfl⟩
instance sc1:CellAt (sC n r h q) 1 (.int .i64 r):=⟨rfl⟩
instance sc2:CellAt (sC n r h q) 2 h:=⟨rfl⟩
instance sc3:CellAt (sC n r h q) 3 q:=⟨rfl⟩
instance scAll:PartAt (sC n r h q) 0 4 [.string n,.int .i64 r,h,q]:=⟨rfl,fun j u h=>by rw[Nat.zero_add];simpa[sC] using h⟩
instance scw1 (k:Int):WrAt (sC n r h q) 1 1 (.int .i64 k) (sC n k h q):=wr_one _ _ _ _ rfl rfl (Nat.le_of_ble_eq_true rfl) rfl
instance scw2 (p:Option Addr) (m c:Nat):WrAt (sC n r h q) 2 1 (.slice p m c) (sC n r (.slice p m c) q):=wr_one _ _ _ _ rfl rfl (Nat.le_of_ble_eq_true rfl) rfl
instance scw3 (p:Option Addr) (m c:Nat):WrAt (sC n r h q) 3 1 (.slice p m c) (sC n r h (.slice p m c)):=wr_one _ _ _ _ rfl rfl (Nat.le_of_ble_eq_true rfl) rfl
instance scwAll (n':ByteArray) (r':Int) (p p':Option Addr) (m c m' c':Nat):WrAt (sC n r h q) 0 4 (.agg [.string n',.int .i64 r',.slice p m c,.slice p' m' c'].toArray) (sC n' r' (.slice p m c) (.slice p' m' c')):=wr_row _ _ _ _ [.string n',.int .i64 r',.slice p m c,.slice p' m' c'] rfl rfl (Nat.le_of_ble_eq_true rfl) (by kernel_rfl)
end
instance (priority:=2000) zeroSc:ZeroT 90 (sC noS 0 (.slice none 0 0) (.slice none 0 0)):=.agg fun w=>by kernel_rfl
def NewPost (w:World) (s:ByteArray) (e:Ending) (w':World):Prop:=
 e=.returned (.tuple #[.agg (svL (if nameOk s then⟨none,0,none,0,⟨s,0,[],[]⟩⟩ else sv0)).toArray,.int .i64 (nmErr s)])∧Below w.heap.size w w'
theorem snew_run (s:ByteArray) (hs:s.size≤maxLen) (w:World):Calls Tryz.prog 115 #[.string s] w (NewPost w s):=by
 have hst:=Sx.startN w;have HN:=Lib.hid (fun w=>nm_calls s hs w)
 cases h:nameOk s with
 |false=>
  have HR:Hid ((svL (if nameOk s then⟨none,0,none,0,⟨s,0,[],[]⟩⟩ else sv0)).toArray=#[.string noS,.int .i64 0,.slice none 0 0,.slice none 0 0]∧nmErr s=130):=Lib.hid ⟨by rw[if_neg (by rw[h];decide)];rfl,nmErr_no h⟩;rw[nmErr_no h] at HN;clear h;go_enter Tryz.func115,Tryz.ntmps115;go_wp2_with (first|(with_reducible (refine xval rfl 9 rfl (.agg [.string noS,.int .i64 0,.slice none 0 0,.slice none 0 0].toArray) (fun w=>by kernel_rfl) ?_))|(with_reducible first|(refine xsa rfl rfl rfl rfl hst ?_;clear hst;intro w' hst)|(refine xnw rfl rfl hst ?_;clear hst;intro bn w' hst))|(with_reducible (refine callB (HN.out _) hst ?_;clear hst;intro w' hst)));refine bodyPost_ret (results2 rfl (res_agg rfl hst.st.has) res_tmp) rfl ⟨by rw[HR.out.1,HR.out.2];rfl,hst.end⟩
 |true=>
  have HR:Hid ((svL (if nameOk s then⟨none,0,none,0,⟨s,0,[],[]⟩⟩ else sv0)).toArray=#[.string s,.int .i64 0,.slice none 0 0,.slice none 0 0]∧nmErr s=0):=Lib.hid ⟨by rw[if_pos h];rfl,nmErr_ok h⟩;rw[nmErr_ok h] at HN;clear h;go_enter Tryz.func115,Tryz.ntmps115;go_wp2_with (first|(with_reducible (refine xval rfl 12 rfl (.agg [.string s,.int .i64 0,.slice none 0 0,.slice none 0 0].toArray) (fun w=>by kernel_rfl) ?_))|(with_reducible first|(refine xsa rfl rfl rfl rfl hst ?_;clear hst;intro w' hst)|(refine xnw rfl rfl hst ?_;clear hst;intro bn w' hst))|(with_reducible (refine callB (HN.out _) hst ?_;clear hst;intro w' hst)));refine bodyPost_ret (results2 rfl (res_agg rfl hst.st.has) res_tmp) rfl ⟨by rw[HR.out.1,HR.out.2];rfl,hst.end⟩
def OwnSm (w:World) (s:Stm) (e:Ending) (w':World):Prop:=
 ∃v' LoH LoR,e=.returned (.agg (svL v').toArray)∧v'.s=s∧OwnR 9 1 strL LoH (.slice v'.ph s.holds.length v'.ch) s.holds∧OwnR 143 37 recL LoR (.slice v'.pr s.recs.length v'.cr) s.recs∧St [] w w' (LoH++LoR)
theorem perm_two (a b:Blk) (X Y:List Blk):(X++(a::b::Y)).Perm (a::b::(Y++X)):=perm_count fun x=>by
 simp only[List.count_append,List.count_cons];omega
set_option maxHeartbeats 1000000 in
theorem own_calls {D:Dat} {v:Sv} (hv:StmAt D v) (w:World) (hD:Holds D w):Calls Tryz.prog 116 #[.agg (svL v).toArray] w (OwnSm w v.s):=by
 have hst:=Sx.start0 w hD;have HH:=Lib.hid (fun wx hx=>cloneStr_calls hv.holds wx hx);have HR:=Lib.hid (fun wx hx=>cloneRec_calls hv.recs wx hx);clear hv;obtain⟨ph,ch,pr,cr,s⟩:=v;simp only at HH HR;have hC:(svL ⟨ph,ch,pr,cr,s⟩).toArray=sC s.name s.retain (.slice ph s.holds.length ch) (.slice pr s.recs.length cr):=rfl;rw[hC];clear hC;go_enter Tryz.func116,Tryz.ntmps116;go_wp2_with (with_reducible first|(refine xba rfl rfl hst rfl ?_;clear hst;intro bb w' hst)|(refine xnw rfl rfl hst ?_;clear hst;intro bn w' hst));refine Fx.go (fun i=>i==2||i==5||i==7||i==9) (fun i=> !(i==1||i==4)) (fun i=>i==7||i==9) [0,1,3,4,2,6,5,7,8,9] rfl hst (by kernel_rfl) (by kernel_rfl) (by kernel_rfl) (by kernel_rfl) (by kernel_rfl) ?_;refine Fx.fa rfl rfl rfl rfl rfl rfl ?_;refine Fx.l1 rfl rfl rfl rfl rfl rfl ?_;refine Fx.fa rfl rfl rfl rfl rfl rfl ?_;refine Fx.l1 rfl rfl rfl rfl rfl rfl ?_;refine Fx.callS rfl rfl (fun L' u=>∃p c LoH,L'=(bn,sC noS 0 (.slice none 0 0) (.slice none 0 0),90)::(bb,sC s.name s.retain (.slice ph s.holds.length ch) (.slice pr s.recs.length cr),90)::([]++LoH)∧u=.slice p s.holds.length c∧OwnR 9 1 strL LoH (.slice p s.holds.length c) s.holds) (f:=143) (args:=#[.slice ph s.holds.length ch]) (fun w hw=>?_) (fun w=>by kernel_rfl) ?_
 ·refine(HH.out w hw.data).mono ?_
  rintro e w' ⟨v,Lo,rfl,hown,hs⟩;obtain⟨p,c,rfl⟩:=hown.slice;exact⟨_,_,rfl,⟨p,c,Lo,rfl,rfl,hown⟩,(hw.take hs).perm (perm_two _ _ _ _)⟩
 rintro L' u ⟨p1,c1,LoH,rfl,rfl,hH⟩;refine⟨Or.inr (fun w h=>(show Sx [] _ w (([_,_]:List Blk)++LoH) D [] from h).takeL),?_⟩;refine Fx.fa rfl rfl rfl rfl rfl rfl ?_;refine Fx.callS rfl rfl (fun L' u=>∃p c LoR,L'=(bn,sC noS 0 (.slice none 0 0) (.slice none 0 0),90)::(bb,sC s.name s.retain (.slice ph s.holds.length ch) (.slice pr s.recs.length cr),90)::(LoH++LoR)∧u=.slice p s.recs.length c∧OwnR 143 37 recL LoR (.slice p s.recs.length c) s.recs) (f:=144) (args:=#[.slice pr s.recs.length cr]) (fun w hw=>?_) (fun w=>by kernel_rfl) ?_
 ·refine(HR.out w hw.data).mono ?_
  rintro e w' ⟨v,Lo,rfl,hown,hs⟩;obtain⟨p,c,rfl⟩:=hown.slice;exact⟨_,_,rfl,⟨p,c,Lo,rfl,rfl,hown⟩,(hw.take hs).perm (perm_two _ _ _ _)⟩
 rintro L' u ⟨p2,c2,LoR,rfl,rfl,hR⟩;refine⟨Or.inr (fun w h=>(show Sx [] _ w (([_,_]:List Blk)++(LoH++LoR)) D [] from h).takeL),?_⟩;refine Fx.stL rfl rfl rfl rfl rfl (Or.inl rfl) ?_;refine Fx.fa rfl rfl rfl rfl rfl rfl ?_;refine Fx.stL rfl rfl rfl rfl rfl (Or.inl rfl) ?_;clear hst;intro w' hst;generalize hact:Fx.mkO _ _=act;have hv1:act.tmps.getD 1 undef=.pointer (some ⟨bb,0,none⟩):=by rw[←hact];kernel_rfl
 have hv2:act.tmps.getD 2 undef=.pointer (some ⟨bn,0,none⟩):=by rw[←hact];kernel_rfl
 obtain⟨fZ,hfZ,hact2⟩:=act_lit act 12 (by rw[←hact];kernel_rfl) (by rw[←hact];kernel_rfl);clear hact;have he1:fZ 1=.pointer (some ⟨bb,0,none⟩):=(hfZ 1).symm.trans hv1;have he2:fZ 2=.pointer (some ⟨bn,0,none⟩):=(hfZ 2).symm.trans hv2;simp only[show List.range 12=[0,1,2,3,4,5,6,7,8,9,10,11] from rfl,List.map_cons,List.map_nil,he1,he2] at hact2;clear hfZ hv1 he1 hv2 he2;subst hact2;go_wp2_with (with_reducible first|refine xa rfl rfl rfl hst ?_|(refine xsa rfl rfl rfl rfl hst ?_;clear hst;intro w' hst));refine bodyPost_ret (results1 rfl (res_agg rfl hst.st.has)) rfl ⟨⟨p1,c1,p2,c2,s⟩,LoH,LoR,rfl,rfl,hH,hR,hst.drop.drop.st⟩
end Go.Proofs.YtdkeiefgkgpcbaaGreatDoor
