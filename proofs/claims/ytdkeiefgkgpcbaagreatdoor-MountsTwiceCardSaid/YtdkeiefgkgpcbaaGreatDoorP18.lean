/- Steps of the proof: PlanCheck, PlanLaid, PlanNeed. -/
import Derived.Test.YtdkeiefgkgpcbaaGreatDoorP17
set_option linter.unusedVariables false
set_option linter.unusedSimpArgs false
set_option maxRecDepth 100000
namespace Go.Proofs.YtdkeiefgkgpcbaaGreatDoor
open Go.RowKit
theorem act_lit (act:Act) (n:Nat) (hn:act.tmps.size=n) (hd:act.defers=[]):∃f:Nat→Value,(∀i,act.tmps.getD i undef=f i)∧act=⟨((List.range n).map f).toArray,[]⟩:=by
 refine⟨fun i=>act.tmps.getD i undef,fun i=>rfl,?_⟩;obtain⟨t,d⟩:=act;simp only at hn hd;subst hn hd;congr 1;apply Array.ext
 ·simp
 ·intro i h1 h2
  simp[h1]
structure Pu where
 e:Ent
 text:ByteArray
abbrev puL (p:Pu):List Value:=entL p.e++[.string p.text]
abbrev puC (p:Pu):Array Value:=(puL p).toArray
def pu0:Pu:=⟨ent0,⟨#[]⟩⟩
theorem puL_one (p:Pu):(puL p).all (·.oneCell')=true:=rfl
instance encPu:Enc puL 40:=⟨fun _=>rfl,fun x v hv=>List.all_eq_true.1 (puL_one x) v hv⟩
instance aggPu:AggT 68 40:=⟨fun w=>by kernel_rfl,by kernel_rfl⟩
instance eltPu:Elt 68 40:=⟨.agg (puC pu0),112,by kernel_rfl,rfl,by decide,by decide⟩
instance zeroPu:ZeroT 68 (puC pu0):=.agg fun w=>by kernel_rfl
instance wrPu (p q:Pu):WrAt (puC p) 0 40 (.agg (puC q)) (puC q):=wr_row _ _ _ _ (puL q) rfl rfl (Nat.le_of_ble_eq_true rfl) (by kernel_rfl)
instance fldPu0:Fx.FldT 68 0 0:=⟨fun ad w=>by kernel_rfl⟩
instance fldPu1:Fx.FldT 68 1 39:=⟨fun ad w=>by kernel_rfl⟩
instance fldEn0:Fx.FldT 66 0 0:=⟨fun ad w=>by kernel_rfl⟩
instance fldEn3:Fx.FldT 66 3 3:=⟨fun ad w=>by kernel_rfl⟩
instance fldEn5:Fx.FldT 66 5 5:=⟨fun ad w=>by kernel_rfl⟩
instance puc0 (p:Pu):CellAt (puC p) 0 (.int .i64 p.e.kind):=⟨rfl⟩
instance puc3 (p:Pu):CellAt (puC p) 3 (.int .i64 p.e.len):=⟨rfl⟩
instance puc39 (p:Pu):CellAt (puC p) 39 (.string p.text):=⟨rfl⟩
instance pupAll (p:Pu):PartAt (puC p) 0 40 (puL p):=⟨rfl,fun j v h=>by rw[Nat.zero_add];simpa using h⟩
instance pupEnt (p:Pu):PartAt (puC p) 0 39 (entL p.e):=part_mid [] (entL p.e) [.string p.text] 0 39 rfl rfl
instance pupHash (p:Pu):PartAt (puC p) 5 32 (hashL p.e.hash):=by
 have h:=part_mid [.int .i64 p.e.kind,.int .i64 p.e.stream,.int .i64 p.e.n,.int .i64 p.e.len,.string p.e.name] (hashL p.e.hash) [.int .i64 p.e.start,.int .i64 p.e.count,.string p.text] 5 32 rfl rfl;exact h
theorem e_neqs {ρ:Operand→Value} {o:Oper} {x y:Operand} {T U:TypeId} {s u:ByteArray} {b:Bool} (ho:o.op=.binOp .neq T x y U) (hx:ρ x=.string s) (hy:ρ y=.string u) (hb:(!(s.toList==u.toList))=b) (w:World):(execOp ρ o).run Tryz.prog w=.ok (.value (.bool b)) w:=by
 unfold execOp;rw[ho];have hg:(eqGuard .neq T x y (.string s) (.string u)).run Tryz.prog w=.ok () w:=rfl;simp only[hx,hy,Sem.run_bind,hg,Result.andThen_ok,binOp_string_neq,hb];rfl
def puBad (p:Pu):Bool:=(decide (p.e.kind=2)&&(decide (p.e.len≠p.text.size)||(h32 p.e.hash !=h32 (leafF (ls p.text)))))||(decide (p.e.kind≠2)&& !(p.text.toList==noS.toList))
def chkF (l:List Pu):Int:=if 200<l.length then 3 else if l.any puBad then 2 else 0
theorem puCases (p:Pu) (r:Bool) (hr:puBad p=r):
  (decide (p.e.kind=2)=true∧decide (p.e.len≠p.text.size)=true∧Hid (r=true))∨
  (decide (p.e.kind=2)=true∧decide (p.e.len≠p.text.size)=false∧(h32 p.e.hash !=h32 (leafF (ls p.text)))=true∧decide (p.e.kind≠2)=false∧Hid (r=true))∨
  (decide (p.e.kind=2)=true∧decide (p.e.len≠p.text.size)=false∧(h32 p.e.hash !=h32 (leafF (ls p.text)))=false∧decide (p.e.kind≠2)=false∧Hid (r=false))∨
  (decide (p.e.kind=2)=false∧decide (p.e.kind≠2)=true∧(!(p.text.toList==noS.toList))=true∧Hid (r=true))∨
  (decide (p.e.kind=2)=false∧decide (p.e.kind≠2)=true∧(!(p.text.toList==noS.toList))=false∧Hid (r=false)):=by
 subst hr;unfold puBad;have hd:decide (p.e.kind≠2)= !decide (p.e.kind=2):=by simp
 rw[hd];generalize decide (p.e.kind=2)=b0;generalize decide (p.e.len≠p.text.size)=b1;generalize (h32 p.e.hash !=h32 (leafF (ls p.text)))=b2;generalize (p.text.toList==noS.toList)=b4
 cases b0<;>cases b1<;>cases b2<;>cases b4<;>simp[Lib.hid,Hid]
set_option maxHeartbeats 4000000 in
theorem pcheck_calls {p:Option Addr} {c:Nat} {l:List Pu} (w:World) (hr:RowAt (snap w) 68 40 puL p c l) (hl:l.length≤1000000) (ht:∀x∈l,x.text.size≤999999) (hB:GBegin w) (hG:GSha w):
  Calls Tryz.prog 54 #[.slice p l.length c] w (Ret (.int .i64 (chkF l)) w):=by
 have hst:=Sx.start0 w (snap_holds w);go_enter Tryz.func54,Tryz.ntmps54;go_wp2_with fail
 ·go_ret
  have h200:200<l.length:=by omega
  exact⟨by rw[show chkF l=3 by unfold chkF;rw[if_pos h200]];rfl,hst.end⟩
 ·have h200:¬200<l.length:=by omega
  have HC:Hid (chkF l=if l.any puBad then 2 else 0):=Lib.hid (by unfold chkF;rw[if_neg h200]);go_loopw [10] (fun iv wr=>∃k:Nat,k≤l.length∧iv=.int .i64 k∧Hid ((l.take k).any puBad=false)∧Sx [] w wr [] (snap w) []) (fun iv _=>l.length-(intOf iv).toNat)
  case atStart=>exact⟨0,Nat.zero_le _,by go_num,Lib.hid (by simp),hst⟩
  case round=>
   obtain⟨k,hk,rfl,HK,hst⟩:=hrel
   by_cases hlt:k<l.length
   ·obtain⟨g,off,rfl⟩:=hr.at_some hlt
    have hld:=hr.lda hlt;have hsz:=ht _ (List.getElem_mem hlt);have HR:∀ {r},puBad l[k]=r→r=true→Ending.returned (.int .i64 2)=.returned (.int .i64 (chkF l)):=fun h1 h2=>by rw[HC.out,if_pos (List.any_eq_true.2 ⟨_,List.getElem_mem hlt,h1.trans h2⟩)]
    have HN:∀ {r},puBad l[k]=r→r=false→Hid ((l.take (k+1)).any puBad=false):=fun h1 h2=>Lib.hid (by rw[List.take_succ_eq_append_getElem hlt,List.any_append,HK.out,List.any_cons,h1,h2];rfl)
    generalize l[k]=x at*;have HL:=Lib.hid (fun w h1 h2=>leaf_calls x.text hsz w h1 h2);obtain⟨r,hxr⟩:∃r,puBad x=r:=⟨_,rfl⟩;have HR:=HR hxr;have HN:=HN hxr;have hcs:=puCases x r hxr;clear hxr hsz;go_wp2_with (with_reducible first|refine xd rfl rfl rfl hst ?_|(refine xsa rfl rfl rfl rfl hst ?_;clear hst;intro w' hst)|(refine xnw rfl rfl hst ?_;clear hst;intro bn w' hst));refine Fx.go (fun _=>false) (fun i=> !(i==2||i==7||i==9||i==15||i==17||i==18||i==25||i==29)) (fun _=>false) (List.range 33) rfl hst (by kernel_rfl) (by kernel_rfl) (by kernel_rfl) (by kernel_rfl) (by kernel_rfl) ?_;show Fx.wpLX _ _ _ [0,1,2,3,4,5,6,7,8,9,10,11,12,13,14,15,16,17,18,19,20,21,22,23,24,25,26,27,28,29,30,31,32] _ _;rcases hcs with h |h |h |h |h
    ·obtain⟨h0,h1,hP⟩:=h
     refine Fx.fa rfl rfl rfl rfl rfl rfl ?_;refine Fx.fa rfl rfl rfl rfl rfl rfl ?_;refine Fx.l1 rfl rfl rfl rfl rfl rfl ?_;refine Fx.val (v:=.bool true) rfl rfl rfl rfl (Fx.e_eql rfl rfl rfl h0) ?_;refine Fx.val (v:=.bool true) rfl rfl rfl rfl (Fx.e_mv rfl rfl) ?_;refine Fx.fa rfl rfl rfl (by kernel_rfl) rfl rfl ?_;refine Fx.fa rfl rfl rfl (by kernel_rfl) rfl rfl ?_;refine Fx.l1 rfl rfl rfl (by kernel_rfl) rfl rfl ?_;refine Fx.fa rfl rfl rfl (by kernel_rfl) rfl rfl ?_;refine Fx.l1 rfl rfl rfl (by kernel_rfl) rfl rfl ?_;refine Fx.val (v:=.int .i64 x.text.size) rfl rfl rfl (by kernel_rfl) (fun w=>by kernel_rfl) ?_;refine Fx.val (v:=.bool true) rfl rfl rfl (by kernel_rfl) (Fx.e_neq rfl rfl rfl h1) ?_;refine Fx.val (v:=.bool true) rfl rfl rfl (by kernel_rfl) (Fx.e_mv rfl rfl) ?_;refine Fx.skip rfl rfl (by kernel_rfl) rfl ?_;refine Fx.skip rfl rfl (by kernel_rfl) rfl ?_;refine Fx.skipB rfl rfl (by kernel_rfl) (fun w h=>h) ?_;refine Fx.skip rfl rfl (by kernel_rfl) rfl ?_;refine Fx.skipB rfl rfl (by kernel_rfl) (fun w h=>h) ?_;refine Fx.skipB rfl rfl (by kernel_rfl) (fun w h=>h) ?_;refine Fx.skip rfl rfl (by kernel_rfl) rfl ?_;refine Fx.val (v:=.bool true) rfl rfl rfl (by kernel_rfl) (Fx.e_pkT rfl rfl rfl) ?_;refine Fx.val (v:=.bool true) rfl rfl rfl rfl (Fx.e_pkT rfl rfl rfl) ?_;refine Fx.val (v:=.bool true) rfl rfl rfl rfl (Fx.e_mv rfl rfl) ?_;refine Fx.skip rfl rfl (by kernel_rfl) rfl ?_;refine Fx.skip rfl rfl (by kernel_rfl) rfl ?_;refine Fx.skipB rfl rfl (by kernel_rfl) (fun w h=>h) ?_;refine Fx.skip rfl rfl (by kernel_rfl) rfl ?_;refine Fx.skip rfl rfl (by kernel_rfl) rfl ?_;refine Fx.skip rfl rfl (by kernel_rfl) rfl ?_;refine Fx.skipB rfl rfl (by kernel_rfl) (fun w h=>h) ?_;refine Fx.skip rfl rfl (by kernel_rfl) rfl ?_;refine Fx.skip rfl rfl (by kernel_rfl) rfl ?_;refine Fx.val (v:=.bool true) rfl rfl rfl rfl (Fx.e_pkT rfl rfl rfl) ?_;clear hst;intro w' hst;generalize hact:Fx.mkO _ _=act;have hv0:act.tmps.getD 0 undef=.slice (some ⟨g,off,none⟩) l.length c:=by rw[←hact];kernel_rfl
     have hv1:act.tmps.getD 1 undef=undef:=by rw[←hact];kernel_rfl
     have hv3:act.tmps.getD 3 undef=undef:=by rw[←hact];kernel_rfl
     have hv5:act.tmps.getD 5 undef=.slice (some ⟨g,off,none⟩) l.length c:=by rw[←hact];kernel_rfl
     have hv6:act.tmps.getD 6 undef=.int .i64 l.length:=by rw[←hact];kernel_rfl
     have hv7:act.tmps.getD 7 undef=.bool (decide (200<(l.length:Int))):=by rw[←hact];kernel_rfl
     have hv8:act.tmps.getD 8 undef=.slice (some ⟨g,off,none⟩) l.length c:=by rw[←hact];kernel_rfl
     have hv9:act.tmps.getD 9 undef=.int .i64 l.length:=by rw[←hact];kernel_rfl
     have hv10:act.tmps.getD 10 undef=.int .i64 k:=by rw[←hact];kernel_rfl
     have hv46:act.tmps.getD 46 undef=.bool true:=by rw[←hact];kernel_rfl
     obtain⟨fZ,hfZ,hact2⟩:=act_lit act 48 (by rw[←hact];kernel_rfl) (by rw[←hact];kernel_rfl);clear hact;have he0:fZ 0=.slice (some ⟨g,off,none⟩) l.length c:=(hfZ 0).symm.trans hv0;have he1:fZ 1=undef:=(hfZ 1).symm.trans hv1;have he3:fZ 3=undef:=(hfZ 3).symm.trans hv3;have he5:fZ 5=.slice (some ⟨g,off,none⟩) l.length c:=(hfZ 5).symm.trans hv5;have he6:fZ 6=.int .i64 l.length:=(hfZ 6).symm.trans hv6;have he7:fZ 7=.bool (decide (200<(l.length:Int))):=(hfZ 7).symm.trans hv7;have he8:fZ 8=.slice (some ⟨g,off,none⟩) l.length c:=(hfZ 8).symm.trans hv8;have he9:fZ 9=.int .i64 l.length:=(hfZ 9).symm.trans hv9;have he10:fZ 10=.int .i64 k:=(hfZ 10).symm.trans hv10;have he46:fZ 46=.bool true:=(hfZ 46).symm.trans hv46;simp only[show List.range 48=[0,1,2,3,4,5,6,7,8,9,10,11,12,13,14,15,16,17,18,19,20,21,22,23,24,25,26,27,28,29,30,31,32,33,34,35,36,37,38,39,40,41,42,43,44,45,46,47] from rfl,List.map_cons,List.map_nil,he0,he1,he3,he5,he6,he7,he8,he9,he10,he46] at hact2;clear hfZ hv0 he0 hv1 he1 hv3 he3 hv5 he5 hv6 he6 hv7 he7 hv8 he8 hv9 he9 hv10 he10 hv46 he46;subst hact2;go_wp2_with fail;go_ret;exact⟨HR hP.out,hst.end⟩
    ·obtain⟨h0,h1,h2,h3,hP⟩:=h
     refine Fx.fa rfl rfl rfl rfl rfl rfl ?_;refine Fx.fa rfl rfl rfl rfl rfl rfl ?_;refine Fx.l1 rfl rfl rfl rfl rfl rfl ?_;refine Fx.val (v:=.bool true) rfl rfl rfl rfl (Fx.e_eql rfl rfl rfl h0) ?_;refine Fx.val (v:=.bool true) rfl rfl rfl rfl (Fx.e_mv rfl rfl) ?_;refine Fx.fa rfl rfl rfl (by kernel_rfl) rfl rfl ?_;refine Fx.fa rfl rfl rfl (by kernel_rfl) rfl rfl ?_;refine Fx.l1 rfl rfl rfl (by kernel_rfl) rfl rfl ?_;refine Fx.fa rfl rfl rfl (by kernel_rfl) rfl rfl ?_;refine Fx.l1 rfl rfl rfl (by kernel_rfl) rfl rfl ?_;refine Fx.val (v:=.int .i64 x.text.size) rfl rfl rfl (by kernel_rfl) (fun w=>by kernel_rfl) ?_;refine Fx.val (v:=.bool false) rfl rfl rfl (by kernel_rfl) (Fx.e_neq rfl rfl rfl h1) ?_;refine Fx.val (v:=.bool false) rfl rfl rfl (by kernel_rfl) (Fx.e_mv rfl rfl) ?_;refine Fx.fa rfl rfl rfl (by kernel_rfl) rfl rfl ?_;refine Fx.fa rfl rfl rfl (by kernel_rfl) rfl rfl ?_;refine Fx.lA rfl rfl rfl (by kernel_rfl) rfl rfl ?_;refine Fx.fa rfl rfl rfl (by kernel_rfl) rfl rfl ?_;refine Fx.l1 rfl rfl rfl (by kernel_rfl) rfl rfl ?_;refine Fx.callB rfl rfl (fun w h=>h) (fun w h=>HL.out w (hB.below h.end) (hG.below h.end)) rfl (by kernel_rfl) (fun w=>by kernel_rfl) ?_;refine Fx.val (v:=.bool true) rfl rfl rfl (by kernel_rfl) (Fx.e_neqh rfl rfl rfl h2) ?_;refine Fx.val (v:=.bool true) rfl rfl rfl (by kernel_rfl) (Fx.e_pkF rfl rfl rfl) ?_;refine Fx.val (v:=.bool true) rfl rfl rfl rfl (Fx.e_pkT rfl rfl rfl) ?_;refine Fx.val (v:=.bool true) rfl rfl rfl rfl (Fx.e_mv rfl rfl) ?_;refine Fx.skip rfl rfl (by kernel_rfl) rfl ?_;refine Fx.skip rfl rfl (by kernel_rfl) rfl ?_;refine Fx.skipB rfl rfl (by kernel_rfl) (fun w h=>h) ?_;refine Fx.skip rfl rfl (by kernel_rfl) rfl ?_;refine Fx.skip rfl rfl (by kernel_rfl) rfl ?_;refine Fx.skip rfl rfl (by kernel_rfl) rfl ?_;refine Fx.skipB rfl rfl (by kernel_rfl) (fun w h=>h) ?_;refine Fx.skip rfl rfl (by kernel_rfl) rfl ?_;refine Fx.skip rfl rfl (by kernel_rfl) rfl ?_;refine Fx.val (v:=.bool true) rfl rfl rfl rfl (Fx.e_pkT rfl rfl rfl) ?_;clear hst;intro w' hst;generalize hact:Fx.mkO _ _=act;have hv0:act.tmps.getD 0 undef=.slice (some ⟨g,off,none⟩) l.length c:=by rw[←hact];kernel_rfl
     have hv1:act.tmps.getD 1 undef=undef:=by rw[←hact];kernel_rfl
     have hv3:act.tmps.getD 3 undef=undef:=by rw[←hact];kernel_rfl
     have hv5:act.tmps.getD 5 undef=.slice (some ⟨g,off,none⟩) l.length c:=by rw[←hact];kernel_rfl
     have hv6:act.tmps.getD 6 undef=.int .i64 l.length:=by rw[←hact];kernel_rfl
     have hv7:act.tmps.getD 7 undef=.bool (decide (200<(l.length:Int))):=by rw[←hact];kernel_rfl
     have hv8:act.tmps.getD 8 undef=.slice (some ⟨g,off,none⟩) l.length c:=by rw[←hact];kernel_rfl
     have hv9:act.tmps.getD 9 undef=.int .i64 l.length:=by rw[←hact];kernel_rfl
     have hv10:act.tmps.getD 10 undef=.int .i64 k:=by rw[←hact];kernel_rfl
     have hv46:act.tmps.getD 46 undef=.bool true:=by rw[←hact];kernel_rfl
     obtain⟨fZ,hfZ,hact2⟩:=act_lit act 48 (by rw[←hact];kernel_rfl) (by rw[←hact];kernel_rfl);clear hact;have he0:fZ 0=.slice (some ⟨g,off,none⟩) l.length c:=(hfZ 0).symm.trans hv0;have he1:fZ 1=undef:=(hfZ 1).symm.trans hv1;have he3:fZ 3=undef:=(hfZ 3).symm.trans hv3;have he5:fZ 5=.slice (some ⟨g,off,none⟩) l.length c:=(hfZ 5).symm.trans hv5;have he6:fZ 6=.int .i64 l.length:=(hfZ 6).symm.trans hv6;have he7:fZ 7=.bool (decide (200<(l.length:Int))):=(hfZ 7).symm.trans hv7;have he8:fZ 8=.slice (some ⟨g,off,none⟩) l.length c:=(hfZ 8).symm.trans hv8;have he9:fZ 9=.int .i64 l.length:=(hfZ 9).symm.trans hv9;have he10:fZ 10=.int .i64 k:=(hfZ 10).symm.trans hv10;have he46:fZ 46=.bool true:=(hfZ 46).symm.trans hv46;simp only[show List.range 48=[0,1,2,3,4,5,6,7,8,9,10,11,12,13,14,15,16,17,18,19,20,21,22,23,24,25,26,27,28,29,30,31,32,33,34,35,36,37,38,39,40,41,42,43,44,45,46,47] from rfl,List.map_cons,List.map_nil,he0,he1,he3,he5,he6,he7,he8,he9,he10,he46] at hact2;clear hfZ hv0 he0 hv1 he1 hv3 he3 hv5 he5 hv6 he6 hv7 he7 hv8 he8 hv9 he9 hv10 he10 hv46 he46;subst hact2;go_wp2_with fail;go_ret;exact⟨HR hP.out,hst.end⟩
    ·obtain⟨h0,h1,h2,h3,hP⟩:=h
     refine Fx.fa rfl rfl rfl rfl rfl rfl ?_;refine Fx.fa rfl rfl rfl rfl rfl rfl ?_;refine Fx.l1 rfl rfl rfl rfl rfl rfl ?_;refine Fx.val (v:=.bool true) rfl rfl rfl rfl (Fx.e_eql rfl rfl rfl h0) ?_;refine Fx.val (v:=.bool true) rfl rfl rfl rfl (Fx.e_mv rfl rfl) ?_;refine Fx.fa rfl rfl rfl (by kernel_rfl) rfl rfl ?_;refine Fx.fa rfl rfl rfl (by kernel_rfl) rfl rfl ?_;refine Fx.l1 rfl rfl rfl (by kernel_rfl) rfl rfl ?_;refine Fx.fa rfl rfl rfl (by kernel_rfl) rfl rfl ?_;refine Fx.l1 rfl rfl rfl (by kernel_rfl) rfl rfl ?_;refine Fx.val (v:=.int .i64 x.text.size) rfl rfl rfl (by kernel_rfl) (fun w=>by kernel_rfl) ?_;refine Fx.val (v:=.bool false) rfl rfl rfl (by kernel_rfl) (Fx.e_neq rfl rfl rfl h1) ?_;refine Fx.val (v:=.bool false) rfl rfl rfl (by kernel_rfl) (Fx.e_mv rfl rfl) ?_;refine Fx.fa rfl rfl rfl (by kernel_rfl) rfl rfl ?_;refine Fx.fa rfl rfl rfl (by kernel_rfl) rfl rfl ?_;refine Fx.lA rfl rfl rfl (by kernel_rfl) rfl rfl ?_;refine Fx.fa rfl rfl rfl (by kernel_rfl) rfl rfl ?_;refine Fx.l1 rfl rfl rfl (by kernel_rfl) rfl rfl ?_;refine Fx.callB rfl rfl (fun w h=>h) (fun w h=>HL.out w (hB.below h.end) (hG.below h.end)) rfl (by kernel_rfl) (fun w=>by kernel_rfl) ?_;refine Fx.val (v:=.bool false) rfl rfl rfl (by kernel_rfl) (Fx.e_neqh rfl rfl rfl h2) ?_;refine Fx.val (v:=.bool false) rfl rfl rfl (by kernel_rfl) (Fx.e_pkF rfl rfl rfl) ?_;refine Fx.val (v:=.bool false) rfl rfl rfl rfl (Fx.e_pkT rfl rfl rfl) ?_;refine Fx.val (v:=.bool false) rfl rfl rfl rfl (Fx.e_mv rfl rfl) ?_;refine Fx.fa rfl rfl rfl (by kernel_rfl) rfl rfl ?_;refine Fx.fa rfl rfl rfl (by kernel_rfl) rfl rfl ?_;refine Fx.l1 rfl rfl rfl (by kernel_rfl) rfl rfl ?_;refine Fx.val (v:=.bool false) rfl rfl rfl (by kernel_rfl) (Fx.e_neq rfl rfl rfl h3) ?_;refine Fx.val (v:=.bool false) rfl rfl rfl (by kernel_rfl) (Fx.e_mv rfl rfl) ?_;refine Fx.skip rfl rfl (by kernel_rfl) rfl ?_;refine Fx.skipB rfl rfl (by kernel_rfl) (fun w h=>h) ?_;refine Fx.skip rfl rfl (by kernel_rfl) rfl ?_;refine Fx.val (v:=.bool false) rfl rfl rfl (by kernel_rfl) (Fx.e_pkF rfl rfl rfl) ?_;refine Fx.val (v:=.bool false) rfl rfl rfl rfl (Fx.e_pkF rfl rfl rfl) ?_;clear hst;intro w' hst;generalize hact:Fx.mkO _ _=act;have hv0:act.tmps.getD 0 undef=.slice (some ⟨g,off,none⟩) l.length c:=by rw[←hact];kernel_rfl
     have hv1:act.tmps.getD 1 undef=undef:=by rw[←hact];kernel_rfl
     have hv3:act.tmps.getD 3 undef=undef:=by rw[←hact];kernel_rfl
     have hv5:act.tmps.getD 5 undef=.slice (some ⟨g,off,none⟩) l.length c:=by rw[←hact];kernel_rfl
     have hv6:act.tmps.getD 6 undef=.int .i64 l.length:=by rw[←hact];kernel_rfl
     have hv7:act.tmps.getD 7 undef=.bool (decide (200<(l.length:Int))):=by rw[←hact];kernel_rfl
     have hv8:act.tmps.getD 8 undef=.slice (some ⟨g,off,none⟩) l.length c:=by rw[←hact];kernel_rfl
     have hv9:act.tmps.getD 9 undef=.int .i64 l.length:=by rw[←hact];kernel_rfl
     have hv10:act.tmps.getD 10 undef=.int .i64 k:=by rw[←hact];kernel_rfl
     have hv46:act.tmps.getD 46 undef=.bool false:=by rw[←hact];kernel_rfl
     obtain⟨fZ,hfZ,hact2⟩:=act_lit act 48 (by rw[←hact];kernel_rfl) (by rw[←hact];kernel_rfl);clear hact;have he0:fZ 0=.slice (some ⟨g,off,none⟩) l.length c:=(hfZ 0).symm.trans hv0;have he1:fZ 1=undef:=(hfZ 1).symm.trans hv1;have he3:fZ 3=undef:=(hfZ 3).symm.trans hv3;have he5:fZ 5=.slice (some ⟨g,off,none⟩) l.length c:=(hfZ 5).symm.trans hv5;have he6:fZ 6=.int .i64 l.length:=(hfZ 6).symm.trans hv6;have he7:fZ 7=.bool (decide (200<(l.length:Int))):=(hfZ 7).symm.trans hv7;have he8:fZ 8=.slice (some ⟨g,off,none⟩) l.length c:=(hfZ 8).symm.trans hv8;have he9:fZ 9=.int .i64 l.length:=(hfZ 9).symm.trans hv9;have he10:fZ 10=.int .i64 k:=(hfZ 10).symm.trans hv10;have he46:fZ 46=.bool false:=(hfZ 46).symm.trans hv46;simp only[show List.range 48=[0,1,2,3,4,5,6,7,8,9,10,11,12,13,14,15,16,17,18,19,20,21,22,23,24,25,26,27,28,29,30,31,32,33,34,35,36,37,38,39,40,41,42,43,44,45,46,47] from rfl,List.map_cons,List.map_nil,he0,he1,he3,he5,he6,he7,he8,he9,he10,he46] at hact2;clear hfZ hv0 he0 hv1 he1 hv3 he3 hv5 he5 hv6 he6 hv7 he7 hv8 he8 hv9 he9 hv10 he10 hv46 he46;subst hact2;go_wp2_with fail;go_roundw
     case rel=>exact⟨k+1,by omega,by go_num,HN hP.out,hst.drop⟩
     case measure=>simp[intOf];omega
    ·obtain⟨h0,h3,h4,hP⟩:=h
     refine Fx.fa rfl rfl rfl rfl rfl rfl ?_;refine Fx.fa rfl rfl rfl rfl rfl rfl ?_;refine Fx.l1 rfl rfl rfl rfl rfl rfl ?_;refine Fx.val (v:=.bool false) rfl rfl rfl rfl (Fx.e_eql rfl rfl rfl h0) ?_;refine Fx.val (v:=.bool false) rfl rfl rfl rfl (Fx.e_mv rfl rfl) ?_;refine Fx.skip rfl rfl (by kernel_rfl) rfl ?_;refine Fx.skip rfl rfl (by kernel_rfl) rfl ?_;refine Fx.skipB rfl rfl (by kernel_rfl) (fun w h=>h) ?_;refine Fx.skip rfl rfl (by kernel_rfl) rfl ?_;refine Fx.skipB rfl rfl (by kernel_rfl) (fun w h=>h) ?_;refine Fx.skip rfl rfl (by kernel_rfl) rfl ?_;refine Fx.skip rfl rfl (by kernel_rfl) rfl ?_;refine Fx.skip rfl rfl (by kernel_rfl) rfl ?_;refine Fx.skip rfl rfl (by kernel_rfl) rfl ?_;refine Fx.skip rfl rfl (by kernel_rfl) rfl ?_;refine Fx.skipB rfl rfl (by kernel_rfl) (fun w h=>h) ?_;refine Fx.skip rfl rfl (by kernel_rfl) rfl ?_;refine Fx.skipB rfl rfl (by kernel_rfl) (fun w h=>h) ?_;refine Fx.skipB rfl rfl (by kernel_rfl) (fun w h=>h) ?_;refine Fx.skip rfl rfl (by kernel_rfl) rfl ?_;refine Fx.skip rfl rfl (by kernel_rfl) rfl ?_;refine Fx.val (v:=.bool false) rfl rfl rfl rfl (Fx.e_pkF rfl rfl rfl) ?_;refine Fx.val (v:=.bool false) rfl rfl rfl rfl (Fx.e_mv rfl rfl) ?_;refine Fx.fa rfl rfl rfl (by kernel_rfl) rfl rfl ?_;refine Fx.fa rfl rfl rfl (by kernel_rfl) rfl rfl ?_;refine Fx.l1 rfl rfl rfl (by kernel_rfl) rfl rfl ?_;refine Fx.val (v:=.bool true) rfl rfl rfl (by kernel_rfl) (Fx.e_neq rfl rfl rfl h3) ?_;refine Fx.val (v:=.bool true) rfl rfl rfl (by kernel_rfl) (Fx.e_mv rfl rfl) ?_;refine Fx.fa rfl rfl rfl (by kernel_rfl) rfl rfl ?_;refine Fx.l1 rfl rfl rfl (by kernel_rfl) rfl rfl ?_;refine Fx.val (v:=.bool true) rfl rfl rfl (by kernel_rfl) (e_neqs rfl rfl rfl h4) ?_;refine Fx.val (v:=.bool true) rfl rfl rfl (by kernel_rfl) (Fx.e_pkT rfl rfl rfl) ?_;refine Fx.val (v:=.bool true) rfl rfl rfl rfl (Fx.e_pkF rfl rfl rfl) ?_;clear hst;intro w' hst;generalize hact:Fx.mkO _ _=act;have hv0:act.tmps.getD 0 undef=.slice (some ⟨g,off,none⟩) l.length c:=by rw[←hact];kernel_rfl
     have hv1:act.tmps.getD 1 undef=undef:=by rw[←hact];kernel_rfl
     have hv3:act.tmps.getD 3 undef=undef:=by rw[←hact];kernel_rfl
     have hv5:act.tmps.getD 5 undef=.slice (some ⟨g,off,none⟩) l.length c:=by rw[←hact];kernel_rfl
     have hv6:act.tmps.getD 6 undef=.int .i64 l.length:=by rw[←hact];kernel_rfl
     have hv7:act.tmps.getD 7 undef=.bool (decide (200<(l.length:Int))):=by rw[←hact];kernel_rfl
     have hv8:act.tmps.getD 8 undef=.slice (some ⟨g,off,none⟩) l.length c:=by rw[←hact];kernel_rfl
     have hv9:act.tmps.getD 9 undef=.int .i64 l.length:=by rw[←hact];kernel_rfl
     have hv10:act.tmps.getD 10 undef=.int .i64 k:=by rw[←hact];kernel_rfl
     have hv46:act.tmps.getD 46 undef=.bool true:=by rw[←hact];kernel_rfl
     obtain⟨fZ,hfZ,hact2⟩:=act_lit act 48 (by rw[←hact];kernel_rfl) (by rw[←hact];kernel_rfl);clear hact;have he0:fZ 0=.slice (some ⟨g,off,none⟩) l.length c:=(hfZ 0).symm.trans hv0;have he1:fZ 1=undef:=(hfZ 1).symm.trans hv1;have he3:fZ 3=undef:=(hfZ 3).symm.trans hv3;have he5:fZ 5=.slice (some ⟨g,off,none⟩) l.length c:=(hfZ 5).symm.trans hv5;have he6:fZ 6=.int .i64 l.length:=(hfZ 6).symm.trans hv6;have he7:fZ 7=.bool (decide (200<(l.length:Int))):=(hfZ 7).symm.trans hv7;have he8:fZ 8=.slice (some ⟨g,off,none⟩) l.length c:=(hfZ 8).symm.trans hv8;have he9:fZ 9=.int .i64 l.length:=(hfZ 9).symm.trans hv9;have he10:fZ 10=.int .i64 k:=(hfZ 10).symm.trans hv10;have he46:fZ 46=.bool true:=(hfZ 46).symm.trans hv46;simp only[show List.range 48=[0,1,2,3,4,5,6,7,8,9,10,11,12,13,14,15,16,17,18,19,20,21,22,23,24,25,26,27,28,29,30,31,32,33,34,35,36,37,38,39,40,41,42,43,44,45,46,47] from rfl,List.map_cons,List.map_nil,he0,he1,he3,he5,he6,he7,he8,he9,he10,he46] at hact2;clear hfZ hv0 he0 hv1 he1 hv3 he3 hv5 he5 hv6 he6 hv7 he7 hv8 he8 hv9 he9 hv10 he10 hv46 he46;subst hact2;go_wp2_with fail;go_ret;exact⟨HR hP.out,hst.end⟩
    ·obtain⟨h0,h3,h4,hP⟩:=h
     refine Fx.fa rfl rfl rfl rfl rfl rfl ?_;refine Fx.fa rfl rfl rfl rfl rfl rfl ?_;refine Fx.l1 rfl rfl rfl rfl rfl rfl ?_;refine Fx.val (v:=.bool false) rfl rfl rfl rfl (Fx.e_eql rfl rfl rfl h0) ?_;refine Fx.val (v:=.bool false) rfl rfl rfl rfl (Fx.e_mv rfl rfl) ?_;refine Fx.skip rfl rfl (by kernel_rfl) rfl ?_;refine Fx.skip rfl rfl (by kernel_rfl) rfl ?_;refine Fx.skipB rfl rfl (by kernel_rfl) (fun w h=>h) ?_;refine Fx.skip rfl rfl (by kernel_rfl) rfl ?_;refine Fx.skipB rfl rfl (by kernel_rfl) (fun w h=>h) ?_;refine Fx.skip rfl rfl (by kernel_rfl) rfl ?_;refine Fx.skip rfl rfl (by kernel_rfl) rfl ?_;refine Fx.skip rfl rfl (by kernel_rfl) rfl ?_;refine Fx.skip rfl rfl (by kernel_rfl) rfl ?_;refine Fx.skip rfl rfl (by kernel_rfl) rfl ?_;refine Fx.skipB rfl rfl (by kernel_rfl) (fun w h=>h) ?_;refine Fx.skip rfl rfl (by kernel_rfl) rfl ?_;refine Fx.skipB rfl rfl (by kernel_rfl) (fun w h=>h) ?_;refine Fx.skipB rfl rfl (by kernel_rfl) (fun w h=>h) ?_;refine Fx.skip rfl rfl (by kernel_rfl) rfl ?_;refine Fx.skip rfl rfl (by kernel_rfl) rfl ?_;refine Fx.val (v:=.bool false) rfl rfl rfl rfl (Fx.e_pkF rfl rfl rfl) ?_;refine Fx.val (v:=.bool false) rfl rfl rfl rfl (Fx.e_mv rfl rfl) ?_;refine Fx.fa rfl rfl rfl (by kernel_rfl) rfl rfl ?_;refine Fx.fa rfl rfl rfl (by kernel_rfl) rfl rfl ?_;refine Fx.l1 rfl rfl rfl (by kernel_rfl) rfl rfl ?_;refine Fx.val (v:=.bool true) rfl rfl rfl (by kernel_rfl) (Fx.e_neq rfl rfl rfl h3) ?_;refine Fx.val (v:=.bool true) rfl rfl rfl (by kernel_rfl) (Fx.e_mv rfl rfl) ?_;refine Fx.fa rfl rfl rfl (by kernel_rfl) rfl rfl ?_;refine Fx.l1 rfl rfl rfl (by kernel_rfl) rfl rfl ?_;refine Fx.val (v:=.bool false) rfl rfl rfl (by kernel_rfl) (e_neqs rfl rfl rfl h4) ?_;refine Fx.val (v:=.bool false) rfl rfl rfl (by kernel_rfl) (Fx.e_pkT rfl rfl rfl) ?_;refine Fx.val (v:=.bool false) rfl rfl rfl rfl (Fx.e_pkF rfl rfl rfl) ?_;clear hst;intro w' hst;generalize hact:Fx.mkO _ _=act;have hv0:act.tmps.getD 0 undef=.slice (some ⟨g,off,none⟩) l.length c:=by rw[←hact];kernel_rfl
     have hv1:act.tmps.getD 1 undef=undef:=by rw[←hact];kernel_rfl
     have hv3:act.tmps.getD 3 undef=undef:=by rw[←hact];kernel_rfl
     have hv5:act.tmps.getD 5 undef=.slice (some ⟨g,off,none⟩) l.length c:=by rw[←hact];kernel_rfl
     have hv6:act.tmps.getD 6 undef=.int .i64 l.length:=by rw[←hact];kernel_rfl
     have hv7:act.tmps.getD 7 undef=.bool (decide (200<(l.length:Int))):=by rw[←hact];kernel_rfl
     have hv8:act.tmps.getD 8 undef=.slice (some ⟨g,off,none⟩) l.length c:=by rw[←hact];kernel_rfl
     have hv9:act.tmps.getD 9 undef=.int .i64 l.length:=by rw[←hact];kernel_rfl
     have hv10:act.tmps.getD 10 undef=.int .i64 k:=by rw[←hact];kernel_rfl
     have hv46:act.tmps.getD 46 undef=.bool false:=by rw[←hact];kernel_rfl
     obtain⟨fZ,hfZ,hact2⟩:=act_lit act 48 (by rw[←hact];kernel_rfl) (by rw[←hact];kernel_rfl);clear hact;have he0:fZ 0=.slice (some ⟨g,off,none⟩) l.length c:=(hfZ 0).symm.trans hv0;have he1:fZ 1=undef:=(hfZ 1).symm.trans hv1;have he3:fZ 3=undef:=(hfZ 3).symm.trans hv3;have he5:fZ 5=.slice (some ⟨g,off,none⟩) l.length c:=(hfZ 5).symm.trans hv5;have he6:fZ 6=.int .i64 l.length:=(hfZ 6).symm.trans hv6;have he7:fZ 7=.bool (decide (200<(l.length:Int))):=(hfZ 7).symm.trans hv7;have he8:fZ 8=.slice (some ⟨g,off,none⟩) l.length c:=(hfZ 8).symm.trans hv8;have he9:fZ 9=.int .i64 l.length:=(hfZ 9).symm.trans hv9;have he10:fZ 10=.int .i64 k:=(hfZ 10).symm.trans hv10;have he46:fZ 46=.bool false:=(hfZ 46).symm.trans hv46;simp only[show List.range 48=[0,1,2,3,4,5,6,7,8,9,10,11,12,13,14,15,16,17,18,19,20,21,22,23,24,25,26,27,28,29,30,31,32,33,34,35,36,37,38,39,40,41,42,43,44,45,46,47] from rfl,List.map_cons,List.map_nil,he0,he1,he3,he5,he6,he7,he8,he9,he10,he46] at hact2;clear hfZ hv0 he0 hv1 he1 hv3 he3 hv5 he5 hv6 he6 hv7 he7 hv8 he8 hv9 he9 hv10 he10 hv46 he46;subst hact2;go_wp2_with fail;go_roundw
     case rel=>exact⟨k+1,by omega,by go_num,HN hP.out,hst.drop⟩
     case measure=>simp[intOf];omega
   ·obtain rfl:k=l.length:=by omega
    go_wp2_with fail;go_ret;have h1:l.any puBad=false:=by simpa using HK.out
    exact⟨by rw[HC.out,h1];rfl,hst.end⟩
end Go.Proofs.YtdkeiefgkgpcbaaGreatDoor
namespace Go.Proofs.YtdkeiefgkgpcbaaGreatDoor
open Go.RowKit
instance encEnt:Enc entL 39:=⟨fun _=>rfl,fun x v hv=>by
 have h:(entL x).all (·.oneCell')=true:=rfl
 exact List.all_eq_true.1 h v hv⟩
instance eltEnt:Elt 66 39:=⟨.agg (entC ent0),96,by kernel_rfl,rfl,by decide,by decide⟩
instance sltEnt:SlT 38 66:=⟨Tryz.underlying38⟩
instance zeroEntX:ZeroT 66 (entC ent0):=.agg zero_ent
instance oneEnts:OneT 38:=⟨fun w=>by kernel_rfl,by kernel_rfl⟩
theorem Sx.keep1 {S:List Nat} {w0 w:World} {x y z:Blk} {L:List Blk} {D:Dat} {F:List Nat} (h:Sx S w0 w (x::y::z::L) D F):Sx S w0 w (x::L) D F:=
 ((h.perm (show(x::y::z::L).Perm (y::z::x::L) from(List.Perm.swap y x _).trans ((List.Perm.swap z x _).cons y))).drop).drop
def layE (start n:Int) (p:Pu):Ent:=if p.e.kind=2 then {p.e with start:=start+n,count:=pkCount p.e.len} else p.e
def layN (n:Int) (p:Pu):Int:=if p.e.kind=2 then n+pkCount p.e.len else n
def lay (start:Int):Int→List Pu→List Ent×Int
 |n,[]=>([],n)
 |n,p::ps=>(layE start n p::(lay start (layN n p) ps).1,(lay start (layN n p) ps).2)
theorem lay_snoc (start:Int) (p:Pu):∀(l:List Pu) (n:Int),lay start n (l++[p])=((lay start n l).1++[layE start (lay start n l).2 p],layN (lay start n l).2 p)
 | [],n=>rfl
 |q::l,n=>by simp[lay,lay_snoc start p l]
theorem lay_len (start:Int):∀(l:List Pu) (n:Int),(lay start n l).1.length=l.length
 | [],n=>rfl
 |q::l,n=>by simp[lay,lay_len start l]
theorem pkCount_range {n:Int} (h:0≤n∧n≤999999):1≤pkCount n∧pkCount n≤10000:=by unfold pkCount;rw[if_neg (by omega)];omega
def PuOk (l:List Pu):Prop:=∀x∈l,x.e.kind=2→0≤x.e.len∧x.e.len≤999999
theorem lay_range (start:Int):∀(l:List Pu) (n:Int),PuOk l→n≤(lay start n l).2∧(lay start n l).2≤n+10000*l.length
 | [],n,_=>by simp[lay]
 |q::l,n,h=>by
  have h1:=lay_range start l (layN n q) (fun x hx=>h x (List.mem_cons_of_mem _ hx))
  have h2:n≤layN n q∧layN n q≤n+10000:=by
   unfold layN;split
   ·have:=pkCount_range (h q (by simp) (by assumption));omega
   ·omega
  simp only[lay,List.length_cons];push_cast;omega
def LaidPost (w:World) (start:Int) (l:List Pu) (e:Ending) (w':World):Prop:=
 ∃v Lo,e=.returned (.tuple #[v,.int .i64 (lay start 0 l).2])∧OwnR 66 39 entL Lo v (lay start 0 l).1∧St [] w w' Lo
set_option maxHeartbeats 4000000 in
theorem laid_calls {p:Option Addr} {c:Nat} {l:List Pu} (start:Int) (w:World) (hr:RowAt (snap w) 68 40 puL p c l) (hl:l.length≤200) (hk:PuOk l) (hs:0≤start∧start≤1000000):
  Calls Tryz.prog 55 #[.slice p l.length c,.int .i64 start] w (LaidPost w start l):=by
 have hst:=Sx.start0 w (snap_holds w);go_enter Tryz.func55,Tryz.ntmps55;go_wp2_with fail;go_loopw [6,7,13] (fun ov nv iv wr=>∃(k:Nat) (Lo:List Blk),k≤l.length∧iv=.int .i64 k∧nv=.int .i64 (lay start 0 (l.take k)).2∧Hid (OwnR 66 39 entL Lo ov (lay start 0 (l.take k)).1)∧Sx [] w wr (Lo++[]) (snap w) []) (fun _ _ iv _=>l.length-(intOf iv).toNat)
 case atStart=>exact⟨0,[],Nat.zero_le _,by go_num,by simp[lay],Lib.hid (by simpa[lay] using OwnR.none (enc:=entL) (T:=66) (k:=39) none),hst⟩
 case round=>
  obtain⟨k,Lo,hkl,rfl,rfl,HO,hst⟩:=hrel
  by_cases hlt:k<l.length
  ·obtain⟨g,off,rfl⟩:=hr.at_some hlt
   have hld:=hr.lda hlt;have hx:=hk _ (List.getElem_mem hlt)
   have HS0:lay start 0 (l.take (k+1))=((lay start 0 (l.take k)).1++[layE start (lay start 0 (l.take k)).2 l[k]],layN (lay start 0 (l.take k)).2 l[k]):=by
    rw[List.take_succ_eq_append_getElem hlt];exact lay_snoc ..
   have hrg:=lay_range start (l.take k) 0 (fun x hx=>hk x (List.mem_of_mem_take hx));have hlen:=lay_len start (l.take k) 0;rw[List.length_take] at hlen hrg;generalize lay start 0 (l.take k)=q at*;generalize l[k]=x at*;obtain⟨out,n⟩:=q;simp only at HS0 hrg hlen HO ⊢;have hown:=HO.out;obtain⟨pa,cp,rfl⟩:=hown.slice;have hlen:out.length=k:=by omega
   rw[hlen] at hown ⊢;clear HO;have HL:=Lib.hid hlen
   by_cases hk2:x.e.kind=2
   ·have hpk:=pkCount_range (hx hk2)
    have h1:layE start n x={x.e with start:=start+n,count:=pkCount x.e.len}:=by unfold layE;rw[if_pos hk2]
    have h2:layN n x=n+pkCount x.e.len:=by unfold layN;rw[if_pos hk2]
    rw[h1,h2] at HS0;have HS:=Lib.hid HS0;clear HS0 hlen;have HCn:=Lib.hid (fun w=>count_calls x.e.len (by have:=hx hk2;omega) w);generalize pkCount x.e.len=ct at*;clear h1 h2;go_wp2_with (first|(with_reducible (refine callB (HCn.out _) hst ?_;clear hst;intro w' hst))|(with_reducible refine xmk rfl 37 rfl hst (entC {x.e with start:=start+n,count:=ct}) 66 (fun b=>.slice (some ⟨b,0,none⟩) 1 1) (fun w=>by kernel_rfl) ?_;clear hst;intro b w' hst)|(with_reducible refine xap1 (T:=66) rfl _ _ rfl {x.e with start:=start+n,count:=ct} rfl rfl rfl hst.keep1 hown rfl (by have:=HL.out;omega) ?_;clear hst;intro p4 c4 w4 Lo4 hown4 hst)|(with_reducible first|refine x1 rfl rfl rfl hst ?_|refine xa rfl rfl rfl hst ?_|refine xd rfl rfl rfl hst ?_|(refine xsa rfl rfl rfl rfl hst ?_;clear hst;intro w' hst)|(refine xnw rfl rfl hst ?_;clear hst;intro bn w' hst)));rw[HL.out] at hown4;go_roundw
    case rel=>exact⟨k+1,Lo4,by omega,by go_num,by rw[HS.out],by rw[HS.out];exact Lib.hid hown4,hst⟩
    case measure=>simp[intOf];omega
   ·have h1:layE start n x=x.e:=by unfold layE;rw[if_neg hk2]
    have h2:layN n x=n:=by unfold layN;rw[if_neg hk2]
    rw[h1,h2] at HS0;have HS:=Lib.hid HS0;clear HS0 hlen;clear h1 h2;go_wp2_with (first|(with_reducible refine xmk rfl 37 rfl hst (entC x.e) 66 (fun b=>.slice (some ⟨b,0,none⟩) 1 1) (fun w=>by kernel_rfl) ?_;clear hst;intro b w' hst)|(with_reducible refine xap1 (T:=66) rfl _ _ rfl x.e rfl rfl rfl hst.keep1 hown rfl (by have:=HL.out;omega) ?_;clear hst;intro p4 c4 w4 Lo4 hown4 hst)|(with_reducible first|refine x1 rfl rfl rfl hst ?_|refine xa rfl rfl rfl hst ?_|refine xd rfl rfl rfl hst ?_|(refine xsa rfl rfl rfl rfl hst ?_;clear hst;intro w' hst)|(refine xnw rfl rfl hst ?_;clear hst;intro bn w' hst)));rw[HL.out] at hown4;go_roundw
    case rel=>exact⟨k+1,Lo4,by omega,by go_num,by rw[HS.out],by rw[HS.out];exact Lib.hid hown4,hst⟩
    case measure=>simp[intOf];omega
  ·obtain rfl:k=l.length:=by omega
   rw[List.take_length] at*;have hlen:=lay_len start l 0;have hown:=HO.out;obtain⟨pa,cp,rfl⟩:=hown.slice;go_wp2_with fail;go_ret2;exact⟨_,Lo,rfl,hown,by simpa using hst.st⟩
end Go.Proofs.YtdkeiefgkgpcbaaGreatDoor
namespace Go.Proofs.YtdkeiefgkgpcbaaGreatDoor
open Go.RowKit
theorem own_cell {k:Nat} {α:Type} {enc:α→List Value} {C:Array Value} {l:List α} [e:Enc enc k] (hk:0<k) (ht:C.toList.take (l.length*k)=l.flatMap enc) {i:Nat} (hi:i<l.length) {j:Nat} (hj:j<k) {v:Value} {x:α} (hx:enc x=(enc l[i]).set j v):(C.setIfInBounds (i*k+j) v).toList.take (l.length*k)=(l.set i x).flatMap enc:=by
 have hik:i*k+k≤l.length*k:=by
  have:(i+1)*k≤l.length*k:=Nat.mul_le_mul_right k hi
  rwa [Nat.add_mul,Nat.one_mul] at this
 apply List.ext_getElem?;intro q
 by_cases hq:q<l.length*k
 ·have hqk:q / k<l.length:=Nat.div_lt_of_lt_mul (by rw[Nat.mul_comm];exact hq)
  have hr:q%k<k:=Nat.mod_lt _ hk;have hjk:q / k*k+q%k=q:=Nat.div_add_mod' q k;have h2:=rows_at (enc:=enc) (l.set i x) (q / k) (by simpa using hqk) (q%k) hr;have h1:=rows_at (enc:=enc) l (q / k) hqk (q%k) hr;rw[hjk] at h1 h2;have h3:C.toList[q]? =(enc l[q / k])[q%k]? :=by rw[←h1,←ht,List.getElem?_take,if_pos hq]
  have hlen:q<C.toList.length:=by
   have:=(List.getElem?_eq_some_iff.1 (show C.toList[q]? =some _ from h3.trans (List.getElem?_eq_getElem (by rw[e.len];exact hr)))).1;exact this
  rw[h2,List.getElem?_take,if_pos hq,Array.toList_setIfInBounds,List.getElem?_set,List.getElem_set]
  by_cases hqi:i=q / k
  ·subst hqi
   rw[if_pos rfl,hx,List.getElem?_set]
   by_cases hjr:j=q%k
   ·subst hjr
    rw[if_pos (by omega),if_pos rfl,if_pos (by rw[hjk];exact hlen),if_pos (by rw[e.len];exact hr)]
   ·rw[if_neg (by omega),if_neg hjr,h3]
  ·have hne:i*k+j≠q:=by
    intro hc;apply hqi;rw[←hc,Nat.mul_comm,Nat.mul_add_div hk,Nat.div_eq_of_lt hj,Nat.add_zero]
   rw[if_neg hne,if_neg hqi,h3]
 ·rw[List.getElem?_eq_none (by rw[List.length_take];omega),List.getElem?_eq_none (by rw[rows_length (k:=k),List.length_set];omega)]
theorem OwnR.ents {Lo:List Blk} {v:Value} {l:List Ent} (h:OwnR 66 39 entL Lo v l) (hb:l.length≤1000000000) (hwf:∀e∈l,e.Wf) {w:World} (hw:∀p∈Lo,w.heap[p.1]? =some (.cells p.2.1 p.2.2 (0,0))):EntRow w v l:=by
 obtain⟨p,c,rfl,hr⟩:=h.row hb (D:=snap w) (fun p hp=>⟨_,hw p hp⟩);refine⟨p,c,rfl,hwf,by unfold maxLen;omega,fun hne=>?_⟩;obtain⟨ad,rfl,hc⟩:=hr.cells (snap_holds w) (by decide) hne;refine⟨ad,rfl,fun i hi j hj=>?_⟩;have h1:=rows_at (enc:=entL) l i hi j hj;have h2:(entL l[i])[j]? =some ((entL l[i])[j]'(by rw[encEnt.len];exact hj)):=List.getElem?_eq_getElem _;rw[hc _ _ (h1.trans h2),←h2];unfold entC;rw[List.getElem?_toArray]
theorem RowAt.snapOf {w w':World} {T:TypeId} {k:Nat} {α:Type} {enc:α→List Value} {p:Option Addr} {c:Nat} {l:List α} (h:RowAt (snap w) T k enc p c l) {S:List Nat} {w0:World} {L:List Blk} {F:List Nat} (hs:Sx S w0 w' L (snap w) F):RowAt (snap w') T k enc p c l:=h.mono (fun q hq=>hs.data q hq)
def z0 (e:Ent):Ent:=if e.kind=2 then {e with start:=0} else e
def needE (l:List Pu):List Ent:=(lay 0 0 l).1.map z0
def needF (l:List Pu):Int×Int:=
 if chkF l≠0 then(0,chkF l) else if(encF (needE l)).2≠0 then(0,(encF (needE l)).2) else((lay 0 0 l).2+pkCount (encF (needE l)).1.length+1,0)
theorem chk_ok {l:List Pu} (h:chkF l=0) (ht:∀x∈l,x.text.size≤999999):l.length≤200∧PuOk l:=by
 unfold chkF at h;split at h
 ·cases h
 ·rename_i h1
  refine⟨by omega,fun x hx hk=>?_⟩;split at h
  ·cases h
  ·rename_i h2
   have h3:puBad x=false:=by
    cases hb:puBad x with
    |false=>rfl
    |true=>exact absurd (List.any_eq_true.2 ⟨x,hx,hb⟩) h2
   have hs:=ht x hx;unfold puBad at h3;simp[hk] at h3;omega
theorem lay_wf (start:Int) (hs:0≤start∧start≤1000000):∀(l:List Pu) (n:Int),PuOk l→(∀x∈l,x.e.Wf)→0≤n→n+10000*l.length≤10000000→∀e∈(lay start n l).1,e.Wf
 | [],n,_,_,_,_=>by simp[lay]
 |q::l,n,hk,hw,hn,hb=>by
  simp only[List.length_cons] at hb;push_cast at hb
  have h2:n≤layN n q∧layN n q≤n+10000:=by
   unfold layN;split
   ·have:=pkCount_range (hk q (by simp) (by assumption));omega
   ·omega
  intro e he;rcases List.mem_cons.1 he with rfl |he
  ·have hq:=hw q (by simp)
   unfold layE;split
   ·have:=pkCount_range (hk q (by simp) (by assumption))
    exact⟨hq.kind,hq.stream,hq.n,hq.len,hq.name,hq.hash,⟨by show -9223372036854775808≤start+n;omega,by show start+n≤_;omega⟩,⟨by show -9223372036854775808≤pkCount q.e.len;omega,by show pkCount q.e.len≤_;omega⟩⟩
   ·exact hq
  ·exact lay_wf start hs l _ (fun x hx=>hk x (List.mem_cons_of_mem _ hx)) (fun x hx=>hw x (List.mem_cons_of_mem _ hx)) (by omega) (by omega) e he
theorem z0_wf {e:Ent} (h:e.Wf):(z0 e).Wf:=by
 unfold z0;split
 ·exact⟨h.kind,h.stream,h.n,h.len,h.name,h.hash,⟨by show(-9223372036854775808:Int)≤0;decide,by show(0:Int)≤_;decide⟩,h.count⟩
 ·exact h
theorem encF_len {l:List Ent} (hl:l.length≤1000000) (hw:∀e∈l,e.Wf):(encF l).1.length≤1000000000000:=by
 unfold encF;split
 ·split
  ·have h1:=ents_len (l:=l) (fun e he=>(hw e he).hash)
   have h2:=putL_len l.length 2;simp only[encBytes,List.length_append];omega
  ·decide
 ·decide
theorem z0_step {out:List Ent} {k:Nat} (hlt:k<out.length):∃m:List Ent,(out.take k).map z0++out.drop k=m∧m.length=out.length∧(∀h,m[k]'h=out[k])∧(out.take (k+1)).map z0++out.drop (k+1)=m.set k (z0 out[k]):=by
 refine⟨_,rfl,by simp;omega,fun h=>?_,?_⟩
 ·rw[List.getElem_append_right (by simp;omega)]
  simp[List.length_take,Nat.min_eq_left (Nat.le_of_lt hlt)]
 ·rw[List.set_append_right _ _ (by simp;omega)]
  simp only[List.length_map,List.length_take,Nat.min_eq_left (Nat.le_of_lt hlt),Nat.sub_self];rw[List.drop_eq_getElem_cons hlt,List.set_cons_zero,List.take_succ_eq_append_getElem hlt,List.map_append,List.append_assoc];rfl
set_option maxHeartbeats 4000000 in
theorem need_calls {p:Option Addr} {c:Nat} {l:List Pu} (w:World) (hr:RowAt (snap w) 68 40 puL p c l) (hl:l.length≤1000000) (ht:∀x∈l,x.text.size≤999999) (hwf:∀x∈l,x.e.Wf) (hB:GBegin w) (hG:GSha w):
  Calls Tryz.prog 23 #[.slice p l.length c] w (Ret (.tuple #[.int .i64 (needF l).1,.int .i64 (needF l).2]) w):=by
 have hst:=Sx.start0 w (snap_holds w);have HC:=Lib.hid (fun wx (h:Sx [] w wx [] (snap w) [])=>pcheck_calls wx (hr.snapOf h) hl ht (hB.below h.end) (hG.below h.end))
 by_cases hc:chkF l=0
 case neg=>
  have HE:=Lib.hid (show needF l=(0,chkF l) by unfold needF;rw[if_pos hc]);generalize chkF l=r at*;go_enter Tryz.func23,Tryz.ntmps23;go_wp2_with (first|fail |(with_reducible (refine callB (HC.out _ hst) hst ?_;clear hst;intro w' hst)));go_ret2;exact⟨by rw[HE.out];rfl,hst.end⟩
 case pos=>
  obtain⟨h200,hpo⟩:=chk_ok hc ht;rw[hc] at HC;have hrg:=lay_range 0 l 0 hpo;have hlw:=lay_wf 0 (by omega) l 0 hpo hwf (by omega) (by omega);have hlen:=lay_len 0 l 0;have HU:Hid (needF l=if(encF ((lay 0 0 l).1.map z0)).2≠0 then(0,(encF ((lay 0 0 l).1.map z0)).2) else((lay 0 0 l).2+pkCount (encF ((lay 0 0 l).1.map z0)).1.length+1,0)):=Lib.hid (by unfold needF needE;rw[if_neg (by simp[hc])]);go_enter Tryz.func23,Tryz.ntmps23;go_wp2_with (first|fail |(with_reducible (refine callB (HC.out _ hst) hst ?_;clear hst;intro w' hst)));refine(laid_calls 0 w' (hr.snapOf hst) h200 hpo (by omega)).mono ?_;rintro e w2 ⟨v,Lo,rfl,hown,hs2⟩;have hst:=hst.take hs2;clear hs2;generalize lay 0 0 l=q at*;obtain⟨out,n⟩:=q;simp only at*;obtain⟨pa,cp,rfl⟩:=hown.slice;have HO:=Lib.hid hown;have HLn:=Lib.hid hlen;have hol:out.length≤200:=by omega
  clear hown hlen;go_wp2_with fail;go_loopw [22] (fun iv wr=>∃(k:Nat) (Lo:List Blk),k≤out.length∧iv=.int .i64 k∧Hid (OwnR 66 39 entL Lo (.slice pa out.length cp) ((out.take k).map z0++out.drop k))∧Sx [] w wr (Lo++[]) (snap w) []) (fun iv _=>out.length-(intOf iv).toNat)
  case atStart=>exact⟨0,Lo,Nat.zero_le _,by go_num,by simpa using HO,hst⟩
  case round=>
   clear hst;obtain⟨k,Lo,hk,rfl,HO,hst⟩:=hrel
   by_cases hlt:k<out.length
   ·obtain⟨m,hm,hsz,hgk,hnx⟩:=z0_step hlt
    rw[hm] at HO;clear hm;have HO2:=HO.out;clear HO;rcases HO2 with⟨_,_,e⟩ |⟨g,c',C,rfl,e,h1,h2,h3,h4⟩
    ·rw[e] at hsz;simp at hsz;omega
    injection e with e1 e2 e3
    subst e1 e3;have h37:k*39+37<C.size:=by have:=Nat.mul_le_mul_right 39 hlt;rw[h3];omega
    have hc0:CellAt C (k*39) (.int .i64 out[k].kind):=⟨by have:=OwnR.cells (enc:=entL) h4 (i:=k) (by omega) (j:=0) (by decide);rw[hgk] at this;simpa[entL] using this⟩;have hW:WrAt C (k*39+37) 1 (.int .i64 0) (C.setIfInBounds (k*39+37) (.int .i64 0)):=⟨by simp[Value.cells],by simp[Value.cells];omega,fun x hx=>by simp[Value.cells] at hx;subst hx;rfl,rfl⟩
    have HN:Hid (∀C',C'=(if out[k].kind=2 then C.setIfInBounds (k*39+37) (.int .i64 0) else C)→OwnR 66 39 entL [(g,C',66)] (.slice (some ⟨g,0,none⟩) out.length cp) ((out.take (k+1)).map z0++out.drop (k+1))):=Lib.hid (by
     rintro C' rfl;rw[hnx];refine Or.inr ⟨g,cp,_,rfl,by rw[List.length_set,hsz],by rw[List.length_set];omega,h2,?_,?_⟩
     ·split
      ·rw[Array.size_setIfInBounds,h3]
      ·exact h3
     ·split
      ·rename_i hk2
       rw[List.length_set];refine own_cell (enc:=entL) (by decide) h4 (by omega) (by decide) ?_;rw[hgk];unfold z0;rw[if_pos hk2];rfl
      ·rename_i hk2
       unfold z0;rw[if_neg hk2,←hgk (by omega),List.set_getElem_self]
       exact h4)
    clear hnx h4 hgk e2 hsz h1 h37 h3;generalize out[k]=x at*;have hst:Sx [] w wr [(g,C,66)] (snap w) []:=hst
    by_cases hk2:x.kind=2
    ·rw[if_pos hk2] at HN
     go_wp2_with (with_reducible first|refine x1 rfl rfl rfl hst ?_|(refine xsi rfl rfl rfl rfl hst ?_;clear hst;intro w' hst));go_roundw
     case rel=>exact⟨k+1,_,by omega,by go_num,Lib.hid (HN.out _ rfl),hst⟩
     case measure=>simp[intOf];omega
    ·rw[if_neg hk2] at HN
     go_wp2_with (with_reducible refine x1 rfl rfl rfl hst ?_);go_roundw
     case rel=>exact⟨k+1,_,by omega,by go_num,Lib.hid (HN.out _ rfl),hst⟩
     case measure=>simp[intOf];omega
   ·obtain rfl:k=out.length:=by omega
    have hown:=HO.out;rw[List.take_length,List.drop_length,List.append_nil] at hown
    have hmw:∀e∈out.map z0,e.Wf:=fun e he=>by
     obtain⟨x,hx,rfl⟩:=List.mem_map.1 he;exact z0_wf (hlw x hx)
    have hz:=encF_len (l:=out.map z0) (by have:=HLn.out;simp;omega) hmw;have HEn:=Lib.hid (fun wx (h:Sx [] w wx (Lo++[]) (snap w) [])=>encode_calls _ (out.map z0) wx (hown.ents (by have:=HLn.out;simp;omega) hmw (fun q hq=>h.st.blk q (by simp[hq]))) (by have:=HLn.out;simp;omega));clear hown hmw HO hlw;generalize encF (out.map z0)=r at*;obtain⟨bs,er⟩:=r;simp only at HU HEn hz
    by_cases her:er=0
    ·subst her
     rw[if_neg (by simp)] at HU;have HCn:=Lib.hid (fun wx=>count_calls (bs.length:Int) (by omega) wx);have hpb:0≤pkCount (bs.length:Int)∧pkCount (bs.length:Int)≤1000000000000:=by unfold pkCount;rw[if_neg (by omega)];omega
     rw[show(bs.length:Int)=((mkS bs).size:Int) from rfl] at HU HCn hpb;generalize pkCount ((mkS bs).size:Int)=ct at*;generalize mkS bs=tx at*;go_wp2_with (first|fail |(with_reducible (refine callE (HEn.out _ hst) hst ?_;clear hst;intro w' hst))|(with_reducible (refine callB (HCn.out _) hst ?_;clear hst;intro w' hst)));go_ret2;exact⟨by rw[HU.out];rfl,hst.end⟩
    ·rw[if_pos her] at HU
     go_wp2_with (first|fail |(with_reducible (refine callE (HEn.out _ hst) hst ?_;clear hst;intro w' hst)));go_ret2;exact⟨by rw[HU.out];rfl,hst.end⟩
end Go.Proofs.YtdkeiefgkgpcbaaGreatDoor
