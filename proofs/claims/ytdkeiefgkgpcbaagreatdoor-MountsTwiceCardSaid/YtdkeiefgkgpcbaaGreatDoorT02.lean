/- Steps of the proof: SameSt, LoadAny, DevFail. -/
import Derived.Test.YtdkeiefgkgpcbaaGreatDoorP29
set_option linter.unusedVariables false
set_option linter.unusedSimpArgs false
set_option maxRecDepth 100000
namespace Go.Proofs.YtdkeiefgkgpcbaaGreatDoor
open Go.RowKit
theorem yaH:Tryz.prog.underlying 4=some .bool:=by kernel_rfl
theorem yaI:((Tryz.prog.fieldsOf 143).toList.map fun f=>(f.name,f.type,f.offset))=[("Time",3,0),("Len",3,1),("Hash",39,2),("Run",36,34),("Shredded",4,36)]:=by kernel_rfl
theorem yaJ:((Tryz.prog.fieldsOf 41).toList.map fun f=>(f.name,f.type,f.offset))=[("Number",3,0),("Prev",39,1),("Content",39,33),("Len",3,65),("Run",36,66),("Clock",3,68)]:=by kernel_rfl
theorem yaK:Tryz.prog.underlying 143=some (.struct (Tryz.prog.fieldsOf 143)):=by kernel_rfl
theorem yaL:Tryz.prog.underlying 41=some (.struct (Tryz.prog.fieldsOf 41)):=by kernel_rfl
instance rcH (r:Rec):PartAt (recC r) 2 32 (hashL r.hash):=part_mid [.int .i64 r.time,.int .i64 r.len] (hashL r.hash) _ 2 32 rfl rfl
instance rcR (r:Rec):PartAt (recC r) 34 2 [.int .i64 r.start,.int .i64 r.count]:=part_mid (.int .i64 r.time::.int .i64 r.len::hashL r.hash) [.int .i64 r.start,.int .i64 r.count] [.bool r.shr] 34 2 rfl rfl
instance rc0' (r:Rec):CellAt (recC r) 0 (.int .i64 r.time):=⟨rfl⟩
instance rc1' (r:Rec):CellAt (recC r) 1 (.int .i64 r.len):=⟨rfl⟩
instance rc36' (r:Rec):CellAt (recC r) 36 (.bool r.shr):=⟨rfl⟩
instance sc0' (s:Sl):CellAt (slC s) 0 (.int .i64 s.n):=⟨rfl⟩
instance scP (s:Sl):PartAt (slC s) 1 32 (hashL s.prev):=part_mid [.int .i64 s.n] (hashL s.prev) _ 1 32 rfl rfl
instance scC (s:Sl):PartAt (slC s) 33 32 (hashL s.content):=part_mid (.int .i64 s.n::hashL s.prev) (hashL s.content) _ 33 32 rfl rfl
instance sc65' (s:Sl):CellAt (slC s) 65 (.int .i64 s.len):=⟨rfl⟩
instance scR (s:Sl):PartAt (slC s) 66 2 [.int .i64 s.start,.int .i64 s.count]:=part_mid (Value.int .i64 s.n::(hashL s.prev++(hashL s.content++[Value.int .i64 s.len]))) [.int .i64 s.start,.int .i64 s.count] [.int .i64 s.clock] 66 2 rfl rfl
instance sc68' (s:Sl):CellAt (slC s) 68 (.int .i64 s.clock):=⟨rfl⟩
def recEq (r t:Rec):Bool:=(r.time==t.time)&&((r.len==t.len)&&((h32 r.hash==h32 t.hash)&&(((r.start==t.start)&&((r.count==t.count)&&true))&&((r.shr==t.shr)&&true))))
def slEq (s t:Sl):Bool:=(s.n==t.n)&&((h32 s.prev==h32 t.prev)&&((h32 s.content==h32 t.content)&&((s.len==t.len)&&(((s.start==t.start)&&((s.count==t.count)&&true))&&((s.clock==t.clock)&&true)))))
theorem yaM (r t:Rec) (w:World):(Op.equalIn 10000 143 (.agg (recC r)) (.agg (recC t))).run Tryz.prog w=.ok (recEq r t) w:=by
 rw[run_equalIn_struct (P:=Tryz.prog) w 9999 143 _ _ yaK (by kernel_rfl),eqFields_tri,yaI];exact eqTri_cons (by decide) (part_one w) (part_one w) (run_equalIn_int (P:=Tryz.prog) w 9998 _ _ _ _ _ underInt)
  (eqTri_cons (by decide) (part_one w) (part_one w) (run_equalIn_int (P:=Tryz.prog) w 9998 _ _ _ _ _ underInt)
  (eqTri_cons (by decide) (part_agg w) (part_agg w) (equal_hashL 9997 _ _ w)
  (eqTri_cons (by decide) (part_agg w) (part_agg w) (equal_run 9997 _ _ _ _ w)
  (eqTri_cons (by decide) (part_one w) (part_one w) (run_equalIn_bool' (P:=Tryz.prog) w 9998 _ _ _ yaH) eqTri_nil))))
theorem yaN (s t:Sl) (w:World):(Op.equalIn 10000 41 (.agg (slC s)) (.agg (slC t))).run Tryz.prog w=.ok (slEq s t) w:=by
 rw[run_equalIn_struct (P:=Tryz.prog) w 9999 41 _ _ yaL (by kernel_rfl),eqFields_tri,yaJ];exact eqTri_cons (by decide) (part_one w) (part_one w) (run_equalIn_int (P:=Tryz.prog) w 9998 _ _ _ _ _ underInt)
  (eqTri_cons (by decide) (part_agg w) (part_agg w) (equal_hashL 9997 _ _ w)
  (eqTri_cons (by decide) (part_agg w) (part_agg w) (equal_hashL 9997 _ _ w)
  (eqTri_cons (by decide) (part_one w) (part_one w) (run_equalIn_int (P:=Tryz.prog) w 9998 _ _ _ _ _ underInt)
  (eqTri_cons (by decide) (part_agg w) (part_agg w) (equal_run 9997 _ _ _ _ w)
  (eqTri_cons (by decide) (part_one w) (part_one w) (run_equalIn_int (P:=Tryz.prog) w 9998 _ _ _ _ _ underInt) eqTri_nil)))))
theorem yaO (op:BinOp) (x y:Operand) (xs ys:Array Value) (w:World):(eqGuard op 143 x y (.agg xs) (.agg ys)).run Tryz.prog w=.ok () w:=run_eqGuard_agg (P:=Tryz.prog) w op _ x y xs ys (by kernel_rfl)
theorem yaP (op:BinOp) (x y:Operand) (xs ys:Array Value) (w:World):(eqGuard op 41 x y (.agg xs) (.agg ys)).run Tryz.prog w=.ok () w:=run_eqGuard_agg (P:=Tryz.prog) w op _ x y xs ys (by kernel_rfl)
theorem yaQ {ρ:Operand→Value} {o:Oper} {x y:Operand} {U:TypeId} {r t:Rec} {b:Bool} (ho:o.op=.binOp .neq 143 x y U) (hx:ρ x=.agg (recL r).toArray) (hy:ρ y=.agg (recL t).toArray) (hb:(!recEq r t)=b) (w:World):(execOp ρ o).run Tryz.prog w=.ok (.value (.bool b)) w:=by
 unfold execOp;rw[ho];simp only[hx,hy,Sem.run_bind,yaO,Result.andThen_ok];rw[run_neq_struct,show(Op.equalIn 10000 143 (.agg (recL r).toArray) (.agg (recL t).toArray)).run Tryz.prog w=_ from yaM r t w,←hb];rfl
theorem e_eqS {ρ:Operand→Value} {o:Oper} {x y:Operand} {U:TypeId} {s t:Sl} {b:Bool} (ho:o.op=.binOp .eql 41 x y U) (hx:ρ x=.agg (slL s).toArray) (hy:ρ y=.agg (slL t).toArray) (hb:slEq s t=b) (w:World):(execOp ρ o).run Tryz.prog w=.ok (.value (.bool b)) w:=by
 unfold execOp;rw[ho];simp only[hx,hy,Sem.run_bind,yaP,Result.andThen_ok];rw[run_eql_struct,show(Op.equalIn 10000 41 (.agg (slL s).toArray) (.agg (slL t).toArray)).run Tryz.prog w=_ from yaN s t w,←hb];rfl
theorem yaR {ρ:Operand→Value} {o:Oper} {x y:Operand} {U:TypeId} {s t:Sl} {b:Bool} (ho:o.op=.binOp .neq 41 x y U) (hx:ρ x=.agg (slL s).toArray) (hy:ρ y=.agg (slL t).toArray) (hb:(!slEq s t)=b) (w:World):(execOp ρ o).run Tryz.prog w=.ok (.value (.bool b)) w:=by
 unfold execOp;rw[ho];simp only[hx,hy,Sem.run_bind,yaP,Result.andThen_ok];rw[run_neq_struct,show(Op.equalIn 10000 41 (.agg (slL s).toArray) (.agg (slL t).toArray)).run Tryz.prog w=_ from yaN s t w,←hb];rfl
theorem yaS (r:Rec):recEq r r=true:=by simp[recEq]
theorem yaT (s:Sl):slEq s s=true:=by simp[slEq]
section
variable {D:Dat}
set_option maxHeartbeats 600000 in
theorem yaU {ph ph2:Option Addr} {ch ch2:Nat} {pr pr2:Option Addr} {cr cr2:Nat} {s:Stm} (ha:StmAt D ⟨ph,ch,pr,cr,s⟩) (hb:StmAt D ⟨ph2,ch2,pr2,cr2,s⟩) (w:World) (hD:Holds D w):
  Calls Tryz.prog 33 #[.agg (svL ⟨ph,ch,pr,cr,s⟩).toArray,.agg (svL ⟨ph2,ch2,pr2,cr2,s⟩).toArray] w (Ret (.bool true) w):=by
 have hst:=Sx.start0 w hD;have h1:RowAt D 9 1 strL ph ch s.holds:=ha.holds;have h2:RowAt D 9 1 strL ph2 ch2 s.holds:=hb.holds;have r1:RowAt D 143 37 recL pr cr s.recs:=ha.recs;have r2:RowAt D 143 37 recL pr2 cr2 s.recs:=hb.recs;have g1:=h1.big;have g2:=r1.big;have hC:∀v:Sv,(svL v).toArray=svC v:=fun _=>rfl
 rw[hC,hC];clear ha hb hC;go_enter Tryz.func33,Tryz.ntmps33;go_wp2_with (first|(with_reducible refine xval rfl 11 rfl (.bool false) (fun w=>e_neqs rfl rfl rfl (by simp) w) ?_)|(with_reducible refine xval rfl 17 rfl (.bool false) (fun w=>Fx.e_neq rfl rfl rfl (by simp) w) ?_)|(with_reducible refine xval rfl 26 rfl (.bool false) (fun w=>Fx.e_neq rfl rfl rfl (by simp) w) ?_)|(with_reducible refine xval rfl 35 rfl (.bool false) (fun w=>Fx.e_neq rfl rfl rfl (by simp) w) ?_)|((with_reducible refine xbaS 2 rfl rfl rfl hst rfl ?_);clear hst;intro b2 w' hst)|((with_reducible refine xbaS 3 rfl rfl rfl hst rfl ?_);clear hst;intro b3 w' hst)|(with_reducible refine x1 rfl rfl rfl hst ?_));generalize hact:Act.mk _ _=act;have hv0:act.tmps.getD 0 undef=.agg (svC ⟨ph,ch,pr,cr,s⟩):=by rw[←hact];rfl
 have hv1:act.tmps.getD 1 undef=.agg (svC ⟨ph2,ch2,pr2,cr2,s⟩):=by rw[←hact];rfl
 have hv2:act.tmps.getD 2 undef=.pointer (some ⟨b2,0,none⟩):=by rw[←hact];rfl
 have hv3:act.tmps.getD 3 undef=.pointer (some ⟨b3,0,none⟩):=by rw[←hact];rfl
 have hv5:act.tmps.getD 5 undef=.int .i64 0:=by rw[←hact];rfl
 obtain⟨fY,hfY,hact2⟩:=act_lit act 73 (by rw[←hact];rfl) (by rw[←hact]);clear hact;have he0:fY 0=.agg (svC ⟨ph,ch,pr,cr,s⟩):=(hfY 0).symm.trans hv0;have he1:fY 1=.agg (svC ⟨ph2,ch2,pr2,cr2,s⟩):=(hfY 1).symm.trans hv1;have he2:fY 2=.pointer (some ⟨b2,0,none⟩):=(hfY 2).symm.trans hv2;have he3:fY 3=.pointer (some ⟨b3,0,none⟩):=(hfY 3).symm.trans hv3;have he5:fY 5=.int .i64 0:=(hfY 5).symm.trans hv5;simp only[show List.range 73=[0,1,2,3,4,5,6,7,8,9,10,11,12,13,14,15,16,17,18,19,20,21,22,23,24,25,26,27,28,29,30,31,32,33,34,35,36,37,38,39,40,41,42,43,44,45,46,47,48,49,50,51,52,53,54,55,56,57,58,59,60,61,62,63,64,65,66,67,68,69,70,71,72] from rfl,List.map_cons,List.map_nil,he0,he1,he2,he3,he5] at hact2;clear hfY hv0 he0 hv1 he1 hv2 he2 hv3 he3 hv5 he5;subst hact2;go_loopw [5] (fun iv wr=>∃k:Nat,k≤s.holds.length∧iv=.int .i64 k∧Sx [] w wr [(b3,svC ⟨ph2,ch2,pr2,cr2,s⟩,90),(b2,svC ⟨ph,ch,pr,cr,s⟩,90)] D []) (fun iv _=>s.holds.length-(intOf iv).toNat)
 case atStart=>exact⟨0,Nat.zero_le _,by go_num,hst⟩
 case round=>
  clear hst;obtain⟨k,hk,rfl,hst⟩:=hrel
  by_cases hlt:k<s.holds.length
  ·obtain⟨ga,oa,rfl⟩:=h1.at_some hlt
   obtain⟨gb,ob,rfl⟩:=h2.at_some hlt;have e1:LdD D 9 ⟨ga,oa+k*1,none⟩ (.string s.holds[k]):=by rw[Nat.mul_one];exact h1.ld1 hlt rfl
   have e2:LdD D 9 ⟨gb,ob+k*1,none⟩ (.string s.holds[k]):=by rw[Nat.mul_one];exact h2.ld1 hlt rfl
   generalize s.holds[k]=x at*;go_wp2_with (with_reducible refine x1 rfl rfl rfl hst ?_);refine Fx.go (fun _=>false) (fun i=> !(i==1||i==4||i==6||i==9)) (fun _=>false) (List.range 11) rfl hst (by kernel_rfl) (by kernel_rfl) (by kernel_rfl) (by kernel_rfl) (by kernel_rfl) ?_;clear hst
   repeat(first|refine Fx.val rfl rfl rfl rfl (Fx.e_mv rfl rfl) ?_|refine Fx.fa rfl rfl rfl rfl rfl rfl ?_|refine Fx.l1 rfl rfl rfl rfl rfl rfl ?_|refine Fx.lD rfl rfl rfl rfl rfl rfl ?_|refine Fx.ix rfl rfl rfl rfl rfl rfl rfl (by omega) ?_)
   refine Fx.val rfl rfl rfl rfl (v:=.bool false) (e_neqs rfl rfl rfl (by simp)) ?_;intro w' hst;generalize hact:Fx.mkO _ _=act;have hv0:act.tmps.getD 0 undef=.agg (svC ⟨some ⟨ga,oa,none⟩,ch,pr,cr,s⟩):=by rw[←hact];kernel_rfl
   have hv1:act.tmps.getD 1 undef=.agg (svC ⟨some ⟨gb,ob,none⟩,ch2,pr2,cr2,s⟩):=by rw[←hact];kernel_rfl
   have hv2:act.tmps.getD 2 undef=.pointer (some ⟨b2,0,none⟩):=by rw[←hact];kernel_rfl
   have hv3:act.tmps.getD 3 undef=.pointer (some ⟨b3,0,none⟩):=by rw[←hact];kernel_rfl
   have hv5:act.tmps.getD 5 undef=.int .i64 k:=by rw[←hact];kernel_rfl
   have hv6:act.tmps.getD 6 undef=fY 6:=by rw[←hact];kernel_rfl
   have hv7:act.tmps.getD 7 undef=fY 7:=by rw[←hact];kernel_rfl
   have hv8:act.tmps.getD 8 undef=fY 8:=by rw[←hact];kernel_rfl
   have hv9:act.tmps.getD 9 undef=fY 9:=by rw[←hact];kernel_rfl
   have hv10:act.tmps.getD 10 undef=fY 10:=by rw[←hact];kernel_rfl
   have hv11:act.tmps.getD 11 undef=fY 11:=by rw[←hact];kernel_rfl
   have hv12:act.tmps.getD 12 undef=fY 12:=by rw[←hact];kernel_rfl
   have hv13:act.tmps.getD 13 undef=fY 13:=by rw[←hact];kernel_rfl
   have hv14:act.tmps.getD 14 undef=fY 14:=by rw[←hact];kernel_rfl
   have hv15:act.tmps.getD 15 undef=fY 15:=by rw[←hact];kernel_rfl
   have hv16:act.tmps.getD 16 undef=fY 16:=by rw[←hact];kernel_rfl
   have hv17:act.tmps.getD 17 undef=fY 17:=by rw[←hact];kernel_rfl
   have hv18:act.tmps.getD 18 undef=fY 18:=by rw[←hact];kernel_rfl
   have hv19:act.tmps.getD 19 undef=fY 19:=by rw[←hact];kernel_rfl
   have hv20:act.tmps.getD 20 undef=fY 20:=by rw[←hact];kernel_rfl
   have hv21:act.tmps.getD 21 undef=fY 21:=by rw[←hact];kernel_rfl
   have hv22:act.tmps.getD 22 undef=fY 22:=by rw[←hact];kernel_rfl
   have hv23:act.tmps.getD 23 undef=fY 23:=by rw[←hact];kernel_rfl
   have hv24:act.tmps.getD 24 undef=fY 24:=by rw[←hact];kernel_rfl
   have hv25:act.tmps.getD 25 undef=fY 25:=by rw[←hact];kernel_rfl
   have hv26:act.tmps.getD 26 undef=fY 26:=by rw[←hact];kernel_rfl
   have hv27:act.tmps.getD 27 undef=fY 27:=by rw[←hact];kernel_rfl
   have hv28:act.tmps.getD 28 undef=fY 28:=by rw[←hact];kernel_rfl
   have hv29:act.tmps.getD 29 undef=fY 29:=by rw[←hact];kernel_rfl
   have hv30:act.tmps.getD 30 undef=fY 30:=by rw[←hact];kernel_rfl
   have hv31:act.tmps.getD 31 undef=fY 31:=by rw[←hact];kernel_rfl
   have hv32:act.tmps.getD 32 undef=fY 32:=by rw[←hact];kernel_rfl
   have hv33:act.tmps.getD 33 undef=fY 33:=by rw[←hact];kernel_rfl
   have hv34:act.tmps.getD 34 undef=fY 34:=by rw[←hact];kernel_rfl
   have hv35:act.tmps.getD 35 undef=fY 35:=by rw[←hact];kernel_rfl
   have hv36:act.tmps.getD 36 undef=fY 36:=by rw[←hact];kernel_rfl
   have hv54:act.tmps.getD 54 undef=.bool false:=by rw[←hact];kernel_rfl
   have hv55:act.tmps.getD 55 undef=fY 55:=by rw[←hact];kernel_rfl
   have hv56:act.tmps.getD 56 undef=fY 56:=by rw[←hact];kernel_rfl
   have hv57:act.tmps.getD 57 undef=fY 57:=by rw[←hact];kernel_rfl
   have hv58:act.tmps.getD 58 undef=fY 58:=by rw[←hact];kernel_rfl
   have hv59:act.tmps.getD 59 undef=fY 59:=by rw[←hact];kernel_rfl
   have hv60:act.tmps.getD 60 undef=fY 60:=by rw[←hact];kernel_rfl
   have hv61:act.tmps.getD 61 undef=fY 61:=by rw[←hact];kernel_rfl
   have hv62:act.tmps.getD 62 undef=fY 62:=by rw[←hact];kernel_rfl
   have hv63:act.tmps.getD 63 undef=fY 63:=by rw[←hact];kernel_rfl
   have hv64:act.tmps.getD 64 undef=fY 64:=by rw[←hact];kernel_rfl
   have hv65:act.tmps.getD 65 undef=fY 65:=by rw[←hact];kernel_rfl
   have hv66:act.tmps.getD 66 undef=fY 66:=by rw[←hact];kernel_rfl
   have hv67:act.tmps.getD 67 undef=fY 67:=by rw[←hact];kernel_rfl
   have hv68:act.tmps.getD 68 undef=fY 68:=by rw[←hact];kernel_rfl
   have hv69:act.tmps.getD 69 undef=fY 69:=by rw[←hact];kernel_rfl
   have hv70:act.tmps.getD 70 undef=fY 70:=by rw[←hact];kernel_rfl
   have hv71:act.tmps.getD 71 undef=fY 71:=by rw[←hact];kernel_rfl
   have hv72:act.tmps.getD 72 undef=fY 72:=by rw[←hact];kernel_rfl
   obtain⟨fZ,hfZ,hact2⟩:=act_lit act 73 (by rw[←hact];kernel_rfl) (by rw[←hact];kernel_rfl);clear hact;have he0:fZ 0=.agg (svC ⟨some ⟨ga,oa,none⟩,ch,pr,cr,s⟩):=(hfZ 0).symm.trans hv0;have he1:fZ 1=.agg (svC ⟨some ⟨gb,ob,none⟩,ch2,pr2,cr2,s⟩):=(hfZ 1).symm.trans hv1;have he2:fZ 2=.pointer (some ⟨b2,0,none⟩):=(hfZ 2).symm.trans hv2;have he3:fZ 3=.pointer (some ⟨b3,0,none⟩):=(hfZ 3).symm.trans hv3;have he5:fZ 5=.int .i64 k:=(hfZ 5).symm.trans hv5;have he6:fZ 6=fY 6:=(hfZ 6).symm.trans hv6;have he7:fZ 7=fY 7:=(hfZ 7).symm.trans hv7;have he8:fZ 8=fY 8:=(hfZ 8).symm.trans hv8;have he9:fZ 9=fY 9:=(hfZ 9).symm.trans hv9;have he10:fZ 10=fY 10:=(hfZ 10).symm.trans hv10;have he11:fZ 11=fY 11:=(hfZ 11).symm.trans hv11;have he12:fZ 12=fY 12:=(hfZ 12).symm.trans hv12;have he13:fZ 13=fY 13:=(hfZ 13).symm.trans hv13;have he14:fZ 14=fY 14:=(hfZ 14).symm.trans hv14;have he15:fZ 15=fY 15:=(hfZ 15).symm.trans hv15;have he16:fZ 16=fY 16:=(hfZ 16).symm.trans hv16;have he17:fZ 17=fY 17:=(hfZ 17).symm.trans hv17;have he18:fZ 18=fY 18:=(hfZ 18).symm.trans hv18;have he19:fZ 19=fY 19:=(hfZ 19).symm.trans hv19;have he20:fZ 20=fY 20:=(hfZ 20).symm.trans hv20;have he21:fZ 21=fY 21:=(hfZ 21).symm.trans hv21;have he22:fZ 22=fY 22:=(hfZ 22).symm.trans hv22;have he23:fZ 23=fY 23:=(hfZ 23).symm.trans hv23;have he24:fZ 24=fY 24:=(hfZ 24).symm.trans hv24;have he25:fZ 25=fY 25:=(hfZ 25).symm.trans hv25;have he26:fZ 26=fY 26:=(hfZ 26).symm.trans hv26;have he27:fZ 27=fY 27:=(hfZ 27).symm.trans hv27;have he28:fZ 28=fY 28:=(hfZ 28).symm.trans hv28;have he29:fZ 29=fY 29:=(hfZ 29).symm.trans hv29;have he30:fZ 30=fY 30:=(hfZ 30).symm.trans hv30;have he31:fZ 31=fY 31:=(hfZ 31).symm.trans hv31;have he32:fZ 32=fY 32:=(hfZ 32).symm.trans hv32;have he33:fZ 33=fY 33:=(hfZ 33).symm.trans hv33;have he34:fZ 34=fY 34:=(hfZ 34).symm.trans hv34;have he35:fZ 35=fY 35:=(hfZ 35).symm.trans hv35;have he36:fZ 36=fY 36:=(hfZ 36).symm.trans hv36;have he54:fZ 54=.bool false:=(hfZ 54).symm.trans hv54;have he55:fZ 55=fY 55:=(hfZ 55).symm.trans hv55;have he56:fZ 56=fY 56:=(hfZ 56).symm.trans hv56;have he57:fZ 57=fY 57:=(hfZ 57).symm.trans hv57;have he58:fZ 58=fY 58:=(hfZ 58).symm.trans hv58;have he59:fZ 59=fY 59:=(hfZ 59).symm.trans hv59;have he60:fZ 60=fY 60:=(hfZ 60).symm.trans hv60;have he61:fZ 61=fY 61:=(hfZ 61).symm.trans hv61;have he62:fZ 62=fY 62:=(hfZ 62).symm.trans hv62;have he63:fZ 63=fY 63:=(hfZ 63).symm.trans hv63;have he64:fZ 64=fY 64:=(hfZ 64).symm.trans hv64;have he65:fZ 65=fY 65:=(hfZ 65).symm.trans hv65;have he66:fZ 66=fY 66:=(hfZ 66).symm.trans hv66;have he67:fZ 67=fY 67:=(hfZ 67).symm.trans hv67;have he68:fZ 68=fY 68:=(hfZ 68).symm.trans hv68;have he69:fZ 69=fY 69:=(hfZ 69).symm.trans hv69;have he70:fZ 70=fY 70:=(hfZ 70).symm.trans hv70;have he71:fZ 71=fY 71:=(hfZ 71).symm.trans hv71;have he72:fZ 72=fY 72:=(hfZ 72).symm.trans hv72;simp only[show List.range 73=[0,1,2,3,4,5,6,7,8,9,10,11,12,13,14,15,16,17,18,19,20,21,22,23,24,25,26,27,28,29,30,31,32,33,34,35,36,37,38,39,40,41,42,43,44,45,46,47,48,49,50,51,52,53,54,55,56,57,58,59,60,61,62,63,64,65,66,67,68,69,70,71,72] from rfl,List.map_cons,List.map_nil,he0,he1,he2,he3,he5,he6,he7,he8,he9,he10,he11,he12,he13,he14,he15,he16,he17,he18,he19,he20,he21,he22,he23,he24,he25,he26,he27,he28,he29,he30,he31,he32,he33,he34,he35,he36,he54,he55,he56,he57,he58,he59,he60,he61,he62,he63,he64,he65,he66,he67,he68,he69,he70,he71,he72] at hact2;clear hfZ hv0 he0 hv1 he1 hv2 he2 hv3 he3 hv5 he5 hv6 he6 hv7 he7 hv8 he8 hv9 he9 hv10 he10 hv11 he11 hv12 he12 hv13 he13 hv14 he14 hv15 he15 hv16 he16 hv17 he17 hv18 he18 hv19 he19 hv20 he20 hv21 he21 hv22 he22 hv23 he23 hv24 he24 hv25 he25 hv26 he26 hv27 he27 hv28 he28 hv29 he29 hv30 he30 hv31 he31 hv32 he32 hv33 he33 hv34 he34 hv35 he35 hv36 he36 hv54 he54 hv55 he55 hv56 he56 hv57 he57 hv58 he58 hv59 he59 hv60 he60 hv61 he61 hv62 he62 hv63 he63 hv64 he64 hv65 he65 hv66 he66 hv67 he67 hv68 he68 hv69 he69 hv70 he70 hv71 he71 hv72 he72;subst hact2;go_wp2_with fail;go_roundw
   case rel=>exact⟨k+1,by omega,by go_num,hst⟩
   case measure=>simp[intOf];omega
  ·obtain rfl:k=s.holds.length:=by omega
   go_wp2_with (with_reducible refine x1 rfl rfl rfl hst ?_);generalize hact:Act.mk _ _=act;have hv0:act.tmps.getD 0 undef=.agg (svC ⟨ph,ch,pr,cr,s⟩):=by rw[←hact];rfl
   have hv1:act.tmps.getD 1 undef=.agg (svC ⟨ph2,ch2,pr2,cr2,s⟩):=by rw[←hact];rfl
   have hv2:act.tmps.getD 2 undef=.pointer (some ⟨b2,0,none⟩):=by rw[←hact];rfl
   have hv3:act.tmps.getD 3 undef=.pointer (some ⟨b3,0,none⟩):=by rw[←hact];rfl
   have hv6:act.tmps.getD 6 undef=.int .i64 0:=by rw[←hact];rfl
   obtain⟨gY,hgY,hact2⟩:=act_lit act 73 (by rw[←hact];rfl) (by rw[←hact]);clear hact;have he0:gY 0=.agg (svC ⟨ph,ch,pr,cr,s⟩):=(hgY 0).symm.trans hv0;have he1:gY 1=.agg (svC ⟨ph2,ch2,pr2,cr2,s⟩):=(hgY 1).symm.trans hv1;have he2:gY 2=.pointer (some ⟨b2,0,none⟩):=(hgY 2).symm.trans hv2;have he3:gY 3=.pointer (some ⟨b3,0,none⟩):=(hgY 3).symm.trans hv3;have he6:gY 6=.int .i64 0:=(hgY 6).symm.trans hv6;simp only[show List.range 73=[0,1,2,3,4,5,6,7,8,9,10,11,12,13,14,15,16,17,18,19,20,21,22,23,24,25,26,27,28,29,30,31,32,33,34,35,36,37,38,39,40,41,42,43,44,45,46,47,48,49,50,51,52,53,54,55,56,57,58,59,60,61,62,63,64,65,66,67,68,69,70,71,72] from rfl,List.map_cons,List.map_nil,he0,he1,he2,he3,he6] at hact2;clear hgY hv0 he0 hv1 he1 hv2 he2 hv3 he3 hv6 he6;subst hact2;go_loopw [6] (fun iv wr=>∃k:Nat,k≤s.recs.length∧iv=.int .i64 k∧Sx [] w wr [(b3,svC ⟨ph2,ch2,pr2,cr2,s⟩,90),(b2,svC ⟨ph,ch,pr,cr,s⟩,90)] D []) (fun iv _=>s.recs.length-(intOf iv).toNat)
   case atStart=>exact⟨0,Nat.zero_le _,by go_num,hst⟩
   case round=>
    clear hst;obtain⟨k,hk,rfl,hst⟩:=hrel
    by_cases hlt:k<s.recs.length
    ·obtain⟨ga,oa,rfl⟩:=r1.at_some hlt
     obtain⟨gb,ob,rfl⟩:=r2.at_some hlt;have e1:LdD D 143 ⟨ga,oa+k*37,none⟩ (.agg (recL s.recs[k]).toArray):=r1.lda hlt;have e2:LdD D 143 ⟨gb,ob+k*37,none⟩ (.agg (recL s.recs[k]).toArray):=r2.lda hlt;generalize s.recs[k]=x at*;go_wp2_with (with_reducible refine x1 rfl rfl rfl hst ?_);refine Fx.go (fun _=>false) (fun i=> !(i==1||i==4||i==6||i==9)) (fun _=>false) (List.range 11) rfl hst (by kernel_rfl) (by kernel_rfl) (by kernel_rfl) (by kernel_rfl) (by kernel_rfl) ?_;clear hst
     repeat(first|refine Fx.val rfl rfl rfl rfl (Fx.e_mv rfl rfl) ?_|refine Fx.fa rfl rfl rfl rfl rfl rfl ?_|refine Fx.l1 rfl rfl rfl rfl rfl rfl ?_|refine Fx.lD rfl rfl rfl rfl rfl rfl ?_|refine Fx.ix rfl rfl rfl rfl rfl rfl rfl (by omega) ?_)
     refine Fx.val rfl rfl rfl rfl (v:=.bool false) (yaQ rfl rfl rfl (by rw[yaS];rfl)) ?_;intro w' hst;generalize hact:Fx.mkO _ _=act;have hv0:act.tmps.getD 0 undef=.agg (svC ⟨ph,ch,some ⟨ga,oa,none⟩,cr,s⟩):=by rw[←hact];kernel_rfl
     have hv1:act.tmps.getD 1 undef=.agg (svC ⟨ph2,ch2,some ⟨gb,ob,none⟩,cr2,s⟩):=by rw[←hact];kernel_rfl
     have hv2:act.tmps.getD 2 undef=.pointer (some ⟨b2,0,none⟩):=by rw[←hact];kernel_rfl
     have hv3:act.tmps.getD 3 undef=.pointer (some ⟨b3,0,none⟩):=by rw[←hact];kernel_rfl
     have hv5:act.tmps.getD 5 undef=gY 5:=by rw[←hact];kernel_rfl
     have hv6:act.tmps.getD 6 undef=.int .i64 k:=by rw[←hact];kernel_rfl
     have hv7:act.tmps.getD 7 undef=gY 7:=by rw[←hact];kernel_rfl
     have hv8:act.tmps.getD 8 undef=gY 8:=by rw[←hact];kernel_rfl
     have hv9:act.tmps.getD 9 undef=gY 9:=by rw[←hact];kernel_rfl
     have hv10:act.tmps.getD 10 undef=gY 10:=by rw[←hact];kernel_rfl
     have hv11:act.tmps.getD 11 undef=gY 11:=by rw[←hact];kernel_rfl
     have hv12:act.tmps.getD 12 undef=gY 12:=by rw[←hact];kernel_rfl
     have hv13:act.tmps.getD 13 undef=gY 13:=by rw[←hact];kernel_rfl
     have hv14:act.tmps.getD 14 undef=gY 14:=by rw[←hact];kernel_rfl
     have hv15:act.tmps.getD 15 undef=gY 15:=by rw[←hact];kernel_rfl
     have hv16:act.tmps.getD 16 undef=gY 16:=by rw[←hact];kernel_rfl
     have hv17:act.tmps.getD 17 undef=gY 17:=by rw[←hact];kernel_rfl
     have hv18:act.tmps.getD 18 undef=gY 18:=by rw[←hact];kernel_rfl
     have hv19:act.tmps.getD 19 undef=gY 19:=by rw[←hact];kernel_rfl
     have hv20:act.tmps.getD 20 undef=gY 20:=by rw[←hact];kernel_rfl
     have hv21:act.tmps.getD 21 undef=gY 21:=by rw[←hact];kernel_rfl
     have hv22:act.tmps.getD 22 undef=gY 22:=by rw[←hact];kernel_rfl
     have hv23:act.tmps.getD 23 undef=gY 23:=by rw[←hact];kernel_rfl
     have hv24:act.tmps.getD 24 undef=gY 24:=by rw[←hact];kernel_rfl
     have hv25:act.tmps.getD 25 undef=gY 25:=by rw[←hact];kernel_rfl
     have hv26:act.tmps.getD 26 undef=gY 26:=by rw[←hact];kernel_rfl
     have hv27:act.tmps.getD 27 undef=gY 27:=by rw[←hact];kernel_rfl
     have hv28:act.tmps.getD 28 undef=gY 28:=by rw[←hact];kernel_rfl
     have hv29:act.tmps.getD 29 undef=gY 29:=by rw[←hact];kernel_rfl
     have hv30:act.tmps.getD 30 undef=gY 30:=by rw[←hact];kernel_rfl
     have hv31:act.tmps.getD 31 undef=gY 31:=by rw[←hact];kernel_rfl
     have hv32:act.tmps.getD 32 undef=gY 32:=by rw[←hact];kernel_rfl
     have hv33:act.tmps.getD 33 undef=gY 33:=by rw[←hact];kernel_rfl
     have hv34:act.tmps.getD 34 undef=gY 34:=by rw[←hact];kernel_rfl
     have hv35:act.tmps.getD 35 undef=gY 35:=by rw[←hact];kernel_rfl
     have hv36:act.tmps.getD 36 undef=gY 36:=by rw[←hact];kernel_rfl
     have hv37:act.tmps.getD 37 undef=gY 37:=by rw[←hact];kernel_rfl
     have hv38:act.tmps.getD 38 undef=gY 38:=by rw[←hact];kernel_rfl
     have hv39:act.tmps.getD 39 undef=gY 39:=by rw[←hact];kernel_rfl
     have hv40:act.tmps.getD 40 undef=gY 40:=by rw[←hact];kernel_rfl
     have hv41:act.tmps.getD 41 undef=gY 41:=by rw[←hact];kernel_rfl
     have hv42:act.tmps.getD 42 undef=gY 42:=by rw[←hact];kernel_rfl
     have hv43:act.tmps.getD 43 undef=gY 43:=by rw[←hact];kernel_rfl
     have hv44:act.tmps.getD 44 undef=gY 44:=by rw[←hact];kernel_rfl
     have hv45:act.tmps.getD 45 undef=gY 45:=by rw[←hact];kernel_rfl
     have hv46:act.tmps.getD 46 undef=gY 46:=by rw[←hact];kernel_rfl
     have hv47:act.tmps.getD 47 undef=gY 47:=by rw[←hact];kernel_rfl
     have hv48:act.tmps.getD 48 undef=gY 48:=by rw[←hact];kernel_rfl
     have hv49:act.tmps.getD 49 undef=gY 49:=by rw[←hact];kernel_rfl
     have hv50:act.tmps.getD 50 undef=gY 50:=by rw[←hact];kernel_rfl
     have hv51:act.tmps.getD 51 undef=gY 51:=by rw[←hact];kernel_rfl
     have hv52:act.tmps.getD 52 undef=gY 52:=by rw[←hact];kernel_rfl
     have hv53:act.tmps.getD 53 undef=gY 53:=by rw[←hact];kernel_rfl
     have hv54:act.tmps.getD 54 undef=gY 54:=by rw[←hact];kernel_rfl
     have hv72:act.tmps.getD 72 undef=.bool false:=by rw[←hact];kernel_rfl
     obtain⟨fZ,hfZ,hact2⟩:=act_lit act 73 (by rw[←hact];kernel_rfl) (by rw[←hact];kernel_rfl);clear hact;have he0:fZ 0=.agg (svC ⟨ph,ch,some ⟨ga,oa,none⟩,cr,s⟩):=(hfZ 0).symm.trans hv0;have he1:fZ 1=.agg (svC ⟨ph2,ch2,some ⟨gb,ob,none⟩,cr2,s⟩):=(hfZ 1).symm.trans hv1;have he2:fZ 2=.pointer (some ⟨b2,0,none⟩):=(hfZ 2).symm.trans hv2;have he3:fZ 3=.pointer (some ⟨b3,0,none⟩):=(hfZ 3).symm.trans hv3;have he5:fZ 5=gY 5:=(hfZ 5).symm.trans hv5;have he6:fZ 6=.int .i64 k:=(hfZ 6).symm.trans hv6;have he7:fZ 7=gY 7:=(hfZ 7).symm.trans hv7;have he8:fZ 8=gY 8:=(hfZ 8).symm.trans hv8;have he9:fZ 9=gY 9:=(hfZ 9).symm.trans hv9;have he10:fZ 10=gY 10:=(hfZ 10).symm.trans hv10;have he11:fZ 11=gY 11:=(hfZ 11).symm.trans hv11;have he12:fZ 12=gY 12:=(hfZ 12).symm.trans hv12;have he13:fZ 13=gY 13:=(hfZ 13).symm.trans hv13;have he14:fZ 14=gY 14:=(hfZ 14).symm.trans hv14;have he15:fZ 15=gY 15:=(hfZ 15).symm.trans hv15;have he16:fZ 16=gY 16:=(hfZ 16).symm.trans hv16;have he17:fZ 17=gY 17:=(hfZ 17).symm.trans hv17;have he18:fZ 18=gY 18:=(hfZ 18).symm.trans hv18;have he19:fZ 19=gY 19:=(hfZ 19).symm.trans hv19;have he20:fZ 20=gY 20:=(hfZ 20).symm.trans hv20;have he21:fZ 21=gY 21:=(hfZ 21).symm.trans hv21;have he22:fZ 22=gY 22:=(hfZ 22).symm.trans hv22;have he23:fZ 23=gY 23:=(hfZ 23).symm.trans hv23;have he24:fZ 24=gY 24:=(hfZ 24).symm.trans hv24;have he25:fZ 25=gY 25:=(hfZ 25).symm.trans hv25;have he26:fZ 26=gY 26:=(hfZ 26).symm.trans hv26;have he27:fZ 27=gY 27:=(hfZ 27).symm.trans hv27;have he28:fZ 28=gY 28:=(hfZ 28).symm.trans hv28;have he29:fZ 29=gY 29:=(hfZ 29).symm.trans hv29;have he30:fZ 30=gY 30:=(hfZ 30).symm.trans hv30;have he31:fZ 31=gY 31:=(hfZ 31).symm.trans hv31;have he32:fZ 32=gY 32:=(hfZ 32).symm.trans hv32;have he33:fZ 33=gY 33:=(hfZ 33).symm.trans hv33;have he34:fZ 34=gY 34:=(hfZ 34).symm.trans hv34;have he35:fZ 35=gY 35:=(hfZ 35).symm.trans hv35;have he36:fZ 36=gY 36:=(hfZ 36).symm.trans hv36;have he37:fZ 37=gY 37:=(hfZ 37).symm.trans hv37;have he38:fZ 38=gY 38:=(hfZ 38).symm.trans hv38;have he39:fZ 39=gY 39:=(hfZ 39).symm.trans hv39;have he40:fZ 40=gY 40:=(hfZ 40).symm.trans hv40;have he41:fZ 41=gY 41:=(hfZ 41).symm.trans hv41;have he42:fZ 42=gY 42:=(hfZ 42).symm.trans hv42;have he43:fZ 43=gY 43:=(hfZ 43).symm.trans hv43;have he44:fZ 44=gY 44:=(hfZ 44).symm.trans hv44;have he45:fZ 45=gY 45:=(hfZ 45).symm.trans hv45;have he46:fZ 46=gY 46:=(hfZ 46).symm.trans hv46;have he47:fZ 47=gY 47:=(hfZ 47).symm.trans hv47;have he48:fZ 48=gY 48:=(hfZ 48).symm.trans hv48;have he49:fZ 49=gY 49:=(hfZ 49).symm.trans hv49;have he50:fZ 50=gY 50:=(hfZ 50).symm.trans hv50;have he51:fZ 51=gY 51:=(hfZ 51).symm.trans hv51;have he52:fZ 52=gY 52:=(hfZ 52).symm.trans hv52;have he53:fZ 53=gY 53:=(hfZ 53).symm.trans hv53;have he54:fZ 54=gY 54:=(hfZ 54).symm.trans hv54;have he72:fZ 72=.bool false:=(hfZ 72).symm.trans hv72;simp only[show List.range 73=[0,1,2,3,4,5,6,7,8,9,10,11,12,13,14,15,16,17,18,19,20,21,22,23,24,25,26,27,28,29,30,31,32,33,34,35,36,37,38,39,40,41,42,43,44,45,46,47,48,49,50,51,52,53,54,55,56,57,58,59,60,61,62,63,64,65,66,67,68,69,70,71,72] from rfl,List.map_cons,List.map_nil,he0,he1,he2,he3,he5,he6,he7,he8,he9,he10,he11,he12,he13,he14,he15,he16,he17,he18,he19,he20,he21,he22,he23,he24,he25,he26,he27,he28,he29,he30,he31,he32,he33,he34,he35,he36,he37,he38,he39,he40,he41,he42,he43,he44,he45,he46,he47,he48,he49,he50,he51,he52,he53,he54,he72] at hact2;clear hfZ hv0 he0 hv1 he1 hv2 he2 hv3 he3 hv5 he5 hv6 he6 hv7 he7 hv8 he8 hv9 he9 hv10 he10 hv11 he11 hv12 he12 hv13 he13 hv14 he14 hv15 he15 hv16 he16 hv17 he17 hv18 he18 hv19 he19 hv20 he20 hv21 he21 hv22 he22 hv23 he23 hv24 he24 hv25 he25 hv26 he26 hv27 he27 hv28 he28 hv29 he29 hv30 he30 hv31 he31 hv32 he32 hv33 he33 hv34 he34 hv35 he35 hv36 he36 hv37 he37 hv38 he38 hv39 he39 hv40 he40 hv41 he41 hv42 he42 hv43 he43 hv44 he44 hv45 he45 hv46 he46 hv47 he47 hv48 he48 hv49 he49 hv50 he50 hv51 he51 hv52 he52 hv53 he53 hv54 he54 hv72 he72;subst hact2;go_wp2_with fail;go_roundw
     case rel=>exact⟨k+1,by omega,by go_num,hst⟩
     case measure=>simp[intOf];omega
    ·obtain rfl:k=s.recs.length:=by omega
     go_wp2_with (with_reducible refine x1 rfl rfl rfl hst ?_);go_ret;exact⟨rfl,hst.end⟩
set_option maxHeartbeats 600000 in
theorem yaV {p p2:Option Addr} {c c2:Nat} {k0:Int} {l l2:List Sv} (ha:TtAt D ⟨p,c,k0,l⟩) (hb:TtAt D ⟨p2,c2,k0,l2⟩) (he:l.map (·.s)=l2.map (·.s)) (w:World) (hD:Holds D w):
  Calls Tryz.prog 12 #[.agg (ttL ⟨p,c,k0,l⟩).toArray,.agg (ttL ⟨p2,c2,k0,l2⟩).toArray] w (Ret (.bool true) w):=by
 have hst:=Sx.start0 w hD;have h1:RowAt D 90 4 svL p c l:=ha.row;have h2:RowAt D 90 4 svL p2 c2 l2:=hb.row;have hlen:l2.length=l.length:=by have:=congrArg List.length he;simpa using this.symm
 have HS:Hid (∀(k:Nat) (ka:k<l.length) (kb:k<l2.length) (wx:World),Holds D wx→Calls Tryz.prog 33 #[.agg (svL l[k]).toArray,.agg (svL l2[k]).toArray] wx (Ret (.bool true) wx)):=Lib.hid (fun k ka kb wx hx=>by
  have e1:=ha.all _ (List.getElem_mem ka);have e2:=hb.all _ (List.getElem_mem kb)
  have e3:(l[k]).s=(l2[k]).s:=by
   have:=congrArg (fun x=>x[k]?) he;simpa[ka,kb] using this
  generalize l[k]=x at*;generalize l2[k]=y at*;obtain⟨_,_,_,_,_⟩:=x;obtain⟨_,_,_,_,_⟩:=y;simp only at e3;subst e3
  exact yaU e1 e2 wx hx)
 have g1:=h1.big;have hC:∀(p:Option Addr) (c:Nat) (l:List Sv),(ttL ⟨p,c,k0,l⟩).toArray=tC k0 (.slice p l.length c):=fun _ _ _=>rfl
 rw[hC,hC,hlen];clear ha hb hC he;go_enter Tryz.func12,Tryz.ntmps12;go_wp2_with (first|(with_reducible refine xval rfl 10 rfl (.bool false) (fun w=>Fx.e_neq rfl rfl rfl (by simp) w) ?_)|(with_reducible refine xval rfl 18 rfl (.bool false) (fun w=>Fx.e_neq rfl rfl rfl (by simp) w) ?_)|((with_reducible refine xbaS 2 rfl rfl rfl hst rfl ?_);clear hst;intro b2 w' hst)|((with_reducible refine xbaS 3 rfl rfl rfl hst rfl ?_);clear hst;intro b3 w' hst)|(with_reducible refine x1 rfl rfl rfl hst ?_));generalize hact:Act.mk _ _=act;have hv0:act.tmps.getD 0 undef=.agg (tC k0 (.slice p l.length c)):=by rw[←hact];rfl
 have hv1:act.tmps.getD 1 undef=.agg (tC k0 (.slice p2 l.length c2)):=by rw[←hact];rfl
 have hv2:act.tmps.getD 2 undef=.pointer (some ⟨b2,0,none⟩):=by rw[←hact];rfl
 have hv3:act.tmps.getD 3 undef=.pointer (some ⟨b3,0,none⟩):=by rw[←hact];rfl
 have hv5:act.tmps.getD 5 undef=.int .i64 0:=by rw[←hact];rfl
 obtain⟨fY,hfY,hact2⟩:=act_lit act 39 (by rw[←hact];rfl) (by rw[←hact]);clear hact;have he0:fY 0=.agg (tC k0 (.slice p l.length c)):=(hfY 0).symm.trans hv0;have he1:fY 1=.agg (tC k0 (.slice p2 l.length c2)):=(hfY 1).symm.trans hv1;have he2:fY 2=.pointer (some ⟨b2,0,none⟩):=(hfY 2).symm.trans hv2;have he3:fY 3=.pointer (some ⟨b3,0,none⟩):=(hfY 3).symm.trans hv3;have he5:fY 5=.int .i64 0:=(hfY 5).symm.trans hv5;simp only[show List.range 39=[0,1,2,3,4,5,6,7,8,9,10,11,12,13,14,15,16,17,18,19,20,21,22,23,24,25,26,27,28,29,30,31,32,33,34,35,36,37,38] from rfl,List.map_cons,List.map_nil,he0,he1,he2,he3,he5] at hact2;clear hfY hv0 he0 hv1 he1 hv2 he2 hv3 he3 hv5 he5;subst hact2;go_loopw [5] (fun iv wr=>∃k:Nat,k≤l.length∧iv=.int .i64 k∧Sx [] w wr [(b3,tC k0 (.slice p2 l.length c2),31),(b2,tC k0 (.slice p l.length c),31)] D []) (fun iv _=>l.length-(intOf iv).toNat)
 case atStart=>exact⟨0,Nat.zero_le _,by go_num,hst⟩
 case round=>
  clear hst;obtain⟨k,hk,rfl,hst⟩:=hrel
  by_cases hlt:k<l.length
  ·have hlt2:k<l2.length:=by omega
   obtain⟨ga,oa,rfl⟩:=h1.at_some hlt;obtain⟨gb,ob,rfl⟩:=h2.at_some hlt2;have e1:LdD D 90 ⟨ga,oa+k*4,none⟩ (.agg (svL l[k]).toArray):=h1.lda hlt;have e2:LdD D 90 ⟨gb,ob+k*4,none⟩ (.agg (svL l2[k]).toArray):=h2.lda hlt2;have HQ:=Lib.hid (HS.out k hlt hlt2);generalize l[k]=x at*;generalize l2[k]=y at*;go_wp2_with (with_reducible refine x1 rfl rfl rfl hst ?_);refine Fx.go (fun _=>false) (fun i=> !(i==1||i==4||i==6||i==9||i==10)) (fun _=>false) (List.range 12) rfl hst (by kernel_rfl) (by kernel_rfl) (by kernel_rfl) (by kernel_rfl) (by kernel_rfl) ?_;clear hst
   repeat(first|refine Fx.val rfl rfl rfl rfl (Fx.e_mv rfl rfl) ?_|refine Fx.fa rfl rfl rfl rfl rfl rfl ?_|refine Fx.l1 rfl rfl rfl rfl rfl rfl ?_|refine Fx.lD rfl rfl rfl rfl rfl rfl ?_|refine Fx.ix rfl rfl rfl rfl rfl rfl rfl (by omega) ?_)
   refine Fx.callB rfl rfl (fun w h=>h) (fun w h=>HQ.out w h.data) rfl rfl (fun w=>by kernel_rfl) ?_;refine Fx.val rfl rfl rfl rfl (v:=.bool false) (Fx.e_notF rfl rfl) ?_;intro w' hst;generalize hact:Fx.mkO _ _=act;have hv0:act.tmps.getD 0 undef=.agg (tC k0 (.slice (some ⟨ga,oa,none⟩) l.length c)):=by rw[←hact];kernel_rfl
   have hv1:act.tmps.getD 1 undef=.agg (tC k0 (.slice (some ⟨gb,ob,none⟩) l.length c2)):=by rw[←hact];kernel_rfl
   have hv2:act.tmps.getD 2 undef=.pointer (some ⟨b2,0,none⟩):=by rw[←hact];kernel_rfl
   have hv3:act.tmps.getD 3 undef=.pointer (some ⟨b3,0,none⟩):=by rw[←hact];kernel_rfl
   have hv5:act.tmps.getD 5 undef=.int .i64 k:=by rw[←hact];kernel_rfl
   have hv6:act.tmps.getD 6 undef=fY 6:=by rw[←hact];kernel_rfl
   have hv7:act.tmps.getD 7 undef=fY 7:=by rw[←hact];kernel_rfl
   have hv8:act.tmps.getD 8 undef=fY 8:=by rw[←hact];kernel_rfl
   have hv9:act.tmps.getD 9 undef=fY 9:=by rw[←hact];kernel_rfl
   have hv10:act.tmps.getD 10 undef=fY 10:=by rw[←hact];kernel_rfl
   have hv11:act.tmps.getD 11 undef=fY 11:=by rw[←hact];kernel_rfl
   have hv12:act.tmps.getD 12 undef=fY 12:=by rw[←hact];kernel_rfl
   have hv13:act.tmps.getD 13 undef=fY 13:=by rw[←hact];kernel_rfl
   have hv14:act.tmps.getD 14 undef=fY 14:=by rw[←hact];kernel_rfl
   have hv15:act.tmps.getD 15 undef=fY 15:=by rw[←hact];kernel_rfl
   have hv16:act.tmps.getD 16 undef=fY 16:=by rw[←hact];kernel_rfl
   have hv17:act.tmps.getD 17 undef=fY 17:=by rw[←hact];kernel_rfl
   have hv18:act.tmps.getD 18 undef=fY 18:=by rw[←hact];kernel_rfl
   have hv19:act.tmps.getD 19 undef=fY 19:=by rw[←hact];kernel_rfl
   have hv38:act.tmps.getD 38 undef=.bool false:=by rw[←hact];kernel_rfl
   obtain⟨fZ,hfZ,hact2⟩:=act_lit act 39 (by rw[←hact];kernel_rfl) (by rw[←hact];kernel_rfl);clear hact;have he0:fZ 0=.agg (tC k0 (.slice (some ⟨ga,oa,none⟩) l.length c)):=(hfZ 0).symm.trans hv0;have he1:fZ 1=.agg (tC k0 (.slice (some ⟨gb,ob,none⟩) l.length c2)):=(hfZ 1).symm.trans hv1;have he2:fZ 2=.pointer (some ⟨b2,0,none⟩):=(hfZ 2).symm.trans hv2;have he3:fZ 3=.pointer (some ⟨b3,0,none⟩):=(hfZ 3).symm.trans hv3;have he5:fZ 5=.int .i64 k:=(hfZ 5).symm.trans hv5;have he6:fZ 6=fY 6:=(hfZ 6).symm.trans hv6;have he7:fZ 7=fY 7:=(hfZ 7).symm.trans hv7;have he8:fZ 8=fY 8:=(hfZ 8).symm.trans hv8;have he9:fZ 9=fY 9:=(hfZ 9).symm.trans hv9;have he10:fZ 10=fY 10:=(hfZ 10).symm.trans hv10;have he11:fZ 11=fY 11:=(hfZ 11).symm.trans hv11;have he12:fZ 12=fY 12:=(hfZ 12).symm.trans hv12;have he13:fZ 13=fY 13:=(hfZ 13).symm.trans hv13;have he14:fZ 14=fY 14:=(hfZ 14).symm.trans hv14;have he15:fZ 15=fY 15:=(hfZ 15).symm.trans hv15;have he16:fZ 16=fY 16:=(hfZ 16).symm.trans hv16;have he17:fZ 17=fY 17:=(hfZ 17).symm.trans hv17;have he18:fZ 18=fY 18:=(hfZ 18).symm.trans hv18;have he19:fZ 19=fY 19:=(hfZ 19).symm.trans hv19;have he38:fZ 38=.bool false:=(hfZ 38).symm.trans hv38;simp only[show List.range 39=[0,1,2,3,4,5,6,7,8,9,10,11,12,13,14,15,16,17,18,19,20,21,22,23,24,25,26,27,28,29,30,31,32,33,34,35,36,37,38] from rfl,List.map_cons,List.map_nil,he0,he1,he2,he3,he5,he6,he7,he8,he9,he10,he11,he12,he13,he14,he15,he16,he17,he18,he19,he38] at hact2;clear hfZ hv0 he0 hv1 he1 hv2 he2 hv3 he3 hv5 he5 hv6 he6 hv7 he7 hv8 he8 hv9 he9 hv10 he10 hv11 he11 hv12 he12 hv13 he13 hv14 he14 hv15 he15 hv16 he16 hv17 he17 hv18 he18 hv19 he19 hv38 he38;subst hact2;go_wp2_with fail;go_roundw
   case rel=>exact⟨k+1,by omega,by go_num,hst⟩
   case measure=>simp[intOf];omega
  ·obtain rfl:k=l.length:=by omega
   go_wp2_with (with_reducible refine x1 rfl rfl rfl hst ?_);go_ret;exact⟨rfl,hst.end⟩
end
theorem yaW {D:Dat} {F:List Nat} {w:World} {g:Nat} {d:Dv} (h:DevW D F w g d) (hoff:d.off=false) (hU:GSums w) (hGB:GBegin w) (hGS:GSha w):Calls Tryz.prog 11 #[.pointer (some ⟨g,0,none⟩)] w (LoadLay w D (loadF d)):=by
 by_cases hch:chainF d=[]
 ·refine(load_none h hoff hch hU hGB hGS).mono ?_
  rintro e w' ⟨rfl,hb⟩;have hl:loadF d=(tt0,sl0,4):=by unfold loadF;rw[if_neg (by rw[hoff];decide),if_pos hch]
  rw[hl];have h1:=(Sx.start0 w h.data).below hb;exact⟨tv0,D,rfl,rfl,TtAt.zero _,fun p h=>h,fun p h=>Or.inl h,Sx.start0 w' h1.data|>fun h2=>⟨⟨h1.st.os,h1.st.tape,h1.st.output,h1.st.size,h1.st.kept,h1.st.own,h1.st.nodup,h1.st.blk⟩,h1.data,h1.apart,h1.flt,h1.fL,h1.fD,h1.fS⟩⟩
 ·exact load_gen h hoff hch hU hGB hGS
section
variable {S:List Nat} {w0 w:World} {L0:List Blk} {D:Dat} {g:Nat} {d:Dv} {q:Dp} {f:FuncId} {args:Array Value} {K:Ending→World→Prop} {C:List Blk→List Blk}
theorem yaX {x:Tt×Sl×Int} [c:Ctx L0 (devL g d q) C] (hc:∀F,DevW D F w g d→Calls Tryz.prog f args w (LoadLay w D x)) (h:Sx S w0 w L0 D []) (m:DevMem D d q)
  (hk:∀w' v' D',v'.t=x.1→TtAt D' v'→(∀p,D p→D' p)→Sx S w0 w' L0 D' []→K (.returned (.tuple #[.agg (ttL v').toArray,.agg (slC x.2.1),.int .i64 x.2.2])) w'):Calls Tryz.prog f args w K:=by
 have h1:Sx S w0 w (devL g d q++C []) D []:=(show Sx S w0 w (C (devL g d q)) D [] from c.eq ▸ h).perm (c.perm _);obtain⟨F',hd,_,_,_⟩:=h1.closeDev m rfl;refine(hc F' hd).mono ?_;rintro en w' ⟨v',D',rfl,e1,e2,e3,e4,e5⟩;exact hk w' v' D' e1 e2 e3 (h.layNew e5 e4)
end
theorem yaY {D:Dat} {p:Option Addr} {c:Nat} {l:List Int} (h:RowAt D 3 1 inL p c l) (w:World) (hD:Holds D w):Calls Tryz.prog 43 #[.slice p l.length c] w (OwnRet 3 1 inL l w):=by
 have hbig:=h.big
 cases p with
 |none=>
  obtain rfl:l=[]:=h.nil_of rfl;go_enter Tryz.func43,Tryz.ntmps43;go_wp2_with (refine xval rfl 4 rfl (.bool true) (fun w=>by kernel_rfl) ?_);go_ret;exact⟨_,[],rfl,OwnR.none _,(Sx.startN w).st⟩
 |some ad=>
  have hst:=Sx.start0 w hD;have hsrc:∀w',Holds D w'→Src w' inL (.slice (some ad) l.length c) l:=fun w' hw=>RowD.src ⟨_,_,rfl,h⟩ hw (by decide)
  go_enter Tryz.func43,Tryz.ntmps43;go_wp2_with (first|(with_reducible refine xval rfl 4 rfl (.bool false) (fun w=>by kernel_rfl) ?_)|(with_reducible refine xmk rfl 5 rfl hst #[] 3 (fun b=>.slice (some ⟨b,0,none⟩) 0 0) (fun w=>by kernel_rfl) ?_;clear hst;intro b w' hst)|(with_reducible refine xap0 (T:=3) (TS:=48) rfl rfl rfl hst (hsrc _ hst.data) rfl hbig ?_;clear hst;intro p2 c2 w2 Lo hown hst));go_ret;exact⟨_,Lo,rfl,hown,hst.takeL.st⟩
section
variable {D:Dat} {F:List Nat} {w:World} {g:Nat} {d:Dv}
theorem yaZ (h:DevW D F w g d) (hoff:d.off=false) {p:Option Addr} {c:Nat} {keep:List Int} (hk:RowAt D 3 1 inL p c keep) (hki:∀x∈keep,I64 x) (n:Int) (h0:0≤n) (h1:I64 n):
  Calls Tryz.prog 15 #[.pointer (some ⟨g,0,none⟩),.int .i64 n,.slice p keep.length c] w (DevLay (.int .i64 0) D F w g {d with left:=n,keep:=keep}):=by
 obtain⟨q,m,rfl,hst⟩:=h.open h.lt;have HO:=Lib.hid (fun F wx (hd:DevW D F wx g d)=>don_calls hd);rw[show dOn d=0 by unfold dOn;rw[hoff];rfl] at HO;have HN:=Lib.hid (decide_eq_false (show ¬n<0 by omega));clear h hoff h0;go_enter Tryz.func15,Tryz.ntmps15;go_wp2_with (first|(with_reducible refine xval rfl 14 rfl _ (fun w=>Fx.e_lss rfl rfl rfl HN.out w) ?_)|fail |(with_reducible refine callOr HO.out hst m ?_;clear hst;intro w' hst));refine(yaY hk _ hst.data).mono ?_;rintro e w2 ⟨v,Lo,rfl,hown,hs⟩;have hsz:=hst.st.size;replace hst:=(hst.take hs).lay;have hN:∀p,p∈Lo→w.heap.size≤p.1:=fun p hp=>Nat.le_trans hsz ((hs.own p hp).resolve_right (by simp))
 obtain⟨p1,c1,rfl,hrow⟩:=hown.row hk.big (D:=fun p=>D p∨p∈Lo) (fun p hp=>Or.inr hp);unfold devL at hst;go_wp2_with (with_reducible first|(refine xsi rfl rfl rfl rfl hst ?_;clear hst;intro w' hst)|(refine xsl rfl rfl rfl rfl hst ?_;clear hst;intro w' hst));go_ret;exact Sx.devLay (d':={d with left:=n,keep:=keep}) (q:={q with vk:=.slice p1 keep.length c1}) hst ⟨⟨m.ok.same,m.ok.min,m.ok.max,m.ok.acts,m.ok.adat,m.ok.bsure,m.ok.bnow,h1,hki⟩,m.sl,m.ss,m.st,m.nl,m.ns,m.nt,m.ac,m.al,⟨_,_,rfl,hrow⟩⟩ (fun p hp=>Or.inl hp) (fun p hp=>hp.imp id (hN p)) rfl
end
end Go.Proofs.YtdkeiefgkgpcbaaGreatDoor
