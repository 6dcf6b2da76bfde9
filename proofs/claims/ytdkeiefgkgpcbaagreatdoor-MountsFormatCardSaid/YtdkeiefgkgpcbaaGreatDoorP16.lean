/- Steps of the proof: Seal. -/
import Derived.Test.YtdkeiefgkgpcbaaGreatDoorP15
set_option linter.unusedVariables false
set_option linter.unusedSimpArgs false
set_option maxRecDepth 100000
namespace Go.Proofs.YtdkeiefgkgpcbaaGreatDoor
open Go.RowKit
structure Sl where
 n:Int
 prev:List UInt8
 content:List UInt8
 len:Int
 start:Int
 count:Int
 clock:Int
def slL (s:Sl):List Value:=.int .i64 s.n::(hashL s.prev++(hashL s.content++[.int .i64 s.len,.int .i64 s.start,.int .i64 s.count,.int .i64 s.clock]))
abbrev slC (s:Sl):Array Value:=(slL s).toArray
def sl0:Sl:=⟨0,[],[],0,0,0,0⟩
instance aggSeal:AggT 41 69:=⟨fun w=>by kernel_rfl,by kernel_rfl⟩
instance zeroSeal:ZeroT 41 (slC sl0):=.agg fun w=>by kernel_rfl
instance fldS0:Fx.FldT 41 0 0:=⟨fun ad w=>by kernel_rfl⟩
instance fldS1:Fx.FldT 41 1 1:=⟨fun ad w=>by kernel_rfl⟩
instance fldS2:Fx.FldT 41 2 33:=⟨fun ad w=>by kernel_rfl⟩
instance fldS3:Fx.FldT 41 3 65:=⟨fun ad w=>by kernel_rfl⟩
instance fldS4:Fx.FldT 41 4 66:=⟨fun ad w=>by kernel_rfl⟩
instance fldS5:Fx.FldT 41 5 68:=⟨fun ad w=>by kernel_rfl⟩
instance slc0 (s:Sl):CellAt (slC s) 0 (.int .i64 s.n):=⟨rfl⟩
instance slc65 (s:Sl):CellAt (slC s) 65 (.int .i64 s.len):=⟨rfl⟩
instance slc66 (s:Sl):CellAt (slC s) 66 (.int .i64 s.start):=⟨rfl⟩
instance slc67 (s:Sl):CellAt (slC s) 67 (.int .i64 s.count):=⟨rfl⟩
instance slc67' (s:Sl):CellAt (slC s) (66+1) (.int .i64 s.count):=⟨rfl⟩
instance slc68 (s:Sl):CellAt (slC s) 68 (.int .i64 s.clock):=⟨rfl⟩
instance slpAll (s:Sl):PartAt (slC s) 0 69 (slL s):=⟨rfl,fun j v h=>by rw[Nat.zero_add];simpa[slC] using h⟩
theorem part_mid (a b c:List Value) (off:Nat) (n:Nat) (ha:a.length=off) (hb:b.length=n):PartAt (a++(b++c)).toArray off n b:=⟨hb,fun j v h=>by
 have hj:=(List.getElem?_eq_some_iff.1 h).1
 rw[List.getElem?_toArray,List.getElem?_append_right (by omega),←ha,Nat.add_sub_cancel_left,List.getElem?_append_left hj]
 exact h⟩
instance slpPrev (s:Sl):PartAt (slC s) 1 32 (hashL s.prev):=part_mid [.int .i64 s.n] (hashL s.prev) _ 1 32 rfl rfl
instance slpCont (s:Sl):PartAt (slC s) 33 32 (hashL s.content):=by
 have h:=part_mid (.int .i64 s.n::hashL s.prev) (hashL s.content) [.int .i64 s.len,.int .i64 s.start,.int .i64 s.count,.int .i64 s.clock] 33 32 rfl rfl
 exact h
instance slW (p q:Sl):WrAt (slC p) 0 69 (.agg (slC q)) (slC q):=wr_row _ _ _ _ (slL q) rfl rfl (Nat.le_of_ble_eq_true rfl) (by kernel_rfl)
def slOk (s:Sl):Bool:=decide (1≤s.n)&&(decide (s.n≤1073741824)&&(decide (0≤s.clock)&&(decide (s.clock≤1073741824)&&(decide (0≤s.len)&&(decide (s.len≤57344)&&(decide (0≤s.start)&&(decide (s.count=pkCount s.len)&&(decide (s.start+s.count≤512)&&decide (s.start<512)))))))))
def SlOk (s:Sl):Prop:=1≤s.n∧s.n≤1073741824∧0≤s.clock∧s.clock≤1073741824∧0≤s.len∧s.len≤57344∧0≤s.start∧s.count=pkCount s.len∧s.start+s.count≤512∧s.start<512
theorem slOk_iff (s:Sl):slOk s=true↔SlOk s:=by simp[slOk,SlOk]
theorem sl_false {s:Sl} (h:SlOk s→False):false=slOk s:=by
 cases hv:slOk s with
 |false=>rfl
 |true=>exact(h ((slOk_iff s).1 hv)).elim
theorem sl_true {s:Sl} (h:SlOk s):true=slOk s:=((slOk_iff s).2 h).symm
theorem slCases (s:Sl):
  (¬1≤s.n)∨(1≤s.n∧¬s.n≤1073741824)∨(1≤s.n∧s.n≤1073741824∧¬0≤s.clock)∨(1≤s.n∧s.n≤1073741824∧0≤s.clock∧¬s.clock≤1073741824)∨(1≤s.n∧s.n≤1073741824∧0≤s.clock∧s.clock≤1073741824∧¬0≤s.len)∨
  (1≤s.n∧s.n≤1073741824∧0≤s.clock∧s.clock≤1073741824∧0≤s.len∧¬s.len≤57344)∨(1≤s.n∧s.n≤1073741824∧0≤s.clock∧s.clock≤1073741824∧0≤s.len∧s.len≤57344∧¬0≤s.start)∨
  (1≤s.n∧s.n≤1073741824∧0≤s.clock∧s.clock≤1073741824∧0≤s.len∧s.len≤57344∧0≤s.start∧¬s.count=pkCount s.len)∨
  (1≤s.n∧s.n≤1073741824∧0≤s.clock∧s.clock≤1073741824∧0≤s.len∧s.len≤57344∧0≤s.start∧s.count=pkCount s.len∧¬s.start+s.count≤512)∨
  (1≤s.n∧s.n≤1073741824∧0≤s.clock∧s.clock≤1073741824∧0≤s.len∧s.len≤57344∧0≤s.start∧s.count=pkCount s.len∧s.start+s.count≤512∧¬s.start<512)∨
  (1≤s.n∧s.n≤1073741824∧0≤s.clock∧s.clock≤1073741824∧0≤s.len∧s.len≤57344∧0≤s.start∧s.count=pkCount s.len∧s.start+s.count≤512∧s.start<512):=by
 refine(Decidable.em (1≤s.n)).elim (fun h0=>?_) (fun hn=>Or.inl hn)
 refine(Decidable.em (s.n≤1073741824)).elim (fun h1=>?_) (fun hn=>Or.inr (Or.inl ⟨h0,hn⟩))
 refine(Decidable.em (0≤s.clock)).elim (fun h2=>?_) (fun hn=>Or.inr (Or.inr (Or.inl ⟨h0,h1,hn⟩)))
 refine(Decidable.em (s.clock≤1073741824)).elim (fun h3=>?_) (fun hn=>Or.inr (Or.inr (Or.inr (Or.inl ⟨h0,h1,h2,hn⟩))))
 refine(Decidable.em (0≤s.len)).elim (fun h4=>?_) (fun hn=>Or.inr (Or.inr (Or.inr (Or.inr (Or.inl ⟨h0,h1,h2,h3,hn⟩)))))
 refine(Decidable.em (s.len≤57344)).elim (fun h5=>?_) (fun hn=>Or.inr (Or.inr (Or.inr (Or.inr (Or.inr (Or.inl ⟨h0,h1,h2,h3,h4,hn⟩))))))
 refine(Decidable.em (0≤s.start)).elim (fun h6=>?_) (fun hn=>Or.inr (Or.inr (Or.inr (Or.inr (Or.inr (Or.inr (Or.inl ⟨h0,h1,h2,h3,h4,h5,hn⟩)))))))
 refine(Decidable.em (s.count=pkCount s.len)).elim (fun h7=>?_) (fun hn=>Or.inr (Or.inr (Or.inr (Or.inr (Or.inr (Or.inr (Or.inr (Or.inl ⟨h0,h1,h2,h3,h4,h5,h6,hn⟩))))))))
 refine(Decidable.em (s.start+s.count≤512)).elim (fun h8=>?_) (fun hn=>Or.inr (Or.inr (Or.inr (Or.inr (Or.inr (Or.inr (Or.inr (Or.inr (Or.inl ⟨h0,h1,h2,h3,h4,h5,h6,h7,hn⟩)))))))))
 refine(Decidable.em (s.start<512)).elim (fun h9=>?_) (fun hn=>Or.inr (Or.inr (Or.inr (Or.inr (Or.inr (Or.inr (Or.inr (Or.inr (Or.inr (Or.inl ⟨h0,h1,h2,h3,h4,h5,h6,h7,h8,hn⟩))))))))))
 exact Or.inr (Or.inr (Or.inr (Or.inr (Or.inr (Or.inr (Or.inr (Or.inr (Or.inr (Or.inr ⟨h0,h1,h2,h3,h4,h5,h6,h7,h8,h9⟩)))))))))
set_option maxHeartbeats 4000000 in
theorem scheck_calls (s:Sl) (hs:s.start≤4611686018427387904) (w:World):Calls Tryz.prog 60 #[.agg (slC s)] w (Ret (.bool (slOk s)) w):=by
 have hst:=Sx.startN w
 have hcn:∃c,pkCount s.len=c∧ -1≤c∧(s.len≤57344→c≤1000):=⟨_,rfl,by unfold pkCount;split<;>omega,by unfold pkCount;split<;>omega⟩
 have HC:=Lib.hid (fun(hl:0≤s.len∧s.len≤57344)=>count_calls s.len (by omega))
 have HR:∀b,slOk s=b→Hid (slOk s=b):=fun b h=>Lib.hid h
 go_enter Tryz.func60,Tryz.ntmps60
 go_wp2_with (with_reducible (refine xba rfl rfl hst rfl ?_;clear hst;intro bb w' hst))
 obtain⟨c,hc,hc1,hc2⟩:=hcn
 have hcs:=slCases s
 rw[hc] at HC hcs
 rcases s with⟨n,prev,content,len,start,count,clock⟩
 simp only at*
 refine Fx.go (fun _=>false) (fun i=> !(i==1||i==5||i==10||i==15||i==20||i==25||i==31||i==37||i==39||i==46||i==49||i==56)) (fun _=>false) (List.range 60) rfl hst (by kernel_rfl) (by kernel_rfl) (by kernel_rfl) (by kernel_rfl) (by kernel_rfl) ?_
 show Fx.wpLX _ _ _ [0,1,2,3,4,5,6,7,8,9,10,11,12,13,14,15,16,17,18,19,20,21,22,23,24,25,26,27,28,29,30,31,32,33,34,35,36,37,38,39,40,41,42,43,44,45,46,47,48,49,50,51,52,53,54,55,56,57,58,59] _ _
 rcases hcs with h |h |h |h |h |h |h |h |h |h |h
 ·have hn:=h
  refine Fx.fa rfl rfl rfl rfl rfl rfl ?_
  refine Fx.l1 rfl rfl rfl rfl rfl rfl ?_
  refine Fx.val rfl rfl rfl rfl (Fx.e_geq (b:=false) rfl rfl rfl (decide_eq_false (by first|omega |exact hn))) ?_
  refine Fx.val (v:=.bool false) rfl rfl rfl rfl (Fx.e_mv rfl rfl) ?_
  refine Fx.skip rfl rfl (by kernel_rfl) rfl ?_
  refine Fx.skipB rfl rfl (by kernel_rfl) (fun w h=>h) ?_
  refine Fx.skip rfl rfl (by kernel_rfl) rfl ?_
  refine Fx.val (v:=.bool false) rfl rfl rfl rfl (Fx.e_pkF rfl rfl rfl) ?_
  refine Fx.val (v:=.bool false) rfl rfl rfl rfl (Fx.e_mv rfl rfl) ?_
  refine Fx.skip rfl rfl (by kernel_rfl) rfl ?_
  refine Fx.skipB rfl rfl (by kernel_rfl) (fun w h=>h) ?_
  refine Fx.skip rfl rfl (by kernel_rfl) rfl ?_
  refine Fx.val (v:=.bool false) rfl rfl rfl rfl (Fx.e_pkF rfl rfl rfl) ?_
  refine Fx.val (v:=.bool false) rfl rfl rfl rfl (Fx.e_mv rfl rfl) ?_
  refine Fx.skip rfl rfl (by kernel_rfl) rfl ?_
  refine Fx.skipB rfl rfl (by kernel_rfl) (fun w h=>h) ?_
  refine Fx.skip rfl rfl (by kernel_rfl) rfl ?_
  refine Fx.val (v:=.bool false) rfl rfl rfl rfl (Fx.e_pkF rfl rfl rfl) ?_
  refine Fx.val (v:=.bool false) rfl rfl rfl rfl (Fx.e_mv rfl rfl) ?_
  refine Fx.skip rfl rfl (by kernel_rfl) rfl ?_
  refine Fx.skipB rfl rfl (by kernel_rfl) (fun w h=>h) ?_
  refine Fx.skip rfl rfl (by kernel_rfl) rfl ?_
  refine Fx.val (v:=.bool false) rfl rfl rfl rfl (Fx.e_pkF rfl rfl rfl) ?_
  refine Fx.val (v:=.bool false) rfl rfl rfl rfl (Fx.e_mv rfl rfl) ?_
  refine Fx.skip rfl rfl (by kernel_rfl) rfl ?_
  refine Fx.skipB rfl rfl (by kernel_rfl) (fun w h=>h) ?_
  refine Fx.skip rfl rfl (by kernel_rfl) rfl ?_
  refine Fx.val (v:=.bool false) rfl rfl rfl rfl (Fx.e_pkF rfl rfl rfl) ?_
  refine Fx.val (v:=.bool false) rfl rfl rfl rfl (Fx.e_mv rfl rfl) ?_
  refine Fx.skip rfl rfl (by kernel_rfl) rfl ?_
  refine Fx.skip rfl rfl (by kernel_rfl) rfl ?_
  refine Fx.skipB rfl rfl (by kernel_rfl) (fun w h=>h) ?_
  refine Fx.skip rfl rfl (by kernel_rfl) rfl ?_
  refine Fx.val (v:=.bool false) rfl rfl rfl rfl (Fx.e_pkF rfl rfl rfl) ?_
  refine Fx.val (v:=.bool false) rfl rfl rfl rfl (Fx.e_mv rfl rfl) ?_
  refine Fx.skip rfl rfl (by kernel_rfl) rfl ?_
  refine Fx.skip rfl rfl (by kernel_rfl) rfl ?_
  refine Fx.skipB rfl rfl (by kernel_rfl) (fun w h=>h) ?_
  refine Fx.skip rfl rfl (by kernel_rfl) rfl ?_
  refine Fx.skipB rfl rfl (by kernel_rfl) (fun w h=>h) ?_
  refine Fx.skip rfl rfl (by kernel_rfl) rfl ?_
  refine Fx.skip rfl rfl (by kernel_rfl) rfl ?_
  refine Fx.val (v:=.bool false) rfl rfl rfl rfl (Fx.e_pkF rfl rfl rfl) ?_
  refine Fx.val (v:=.bool false) rfl rfl rfl rfl (Fx.e_mv rfl rfl) ?_
  refine Fx.skip rfl rfl (by kernel_rfl) rfl ?_
  refine Fx.skip rfl rfl (by kernel_rfl) rfl ?_
  refine Fx.skipB rfl rfl (by kernel_rfl) (fun w h=>h) ?_
  refine Fx.skip rfl rfl (by kernel_rfl) rfl ?_
  refine Fx.skip rfl rfl (by kernel_rfl) rfl ?_
  refine Fx.skipB rfl rfl (by kernel_rfl) (fun w h=>h) ?_
  refine Fx.skip rfl rfl (by kernel_rfl) rfl ?_
  refine Fx.skip rfl rfl (by kernel_rfl) rfl ?_
  refine Fx.val (v:=.bool false) rfl rfl rfl rfl (Fx.e_pkF rfl rfl rfl) ?_
  refine Fx.val (v:=.bool false) rfl rfl rfl rfl (Fx.e_mv rfl rfl) ?_
  refine Fx.skip rfl rfl (by kernel_rfl) rfl ?_
  refine Fx.skip rfl rfl (by kernel_rfl) rfl ?_
  refine Fx.skipB rfl rfl (by kernel_rfl) (fun w h=>h) ?_
  refine Fx.skip rfl rfl (by kernel_rfl) rfl ?_
  refine Fx.val (v:=.bool false) rfl rfl rfl rfl (Fx.e_pkF rfl rfl rfl) ?_
  refine Fx.val (v:=.bool false) rfl rfl rfl rfl (Fx.e_as rfl rfl) ?_
  clear hst
  intro w' hst
  generalize hact:Fx.mkO _ _=act
  have hv:act.tmps.getD 2 undef=.bool false:=by rw[←hact];kernel_rfl
  have hd:act.defers=[]:=by rw[←hact];kernel_rfl
  clear hact
  go_wp2_with fail
  refine bodyPost_ret (results_tmp rfl _ _ _) hd ?_
  rw[hv]
  exact⟨ret_bool (sl_false (fun h=>by simp only[SlOk] at h;omega)),hst.end⟩
 ·obtain⟨h0,hn⟩:=h
  refine Fx.fa rfl rfl rfl rfl rfl rfl ?_
  refine Fx.l1 rfl rfl rfl rfl rfl rfl ?_
  refine Fx.val rfl rfl rfl rfl (Fx.e_geq (b:=true) rfl rfl rfl (decide_eq_true h0)) ?_
  refine Fx.val (v:=.bool true) rfl rfl rfl rfl (Fx.e_mv rfl rfl) ?_
  refine Fx.fa rfl rfl rfl (by kernel_rfl) rfl rfl ?_
  refine Fx.l1 rfl rfl rfl (by kernel_rfl) rfl rfl ?_
  refine Fx.val rfl rfl rfl (by kernel_rfl) (Fx.e_leq (b:=false) rfl rfl rfl (decide_eq_false (by first|omega |exact hn))) ?_
  refine Fx.val (v:=.bool false) rfl rfl rfl rfl (Fx.e_pkT rfl rfl rfl) ?_
  refine Fx.val (v:=.bool false) rfl rfl rfl rfl (Fx.e_mv rfl rfl) ?_
  refine Fx.skip rfl rfl (by kernel_rfl) rfl ?_
  refine Fx.skipB rfl rfl (by kernel_rfl) (fun w h=>h) ?_
  refine Fx.skip rfl rfl (by kernel_rfl) rfl ?_
  refine Fx.val (v:=.bool false) rfl rfl rfl rfl (Fx.e_pkF rfl rfl rfl) ?_
  refine Fx.val (v:=.bool false) rfl rfl rfl rfl (Fx.e_mv rfl rfl) ?_
  refine Fx.skip rfl rfl (by kernel_rfl) rfl ?_
  refine Fx.skipB rfl rfl (by kernel_rfl) (fun w h=>h) ?_
  refine Fx.skip rfl rfl (by kernel_rfl) rfl ?_
  refine Fx.val (v:=.bool false) rfl rfl rfl rfl (Fx.e_pkF rfl rfl rfl) ?_
  refine Fx.val (v:=.bool false) rfl rfl rfl rfl (Fx.e_mv rfl rfl) ?_
  refine Fx.skip rfl rfl (by kernel_rfl) rfl ?_
  refine Fx.skipB rfl rfl (by kernel_rfl) (fun w h=>h) ?_
  refine Fx.skip rfl rfl (by kernel_rfl) rfl ?_
  refine Fx.val (v:=.bool false) rfl rfl rfl rfl (Fx.e_pkF rfl rfl rfl) ?_
  refine Fx.val (v:=.bool false) rfl rfl rfl rfl (Fx.e_mv rfl rfl) ?_
  refine Fx.skip rfl rfl (by kernel_rfl) rfl ?_
  refine Fx.skipB rfl rfl (by kernel_rfl) (fun w h=>h) ?_
  refine Fx.skip rfl rfl (by kernel_rfl) rfl ?_
  refine Fx.val (v:=.bool false) rfl rfl rfl rfl (Fx.e_pkF rfl rfl rfl) ?_
  refine Fx.val (v:=.bool false) rfl rfl rfl rfl (Fx.e_mv rfl rfl) ?_
  refine Fx.skip rfl rfl (by kernel_rfl) rfl ?_
  refine Fx.skip rfl rfl (by kernel_rfl) rfl ?_
  refine Fx.skipB rfl rfl (by kernel_rfl) (fun w h=>h) ?_
  refine Fx.skip rfl rfl (by kernel_rfl) rfl ?_
  refine Fx.val (v:=.bool false) rfl rfl rfl rfl (Fx.e_pkF rfl rfl rfl) ?_
  refine Fx.val (v:=.bool false) rfl rfl rfl rfl (Fx.e_mv rfl rfl) ?_
  refine Fx.skip rfl rfl (by kernel_rfl) rfl ?_
  refine Fx.skip rfl rfl (by kernel_rfl) rfl ?_
  refine Fx.skipB rfl rfl (by kernel_rfl) (fun w h=>h) ?_
  refine Fx.skip rfl rfl (by kernel_rfl) rfl ?_
  refine Fx.skipB rfl rfl (by kernel_rfl) (fun w h=>h) ?_
  refine Fx.skip rfl rfl (by kernel_rfl) rfl ?_
  refine Fx.skip rfl rfl (by kernel_rfl) rfl ?_
  refine Fx.val (v:=.bool false) rfl rfl rfl rfl (Fx.e_pkF rfl rfl rfl) ?_
  refine Fx.val (v:=.bool false) rfl rfl rfl rfl (Fx.e_mv rfl rfl) ?_
  refine Fx.skip rfl rfl (by kernel_rfl) rfl ?_
  refine Fx.skip rfl rfl (by kernel_rfl) rfl ?_
  refine Fx.skipB rfl rfl (by kernel_rfl) (fun w h=>h) ?_
  refine Fx.skip rfl rfl (by kernel_rfl) rfl ?_
  refine Fx.skip rfl rfl (by kernel_rfl) rfl ?_
  refine Fx.skipB rfl rfl (by kernel_rfl) (fun w h=>h) ?_
  refine Fx.skip rfl rfl (by kernel_rfl) rfl ?_
  refine Fx.skip rfl rfl (by kernel_rfl) rfl ?_
  refine Fx.val (v:=.bool false) rfl rfl rfl rfl (Fx.e_pkF rfl rfl rfl) ?_
  refine Fx.val (v:=.bool false) rfl rfl rfl rfl (Fx.e_mv rfl rfl) ?_
  refine Fx.skip rfl rfl (by kernel_rfl) rfl ?_
  refine Fx.skip rfl rfl (by kernel_rfl) rfl ?_
  refine Fx.skipB rfl rfl (by kernel_rfl) (fun w h=>h) ?_
  refine Fx.skip rfl rfl (by kernel_rfl) rfl ?_
  refine Fx.val (v:=.bool false) rfl rfl rfl rfl (Fx.e_pkF rfl rfl rfl) ?_
  refine Fx.val (v:=.bool false) rfl rfl rfl rfl (Fx.e_as rfl rfl) ?_
  clear hst
  intro w' hst
  generalize hact:Fx.mkO _ _=act
  have hv:act.tmps.getD 2 undef=.bool false:=by rw[←hact];kernel_rfl
  have hd:act.defers=[]:=by rw[←hact];kernel_rfl
  clear hact
  go_wp2_with fail
  refine bodyPost_ret (results_tmp rfl _ _ _) hd ?_
  rw[hv]
  exact⟨ret_bool (sl_false (fun h=>by simp only[SlOk] at h;omega)),hst.end⟩
 ·obtain⟨h0,h1,hn⟩:=h
  refine Fx.fa rfl rfl rfl rfl rfl rfl ?_
  refine Fx.l1 rfl rfl rfl rfl rfl rfl ?_
  refine Fx.val rfl rfl rfl rfl (Fx.e_geq (b:=true) rfl rfl rfl (decide_eq_true h0)) ?_
  refine Fx.val (v:=.bool true) rfl rfl rfl rfl (Fx.e_mv rfl rfl) ?_
  refine Fx.fa rfl rfl rfl (by kernel_rfl) rfl rfl ?_
  refine Fx.l1 rfl rfl rfl (by kernel_rfl) rfl rfl ?_
  refine Fx.val rfl rfl rfl (by kernel_rfl) (Fx.e_leq (b:=true) rfl rfl rfl (decide_eq_true h1)) ?_
  refine Fx.val (v:=.bool true) rfl rfl rfl rfl (Fx.e_pkT rfl rfl rfl) ?_
  refine Fx.val (v:=.bool true) rfl rfl rfl rfl (Fx.e_mv rfl rfl) ?_
  refine Fx.fa rfl rfl rfl (by kernel_rfl) rfl rfl ?_
  refine Fx.l1 rfl rfl rfl (by kernel_rfl) rfl rfl ?_
  refine Fx.val rfl rfl rfl (by kernel_rfl) (Fx.e_geq (b:=false) rfl rfl rfl (decide_eq_false (by first|omega |exact hn))) ?_
  refine Fx.val (v:=.bool false) rfl rfl rfl rfl (Fx.e_pkT rfl rfl rfl) ?_
  refine Fx.val (v:=.bool false) rfl rfl rfl rfl (Fx.e_mv rfl rfl) ?_
  refine Fx.skip rfl rfl (by kernel_rfl) rfl ?_
  refine Fx.skipB rfl rfl (by kernel_rfl) (fun w h=>h) ?_
  refine Fx.skip rfl rfl (by kernel_rfl) rfl ?_
  refine Fx.val (v:=.bool false) rfl rfl rfl rfl (Fx.e_pkF rfl rfl rfl) ?_
  refine Fx.val (v:=.bool false) rfl rfl rfl rfl (Fx.e_mv rfl rfl) ?_
  refine Fx.skip rfl rfl (by kernel_rfl) rfl ?_
  refine Fx.skipB rfl rfl (by kernel_rfl) (fun w h=>h) ?_
  refine Fx.skip rfl rfl (by kernel_rfl) rfl ?_
  refine Fx.val (v:=.bool false) rfl rfl rfl rfl (Fx.e_pkF rfl rfl rfl) ?_
  refine Fx.val (v:=.bool false) rfl rfl rfl rfl (Fx.e_mv rfl rfl) ?_
  refine Fx.skip rfl rfl (by kernel_rfl) rfl ?_
  refine Fx.skipB rfl rfl (by kernel_rfl) (fun w h=>h) ?_
  refine Fx.skip rfl rfl (by kernel_rfl) rfl ?_
  refine Fx.val (v:=.bool false) rfl rfl rfl rfl (Fx.e_pkF rfl rfl rfl) ?_
  refine Fx.val (v:=.bool false) rfl rfl rfl rfl (Fx.e_mv rfl rfl) ?_
  refine Fx.skip rfl rfl (by kernel_rfl) rfl ?_
  refine Fx.skip rfl rfl (by kernel_rfl) rfl ?_
  refine Fx.skipB rfl rfl (by kernel_rfl) (fun w h=>h) ?_
  refine Fx.skip rfl rfl (by kernel_rfl) rfl ?_
  refine Fx.val (v:=.bool false) rfl rfl rfl rfl (Fx.e_pkF rfl rfl rfl) ?_
  refine Fx.val (v:=.bool false) rfl rfl rfl rfl (Fx.e_mv rfl rfl) ?_
  refine Fx.skip rfl rfl (by kernel_rfl) rfl ?_
  refine Fx.skip rfl rfl (by kernel_rfl) rfl ?_
  refine Fx.skipB rfl rfl (by kernel_rfl) (fun w h=>h) ?_
  refine Fx.skip rfl rfl (by kernel_rfl) rfl ?_
  refine Fx.skipB rfl rfl (by kernel_rfl) (fun w h=>h) ?_
  refine Fx.skip rfl rfl (by kernel_rfl) rfl ?_
  refine Fx.skip rfl rfl (by kernel_rfl) rfl ?_
  refine Fx.val (v:=.bool false) rfl rfl rfl rfl (Fx.e_pkF rfl rfl rfl) ?_
  refine Fx.val (v:=.bool false) rfl rfl rfl rfl (Fx.e_mv rfl rfl) ?_
  refine Fx.skip rfl rfl (by kernel_rfl) rfl ?_
  refine Fx.skip rfl rfl (by kernel_rfl) rfl ?_
  refine Fx.skipB rfl rfl (by kernel_rfl) (fun w h=>h) ?_
  refine Fx.skip rfl rfl (by kernel_rfl) rfl ?_
  refine Fx.skip rfl rfl (by kernel_rfl) rfl ?_
  refine Fx.skipB rfl rfl (by kernel_rfl) (fun w h=>h) ?_
  refine Fx.skip rfl rfl (by kernel_rfl) rfl ?_
  refine Fx.skip rfl rfl (by kernel_rfl) rfl ?_
  refine Fx.val (v:=.bool false) rfl rfl rfl rfl (Fx.e_pkF rfl rfl rfl) ?_
  refine Fx.val (v:=.bool false) rfl rfl rfl rfl (Fx.e_mv rfl rfl) ?_
  refine Fx.skip rfl rfl (by kernel_rfl) rfl ?_
  refine Fx.skip rfl rfl (by kernel_rfl) rfl ?_
  refine Fx.skipB rfl rfl (by kernel_rfl) (fun w h=>h) ?_
  refine Fx.skip rfl rfl (by kernel_rfl) rfl ?_
  refine Fx.val (v:=.bool false) rfl rfl rfl rfl (Fx.e_pkF rfl rfl rfl) ?_
  refine Fx.val (v:=.bool false) rfl rfl rfl rfl (Fx.e_as rfl rfl) ?_
  clear hst
  intro w' hst
  generalize hact:Fx.mkO _ _=act
  have hv:act.tmps.getD 2 undef=.bool false:=by rw[←hact];kernel_rfl
  have hd:act.defers=[]:=by rw[←hact];kernel_rfl
  clear hact
  go_wp2_with fail
  refine bodyPost_ret (results_tmp rfl _ _ _) hd ?_
  rw[hv]
  exact⟨ret_bool (sl_false (fun h=>by simp only[SlOk] at h;omega)),hst.end⟩
 ·obtain⟨h0,h1,h2,hn⟩:=h
  refine Fx.fa rfl rfl rfl rfl rfl rfl ?_
  refine Fx.l1 rfl rfl rfl rfl rfl rfl ?_
  refine Fx.val rfl rfl rfl rfl (Fx.e_geq (b:=true) rfl rfl rfl (decide_eq_true h0)) ?_
  refine Fx.val (v:=.bool true) rfl rfl rfl rfl (Fx.e_mv rfl rfl) ?_
  refine Fx.fa rfl rfl rfl (by kernel_rfl) rfl rfl ?_
  refine Fx.l1 rfl rfl rfl (by kernel_rfl) rfl rfl ?_
  refine Fx.val rfl rfl rfl (by kernel_rfl) (Fx.e_leq (b:=true) rfl rfl rfl (decide_eq_true h1)) ?_
  refine Fx.val (v:=.bool true) rfl rfl rfl rfl (Fx.e_pkT rfl rfl rfl) ?_
  refine Fx.val (v:=.bool true) rfl rfl rfl rfl (Fx.e_mv rfl rfl) ?_
  refine Fx.fa rfl rfl rfl (by kernel_rfl) rfl rfl ?_
  refine Fx.l1 rfl rfl rfl (by kernel_rfl) rfl rfl ?_
  refine Fx.val rfl rfl rfl (by kernel_rfl) (Fx.e_geq (b:=true) rfl rfl rfl (decide_eq_true h2)) ?_
  refine Fx.val (v:=.bool true) rfl rfl rfl rfl (Fx.e_pkT rfl rfl rfl) ?_
  refine Fx.val (v:=.bool true) rfl rfl rfl rfl (Fx.e_mv rfl rfl) ?_
  refine Fx.fa rfl rfl rfl (by kernel_rfl) rfl rfl ?_
  refine Fx.l1 rfl rfl rfl (by kernel_rfl) rfl rfl ?_
  refine Fx.val rfl rfl rfl (by kernel_rfl) (Fx.e_leq (b:=false) rfl rfl rfl (decide_eq_false (by first|omega |exact hn))) ?_
  refine Fx.val (v:=.bool false) rfl rfl rfl rfl (Fx.e_pkT rfl rfl rfl) ?_
  refine Fx.val (v:=.bool false) rfl rfl rfl rfl (Fx.e_mv rfl rfl) ?_
  refine Fx.skip rfl rfl (by kernel_rfl) rfl ?_
  refine Fx.skipB rfl rfl (by kernel_rfl) (fun w h=>h) ?_
  refine Fx.skip rfl rfl (by kernel_rfl) rfl ?_
  refine Fx.val (v:=.bool false) rfl rfl rfl rfl (Fx.e_pkF rfl rfl rfl) ?_
  refine Fx.val (v:=.bool false) rfl rfl rfl rfl (Fx.e_mv rfl rfl) ?_
  refine Fx.skip rfl rfl (by kernel_rfl) rfl ?_
  refine Fx.skipB rfl rfl (by kernel_rfl) (fun w h=>h) ?_
  refine Fx.skip rfl rfl (by kernel_rfl) rfl ?_
  refine Fx.val (v:=.bool false) rfl rfl rfl rfl (Fx.e_pkF rfl rfl rfl) ?_
  refine Fx.val (v:=.bool false) rfl rfl rfl rfl (Fx.e_mv rfl rfl) ?_
  refine Fx.skip rfl rfl (by kernel_rfl) rfl ?_
  refine Fx.skip rfl rfl (by kernel_rfl) rfl ?_
  refine Fx.skipB rfl rfl (by kernel_rfl) (fun w h=>h) ?_
  refine Fx.skip rfl rfl (by kernel_rfl) rfl ?_
  refine Fx.val (v:=.bool false) rfl rfl rfl rfl (Fx.e_pkF rfl rfl rfl) ?_
  refine Fx.val (v:=.bool false) rfl rfl rfl rfl (Fx.e_mv rfl rfl) ?_
  refine Fx.skip rfl rfl (by kernel_rfl) rfl ?_
  refine Fx.skip rfl rfl (by kernel_rfl) rfl ?_
  refine Fx.skipB rfl rfl (by kernel_rfl) (fun w h=>h) ?_
  refine Fx.skip rfl rfl (by kernel_rfl) rfl ?_
  refine Fx.skipB rfl rfl (by kernel_rfl) (fun w h=>h) ?_
  refine Fx.skip rfl rfl (by kernel_rfl) rfl ?_
  refine Fx.skip rfl rfl (by kernel_rfl) rfl ?_
  refine Fx.val (v:=.bool false) rfl rfl rfl rfl (Fx.e_pkF rfl rfl rfl) ?_
  refine Fx.val (v:=.bool false) rfl rfl rfl rfl (Fx.e_mv rfl rfl) ?_
  refine Fx.skip rfl rfl (by kernel_rfl) rfl ?_
  refine Fx.skip rfl rfl (by kernel_rfl) rfl ?_
  refine Fx.skipB rfl rfl (by kernel_rfl) (fun w h=>h) ?_
  refine Fx.skip rfl rfl (by kernel_rfl) rfl ?_
  refine Fx.skip rfl rfl (by kernel_rfl) rfl ?_
  refine Fx.skipB rfl rfl (by kernel_rfl) (fun w h=>h) ?_
  refine Fx.skip rfl rfl (by kernel_rfl) rfl ?_
  refine Fx.skip rfl rfl (by kernel_rfl) rfl ?_
  refine Fx.val (v:=.bool false) rfl rfl rfl rfl (Fx.e_pkF rfl rfl rfl) ?_
  refine Fx.val (v:=.bool false) rfl rfl rfl rfl (Fx.e_mv rfl rfl) ?_
  refine Fx.skip rfl rfl (by kernel_rfl) rfl ?_
  refine Fx.skip rfl rfl (by kernel_rfl) rfl ?_
  refine Fx.skipB rfl rfl (by kernel_rfl) (fun w h=>h) ?_
  refine Fx.skip rfl rfl (by kernel_rfl) rfl ?_
  refine Fx.val (v:=.bool false) rfl rfl rfl rfl (Fx.e_pkF rfl rfl rfl) ?_
  refine Fx.val (v:=.bool false) rfl rfl rfl rfl (Fx.e_as rfl rfl) ?_
  clear hst
  intro w' hst
  generalize hact:Fx.mkO _ _=act
  have hv:act.tmps.getD 2 undef=.bool false:=by rw[←hact];kernel_rfl
  have hd:act.defers=[]:=by rw[←hact];kernel_rfl
  clear hact
  go_wp2_with fail
  refine bodyPost_ret (results_tmp rfl _ _ _) hd ?_
  rw[hv]
  exact⟨ret_bool (sl_false (fun h=>by simp only[SlOk] at h;omega)),hst.end⟩
 ·obtain⟨h0,h1,h2,h3,hn⟩:=h
  refine Fx.fa rfl rfl rfl rfl rfl rfl ?_
  refine Fx.l1 rfl rfl rfl rfl rfl rfl ?_
  refine Fx.val rfl rfl rfl rfl (Fx.e_geq (b:=true) rfl rfl rfl (decide_eq_true h0)) ?_
  refine Fx.val (v:=.bool true) rfl rfl rfl rfl (Fx.e_mv rfl rfl) ?_
  refine Fx.fa rfl rfl rfl (by kernel_rfl) rfl rfl ?_
  refine Fx.l1 rfl rfl rfl (by kernel_rfl) rfl rfl ?_
  refine Fx.val rfl rfl rfl (by kernel_rfl) (Fx.e_leq (b:=true) rfl rfl rfl (decide_eq_true h1)) ?_
  refine Fx.val (v:=.bool true) rfl rfl rfl rfl (Fx.e_pkT rfl rfl rfl) ?_
  refine Fx.val (v:=.bool true) rfl rfl rfl rfl (Fx.e_mv rfl rfl) ?_
  refine Fx.fa rfl rfl rfl (by kernel_rfl) rfl rfl ?_
  refine Fx.l1 rfl rfl rfl (by kernel_rfl) rfl rfl ?_
  refine Fx.val rfl rfl rfl (by kernel_rfl) (Fx.e_geq (b:=true) rfl rfl rfl (decide_eq_true h2)) ?_
  refine Fx.val (v:=.bool true) rfl rfl rfl rfl (Fx.e_pkT rfl rfl rfl) ?_
  refine Fx.val (v:=.bool true) rfl rfl rfl rfl (Fx.e_mv rfl rfl) ?_
  refine Fx.fa rfl rfl rfl (by kernel_rfl) rfl rfl ?_
  refine Fx.l1 rfl rfl rfl (by kernel_rfl) rfl rfl ?_
  refine Fx.val rfl rfl rfl (by kernel_rfl) (Fx.e_leq (b:=true) rfl rfl rfl (decide_eq_true h3)) ?_
  refine Fx.val (v:=.bool true) rfl rfl rfl rfl (Fx.e_pkT rfl rfl rfl) ?_
  refine Fx.val (v:=.bool true) rfl rfl rfl rfl (Fx.e_mv rfl rfl) ?_
  refine Fx.fa rfl rfl rfl (by kernel_rfl) rfl rfl ?_
  refine Fx.l1 rfl rfl rfl (by kernel_rfl) rfl rfl ?_
  refine Fx.val rfl rfl rfl (by kernel_rfl) (Fx.e_geq (b:=false) rfl rfl rfl (decide_eq_false (by first|omega |exact hn))) ?_
  refine Fx.val (v:=.bool false) rfl rfl rfl rfl (Fx.e_pkT rfl rfl rfl) ?_
  refine Fx.val (v:=.bool false) rfl rfl rfl rfl (Fx.e_mv rfl rfl) ?_
  refine Fx.skip rfl rfl (by kernel_rfl) rfl ?_
  refine Fx.skipB rfl rfl (by kernel_rfl) (fun w h=>h) ?_
  refine Fx.skip rfl rfl (by kernel_rfl) rfl ?_
  refine Fx.val (v:=.bool false) rfl rfl rfl rfl (Fx.e_pkF rfl rfl rfl) ?_
  refine Fx.val (v:=.bool false) rfl rfl rfl rfl (Fx.e_mv rfl rfl) ?_
  refine Fx.skip rfl rfl (by kernel_rfl) rfl ?_
  refine Fx.skip rfl rfl (by kernel_rfl) rfl ?_
  refine Fx.skipB rfl rfl (by kernel_rfl) (fun w h=>h) ?_
  refine Fx.skip rfl rfl (by kernel_rfl) rfl ?_
  refine Fx.val (v:=.bool false) rfl rfl rfl rfl (Fx.e_pkF rfl rfl rfl) ?_
  refine Fx.val (v:=.bool false) rfl rfl rfl rfl (Fx.e_mv rfl rfl) ?_
  refine Fx.skip rfl rfl (by kernel_rfl) rfl ?_
  refine Fx.skip rfl rfl (by kernel_rfl) rfl ?_
  refine Fx.skipB rfl rfl (by kernel_rfl) (fun w h=>h) ?_
  refine Fx.skip rfl rfl (by kernel_rfl) rfl ?_
  refine Fx.skipB rfl rfl (by kernel_rfl) (fun w h=>h) ?_
  refine Fx.skip rfl rfl (by kernel_rfl) rfl ?_
  refine Fx.skip rfl rfl (by kernel_rfl) rfl ?_
  refine Fx.val (v:=.bool false) rfl rfl rfl rfl (Fx.e_pkF rfl rfl rfl) ?_
  refine Fx.val (v:=.bool false) rfl rfl rfl rfl (Fx.e_mv rfl rfl) ?_
  refine Fx.skip rfl rfl (by kernel_rfl) rfl ?_
  refine Fx.skip rfl rfl (by kernel_rfl) rfl ?_
  refine Fx.skipB rfl rfl (by kernel_rfl) (fun w h=>h) ?_
  refine Fx.skip rfl rfl (by kernel_rfl) rfl ?_
  refine Fx.skip rfl rfl (by kernel_rfl) rfl ?_
  refine Fx.skipB rfl rfl (by kernel_rfl) (fun w h=>h) ?_
  refine Fx.skip rfl rfl (by kernel_rfl) rfl ?_
  refine Fx.skip rfl rfl (by kernel_rfl) rfl ?_
  refine Fx.val (v:=.bool false) rfl rfl rfl rfl (Fx.e_pkF rfl rfl rfl) ?_
  refine Fx.val (v:=.bool false) rfl rfl rfl rfl (Fx.e_mv rfl rfl) ?_
  refine Fx.skip rfl rfl (by kernel_rfl) rfl ?_
  refine Fx.skip rfl rfl (by kernel_rfl) rfl ?_
  refine Fx.skipB rfl rfl (by kernel_rfl) (fun w h=>h) ?_
  refine Fx.skip rfl rfl (by kernel_rfl) rfl ?_
  refine Fx.val (v:=.bool false) rfl rfl rfl rfl (Fx.e_pkF rfl rfl rfl) ?_
  refine Fx.val (v:=.bool false) rfl rfl rfl rfl (Fx.e_as rfl rfl) ?_
  clear hst
  intro w' hst
  generalize hact:Fx.mkO _ _=act
  have hv:act.tmps.getD 2 undef=.bool false:=by rw[←hact];kernel_rfl
  have hd:act.defers=[]:=by rw[←hact];kernel_rfl
  clear hact
  go_wp2_with fail
  refine bodyPost_ret (results_tmp rfl _ _ _) hd ?_
  rw[hv]
  exact⟨ret_bool (sl_false (fun h=>by simp only[SlOk] at h;omega)),hst.end⟩
 ·obtain⟨h0,h1,h2,h3,h4,hn⟩:=h
  refine Fx.fa rfl rfl rfl rfl rfl rfl ?_
  refine Fx.l1 rfl rfl rfl rfl rfl rfl ?_
  refine Fx.val rfl rfl rfl rfl (Fx.e_geq (b:=true) rfl rfl rfl (decide_eq_true h0)) ?_
  refine Fx.val (v:=.bool true) rfl rfl rfl rfl (Fx.e_mv rfl rfl) ?_
  refine Fx.fa rfl rfl rfl (by kernel_rfl) rfl rfl ?_
  refine Fx.l1 rfl rfl rfl (by kernel_rfl) rfl rfl ?_
  refine Fx.val rfl rfl rfl (by kernel_rfl) (Fx.e_leq (b:=true) rfl rfl rfl (decide_eq_true h1)) ?_
  refine Fx.val (v:=.bool true) rfl rfl rfl rfl (Fx.e_pkT rfl rfl rfl) ?_
  refine Fx.val (v:=.bool true) rfl rfl rfl rfl (Fx.e_mv rfl rfl) ?_
  refine Fx.fa rfl rfl rfl (by kernel_rfl) rfl rfl ?_
  refine Fx.l1 rfl rfl rfl (by kernel_rfl) rfl rfl ?_
  refine Fx.val rfl rfl rfl (by kernel_rfl) (Fx.e_geq (b:=true) rfl rfl rfl (decide_eq_true h2)) ?_
  refine Fx.val (v:=.bool true) rfl rfl rfl rfl (Fx.e_pkT rfl rfl rfl) ?_
  refine Fx.val (v:=.bool true) rfl rfl rfl rfl (Fx.e_mv rfl rfl) ?_
  refine Fx.fa rfl rfl rfl (by kernel_rfl) rfl rfl ?_
  refine Fx.l1 rfl rfl rfl (by kernel_rfl) rfl rfl ?_
  refine Fx.val rfl rfl rfl (by kernel_rfl) (Fx.e_leq (b:=true) rfl rfl rfl (decide_eq_true h3)) ?_
  refine Fx.val (v:=.bool true) rfl rfl rfl rfl (Fx.e_pkT rfl rfl rfl) ?_
  refine Fx.val (v:=.bool true) rfl rfl rfl rfl (Fx.e_mv rfl rfl) ?_
  refine Fx.fa rfl rfl rfl (by kernel_rfl) rfl rfl ?_
  refine Fx.l1 rfl rfl rfl (by kernel_rfl) rfl rfl ?_
  refine Fx.val rfl rfl rfl (by kernel_rfl) (Fx.e_geq (b:=true) rfl rfl rfl (decide_eq_true h4)) ?_
  refine Fx.val (v:=.bool true) rfl rfl rfl rfl (Fx.e_pkT rfl rfl rfl) ?_
  refine Fx.val (v:=.bool true) rfl rfl rfl rfl (Fx.e_mv rfl rfl) ?_
  refine Fx.fa rfl rfl rfl (by kernel_rfl) rfl rfl ?_
  refine Fx.l1 rfl rfl rfl (by kernel_rfl) rfl rfl ?_
  refine Fx.val rfl rfl rfl (by kernel_rfl) (Fx.e_leq (b:=false) rfl rfl rfl (decide_eq_false (by first|omega |exact hn))) ?_
  refine Fx.val (v:=.bool false) rfl rfl rfl rfl (Fx.e_pkT rfl rfl rfl) ?_
  refine Fx.val (v:=.bool false) rfl rfl rfl rfl (Fx.e_mv rfl rfl) ?_
  refine Fx.skip rfl rfl (by kernel_rfl) rfl ?_
  refine Fx.skip rfl rfl (by kernel_rfl) rfl ?_
  refine Fx.skipB rfl rfl (by kernel_rfl) (fun w h=>h) ?_
  refine Fx.skip rfl rfl (by kernel_rfl) rfl ?_
  refine Fx.val (v:=.bool false) rfl rfl rfl rfl (Fx.e_pkF rfl rfl rfl) ?_
  refine Fx.val (v:=.bool false) rfl rfl rfl rfl (Fx.e_mv rfl rfl) ?_
  refine Fx.skip rfl rfl (by kernel_rfl) rfl ?_
  refine Fx.skip rfl rfl (by kernel_rfl) rfl ?_
  refine Fx.skipB rfl rfl (by kernel_rfl) (fun w h=>h) ?_
  refine Fx.skip rfl rfl (by kernel_rfl) rfl ?_
  refine Fx.skipB rfl rfl (by kernel_rfl) (fun w h=>h) ?_
  refine Fx.skip rfl rfl (by kernel_rfl) rfl ?_
  refine Fx.skip rfl rfl (by kernel_rfl) rfl ?_
  refine Fx.val (v:=.bool false) rfl rfl rfl rfl (Fx.e_pkF rfl rfl rfl) ?_
  refine Fx.val (v:=.bool false) rfl rfl rfl rfl (Fx.e_mv rfl rfl) ?_
  refine Fx.skip rfl rfl (by kernel_rfl) rfl ?_
  refine Fx.skip rfl rfl (by kernel_rfl) rfl ?_
  refine Fx.skipB rfl rfl (by kernel_rfl) (fun w h=>h) ?_
  refine Fx.skip rfl rfl (by kernel_rfl) rfl ?_
  refine Fx.skip rfl rfl (by kernel_rfl) rfl ?_
  refine Fx.skipB rfl rfl (by kernel_rfl) (fun w h=>h) ?_
  refine Fx.skip rfl rfl (by kernel_rfl) rfl ?_
  refine Fx.skip rfl rfl (by kernel_rfl) rfl ?_
  refine Fx.val (v:=.bool false) rfl rfl rfl rfl (Fx.e_pkF rfl rfl rfl) ?_
  refine Fx.val (v:=.bool false) rfl rfl rfl rfl (Fx.e_mv rfl rfl) ?_
  refine Fx.skip rfl rfl (by kernel_rfl) rfl ?_
  refine Fx.skip rfl rfl (by kernel_rfl) rfl ?_
  refine Fx.skipB rfl rfl (by kernel_rfl) (fun w h=>h) ?_
  refine Fx.skip rfl rfl (by kernel_rfl) rfl ?_
  refine Fx.val (v:=.bool false) rfl rfl rfl rfl (Fx.e_pkF rfl rfl rfl) ?_
  refine Fx.val (v:=.bool false) rfl rfl rfl rfl (Fx.e_as rfl rfl) ?_
  clear hst
  intro w' hst
  generalize hact:Fx.mkO _ _=act
  have hv:act.tmps.getD 2 undef=.bool false:=by rw[←hact];kernel_rfl
  have hd:act.defers=[]:=by rw[←hact];kernel_rfl
  clear hact
  go_wp2_with fail
  refine bodyPost_ret (results_tmp rfl _ _ _) hd ?_
  rw[hv]
  exact⟨ret_bool (sl_false (fun h=>by simp only[SlOk] at h;omega)),hst.end⟩
 ·obtain⟨h0,h1,h2,h3,h4,h5,hn⟩:=h
  refine Fx.fa rfl rfl rfl rfl rfl rfl ?_
  refine Fx.l1 rfl rfl rfl rfl rfl rfl ?_
  refine Fx.val rfl rfl rfl rfl (Fx.e_geq (b:=true) rfl rfl rfl (decide_eq_true h0)) ?_
  refine Fx.val (v:=.bool true) rfl rfl rfl rfl (Fx.e_mv rfl rfl) ?_
  refine Fx.fa rfl rfl rfl (by kernel_rfl) rfl rfl ?_
  refine Fx.l1 rfl rfl rfl (by kernel_rfl) rfl rfl ?_
  refine Fx.val rfl rfl rfl (by kernel_rfl) (Fx.e_leq (b:=true) rfl rfl rfl (decide_eq_true h1)) ?_
  refine Fx.val (v:=.bool true) rfl rfl rfl rfl (Fx.e_pkT rfl rfl rfl) ?_
  refine Fx.val (v:=.bool true) rfl rfl rfl rfl (Fx.e_mv rfl rfl) ?_
  refine Fx.fa rfl rfl rfl (by kernel_rfl) rfl rfl ?_
  refine Fx.l1 rfl rfl rfl (by kernel_rfl) rfl rfl ?_
  refine Fx.val rfl rfl rfl (by kernel_rfl) (Fx.e_geq (b:=true) rfl rfl rfl (decide_eq_true h2)) ?_
  refine Fx.val (v:=.bool true) rfl rfl rfl rfl (Fx.e_pkT rfl rfl rfl) ?_
  refine Fx.val (v:=.bool true) rfl rfl rfl rfl (Fx.e_mv rfl rfl) ?_
  refine Fx.fa rfl rfl rfl (by kernel_rfl) rfl rfl ?_
  refine Fx.l1 rfl rfl rfl (by kernel_rfl) rfl rfl ?_
  refine Fx.val rfl rfl rfl (by kernel_rfl) (Fx.e_leq (b:=true) rfl rfl rfl (decide_eq_true h3)) ?_
  refine Fx.val (v:=.bool true) rfl rfl rfl rfl (Fx.e_pkT rfl rfl rfl) ?_
  refine Fx.val (v:=.bool true) rfl rfl rfl rfl (Fx.e_mv rfl rfl) ?_
  refine Fx.fa rfl rfl rfl (by kernel_rfl) rfl rfl ?_
  refine Fx.l1 rfl rfl rfl (by kernel_rfl) rfl rfl ?_
  refine Fx.val rfl rfl rfl (by kernel_rfl) (Fx.e_geq (b:=true) rfl rfl rfl (decide_eq_true h4)) ?_
  refine Fx.val (v:=.bool true) rfl rfl rfl rfl (Fx.e_pkT rfl rfl rfl) ?_
  refine Fx.val (v:=.bool true) rfl rfl rfl rfl (Fx.e_mv rfl rfl) ?_
  refine Fx.fa rfl rfl rfl (by kernel_rfl) rfl rfl ?_
  refine Fx.l1 rfl rfl rfl (by kernel_rfl) rfl rfl ?_
  refine Fx.val rfl rfl rfl (by kernel_rfl) (Fx.e_leq (b:=true) rfl rfl rfl (decide_eq_true h5)) ?_
  refine Fx.val (v:=.bool true) rfl rfl rfl rfl (Fx.e_pkT rfl rfl rfl) ?_
  refine Fx.val (v:=.bool true) rfl rfl rfl rfl (Fx.e_mv rfl rfl) ?_
  refine Fx.fa rfl rfl rfl (by kernel_rfl) rfl rfl ?_
  refine Fx.fa rfl rfl rfl (by kernel_rfl) rfl rfl ?_
  refine Fx.l1 rfl rfl rfl (by kernel_rfl) rfl rfl ?_
  refine Fx.val rfl rfl rfl (by kernel_rfl) (Fx.e_geq (b:=false) rfl rfl rfl (decide_eq_false (by first|omega |exact hn))) ?_
  refine Fx.val (v:=.bool false) rfl rfl rfl rfl (Fx.e_pkT rfl rfl rfl) ?_
  refine Fx.val (v:=.bool false) rfl rfl rfl rfl (Fx.e_mv rfl rfl) ?_
  refine Fx.skip rfl rfl (by kernel_rfl) rfl ?_
  refine Fx.skip rfl rfl (by kernel_rfl) rfl ?_
  refine Fx.skipB rfl rfl (by kernel_rfl) (fun w h=>h) ?_
  refine Fx.skip rfl rfl (by kernel_rfl) rfl ?_
  refine Fx.skipB rfl rfl (by kernel_rfl) (fun w h=>h) ?_
  refine Fx.skip rfl rfl (by kernel_rfl) rfl ?_
  refine Fx.skip rfl rfl (by kernel_rfl) rfl ?_
  refine Fx.val (v:=.bool false) rfl rfl rfl rfl (Fx.e_pkF rfl rfl rfl) ?_
  refine Fx.val (v:=.bool false) rfl rfl rfl rfl (Fx.e_mv rfl rfl) ?_
  refine Fx.skip rfl rfl (by kernel_rfl) rfl ?_
  refine Fx.skip rfl rfl (by kernel_rfl) rfl ?_
  refine Fx.skipB rfl rfl (by kernel_rfl) (fun w h=>h) ?_
  refine Fx.skip rfl rfl (by kernel_rfl) rfl ?_
  refine Fx.skip rfl rfl (by kernel_rfl) rfl ?_
  refine Fx.skipB rfl rfl (by kernel_rfl) (fun w h=>h) ?_
  refine Fx.skip rfl rfl (by kernel_rfl) rfl ?_
  refine Fx.skip rfl rfl (by kernel_rfl) rfl ?_
  refine Fx.val (v:=.bool false) rfl rfl rfl rfl (Fx.e_pkF rfl rfl rfl) ?_
  refine Fx.val (v:=.bool false) rfl rfl rfl rfl (Fx.e_mv rfl rfl) ?_
  refine Fx.skip rfl rfl (by kernel_rfl) rfl ?_
  refine Fx.skip rfl rfl (by kernel_rfl) rfl ?_
  refine Fx.skipB rfl rfl (by kernel_rfl) (fun w h=>h) ?_
  refine Fx.skip rfl rfl (by kernel_rfl) rfl ?_
  refine Fx.val (v:=.bool false) rfl rfl rfl rfl (Fx.e_pkF rfl rfl rfl) ?_
  refine Fx.val (v:=.bool false) rfl rfl rfl rfl (Fx.e_as rfl rfl) ?_
  clear hst
  intro w' hst
  generalize hact:Fx.mkO _ _=act
  have hv:act.tmps.getD 2 undef=.bool false:=by rw[←hact];kernel_rfl
  have hd:act.defers=[]:=by rw[←hact];kernel_rfl
  clear hact
  go_wp2_with fail
  refine bodyPost_ret (results_tmp rfl _ _ _) hd ?_
  rw[hv]
  exact⟨ret_bool (sl_false (fun h=>by simp only[SlOk] at h;omega)),hst.end⟩
 ·obtain⟨h0,h1,h2,h3,h4,h5,h6,hn⟩:=h
  refine Fx.fa rfl rfl rfl rfl rfl rfl ?_
  refine Fx.l1 rfl rfl rfl rfl rfl rfl ?_
  refine Fx.val rfl rfl rfl rfl (Fx.e_geq (b:=true) rfl rfl rfl (decide_eq_true h0)) ?_
  refine Fx.val (v:=.bool true) rfl rfl rfl rfl (Fx.e_mv rfl rfl) ?_
  refine Fx.fa rfl rfl rfl (by kernel_rfl) rfl rfl ?_
  refine Fx.l1 rfl rfl rfl (by kernel_rfl) rfl rfl ?_
  refine Fx.val rfl rfl rfl (by kernel_rfl) (Fx.e_leq (b:=true) rfl rfl rfl (decide_eq_true h1)) ?_
  refine Fx.val (v:=.bool true) rfl rfl rfl rfl (Fx.e_pkT rfl rfl rfl) ?_
  refine Fx.val (v:=.bool true) rfl rfl rfl rfl (Fx.e_mv rfl rfl) ?_
  refine Fx.fa rfl rfl rfl (by kernel_rfl) rfl rfl ?_
  refine Fx.l1 rfl rfl rfl (by kernel_rfl) rfl rfl ?_
  refine Fx.val rfl rfl rfl (by kernel_rfl) (Fx.e_geq (b:=true) rfl rfl rfl (decide_eq_true h2)) ?_
  refine Fx.val (v:=.bool true) rfl rfl rfl rfl (Fx.e_pkT rfl rfl rfl) ?_
  refine Fx.val (v:=.bool true) rfl rfl rfl rfl (Fx.e_mv rfl rfl) ?_
  refine Fx.fa rfl rfl rfl (by kernel_rfl) rfl rfl ?_
  refine Fx.l1 rfl rfl rfl (by kernel_rfl) rfl rfl ?_
  refine Fx.val rfl rfl rfl (by kernel_rfl) (Fx.e_leq (b:=true) rfl rfl rfl (decide_eq_true h3)) ?_
  refine Fx.val (v:=.bool true) rfl rfl rfl rfl (Fx.e_pkT rfl rfl rfl) ?_
  refine Fx.val (v:=.bool true) rfl rfl rfl rfl (Fx.e_mv rfl rfl) ?_
  refine Fx.fa rfl rfl rfl (by kernel_rfl) rfl rfl ?_
  refine Fx.l1 rfl rfl rfl (by kernel_rfl) rfl rfl ?_
  refine Fx.val rfl rfl rfl (by kernel_rfl) (Fx.e_geq (b:=true) rfl rfl rfl (decide_eq_true h4)) ?_
  refine Fx.val (v:=.bool true) rfl rfl rfl rfl (Fx.e_pkT rfl rfl rfl) ?_
  refine Fx.val (v:=.bool true) rfl rfl rfl rfl (Fx.e_mv rfl rfl) ?_
  refine Fx.fa rfl rfl rfl (by kernel_rfl) rfl rfl ?_
  refine Fx.l1 rfl rfl rfl (by kernel_rfl) rfl rfl ?_
  refine Fx.val rfl rfl rfl (by kernel_rfl) (Fx.e_leq (b:=true) rfl rfl rfl (decide_eq_true h5)) ?_
  refine Fx.val (v:=.bool true) rfl rfl rfl rfl (Fx.e_pkT rfl rfl rfl) ?_
  refine Fx.val (v:=.bool true) rfl rfl rfl rfl (Fx.e_mv rfl rfl) ?_
  refine Fx.fa rfl rfl rfl (by kernel_rfl) rfl rfl ?_
  refine Fx.fa rfl rfl rfl (by kernel_rfl) rfl rfl ?_
  refine Fx.l1 rfl rfl rfl (by kernel_rfl) rfl rfl ?_
  refine Fx.val rfl rfl rfl (by kernel_rfl) (Fx.e_geq (b:=true) rfl rfl rfl (decide_eq_true h6)) ?_
  refine Fx.val (v:=.bool true) rfl rfl rfl rfl (Fx.e_pkT rfl rfl rfl) ?_
  refine Fx.val (v:=.bool true) rfl rfl rfl rfl (Fx.e_mv rfl rfl) ?_
  refine Fx.fa rfl rfl rfl (by kernel_rfl) rfl rfl ?_
  refine Fx.fa rfl rfl rfl (by kernel_rfl) rfl rfl ?_
  refine Fx.l1 rfl rfl rfl (by kernel_rfl) rfl rfl ?_
  refine Fx.fa rfl rfl rfl (by kernel_rfl) rfl rfl ?_
  refine Fx.l1 rfl rfl rfl (by kernel_rfl) rfl rfl ?_
  refine Fx.call rfl rfl (fun w=>HC.out ⟨h4,h5⟩ w) rfl (by kernel_rfl) (fun w=>by kernel_rfl) ?_
  refine Fx.val rfl rfl rfl (by kernel_rfl) (Fx.e_eql (b:=false) rfl rfl rfl (decide_eq_false (by first|omega |exact hn))) ?_
  refine Fx.val (v:=.bool false) rfl rfl rfl rfl (Fx.e_pkT rfl rfl rfl) ?_
  refine Fx.val (v:=.bool false) rfl rfl rfl rfl (Fx.e_mv rfl rfl) ?_
  refine Fx.skip rfl rfl (by kernel_rfl) rfl ?_
  refine Fx.skip rfl rfl (by kernel_rfl) rfl ?_
  refine Fx.skipB rfl rfl (by kernel_rfl) (fun w h=>h) ?_
  refine Fx.skip rfl rfl (by kernel_rfl) rfl ?_
  refine Fx.skip rfl rfl (by kernel_rfl) rfl ?_
  refine Fx.skipB rfl rfl (by kernel_rfl) (fun w h=>h) ?_
  refine Fx.skip rfl rfl (by kernel_rfl) rfl ?_
  refine Fx.skip rfl rfl (by kernel_rfl) rfl ?_
  refine Fx.val (v:=.bool false) rfl rfl rfl rfl (Fx.e_pkF rfl rfl rfl) ?_
  refine Fx.val (v:=.bool false) rfl rfl rfl rfl (Fx.e_mv rfl rfl) ?_
  refine Fx.skip rfl rfl (by kernel_rfl) rfl ?_
  refine Fx.skip rfl rfl (by kernel_rfl) rfl ?_
  refine Fx.skipB rfl rfl (by kernel_rfl) (fun w h=>h) ?_
  refine Fx.skip rfl rfl (by kernel_rfl) rfl ?_
  refine Fx.val (v:=.bool false) rfl rfl rfl rfl (Fx.e_pkF rfl rfl rfl) ?_
  refine Fx.val (v:=.bool false) rfl rfl rfl rfl (Fx.e_as rfl rfl) ?_
  clear hst
  intro w' hst
  generalize hact:Fx.mkO _ _=act
  have hv:act.tmps.getD 2 undef=.bool false:=by rw[←hact];kernel_rfl
  have hd:act.defers=[]:=by rw[←hact];kernel_rfl
  clear hact
  go_wp2_with fail
  refine bodyPost_ret (results_tmp rfl _ _ _) hd ?_
  rw[hv]
  exact⟨ret_bool (sl_false (fun h=>by simp only[SlOk] at h;omega)),hst.end⟩
 ·obtain⟨h0,h1,h2,h3,h4,h5,h6,h7,hn⟩:=h
  refine Fx.fa rfl rfl rfl rfl rfl rfl ?_
  refine Fx.l1 rfl rfl rfl rfl rfl rfl ?_
  refine Fx.val rfl rfl rfl rfl (Fx.e_geq (b:=true) rfl rfl rfl (decide_eq_true h0)) ?_
  refine Fx.val (v:=.bool true) rfl rfl rfl rfl (Fx.e_mv rfl rfl) ?_
  refine Fx.fa rfl rfl rfl (by kernel_rfl) rfl rfl ?_
  refine Fx.l1 rfl rfl rfl (by kernel_rfl) rfl rfl ?_
  refine Fx.val rfl rfl rfl (by kernel_rfl) (Fx.e_leq (b:=true) rfl rfl rfl (decide_eq_true h1)) ?_
  refine Fx.val (v:=.bool true) rfl rfl rfl rfl (Fx.e_pkT rfl rfl rfl) ?_
  refine Fx.val (v:=.bool true) rfl rfl rfl rfl (Fx.e_mv rfl rfl) ?_
  refine Fx.fa rfl rfl rfl (by kernel_rfl) rfl rfl ?_
  refine Fx.l1 rfl rfl rfl (by kernel_rfl) rfl rfl ?_
  refine Fx.val rfl rfl rfl (by kernel_rfl) (Fx.e_geq (b:=true) rfl rfl rfl (decide_eq_true h2)) ?_
  refine Fx.val (v:=.bool true) rfl rfl rfl rfl (Fx.e_pkT rfl rfl rfl) ?_
  refine Fx.val (v:=.bool true) rfl rfl rfl rfl (Fx.e_mv rfl rfl) ?_
  refine Fx.fa rfl rfl rfl (by kernel_rfl) rfl rfl ?_
  refine Fx.l1 rfl rfl rfl (by kernel_rfl) rfl rfl ?_
  refine Fx.val rfl rfl rfl (by kernel_rfl) (Fx.e_leq (b:=true) rfl rfl rfl (decide_eq_true h3)) ?_
  refine Fx.val (v:=.bool true) rfl rfl rfl rfl (Fx.e_pkT rfl rfl rfl) ?_
  refine Fx.val (v:=.bool true) rfl rfl rfl rfl (Fx.e_mv rfl rfl) ?_
  refine Fx.fa rfl rfl rfl (by kernel_rfl) rfl rfl ?_
  refine Fx.l1 rfl rfl rfl (by kernel_rfl) rfl rfl ?_
  refine Fx.val rfl rfl rfl (by kernel_rfl) (Fx.e_geq (b:=true) rfl rfl rfl (decide_eq_true h4)) ?_
  refine Fx.val (v:=.bool true) rfl rfl rfl rfl (Fx.e_pkT rfl rfl rfl) ?_
  refine Fx.val (v:=.bool true) rfl rfl rfl rfl (Fx.e_mv rfl rfl) ?_
  refine Fx.fa rfl rfl rfl (by kernel_rfl) rfl rfl ?_
  refine Fx.l1 rfl rfl rfl (by kernel_rfl) rfl rfl ?_
  refine Fx.val rfl rfl rfl (by kernel_rfl) (Fx.e_leq (b:=true) rfl rfl rfl (decide_eq_true h5)) ?_
  refine Fx.val (v:=.bool true) rfl rfl rfl rfl (Fx.e_pkT rfl rfl rfl) ?_
  refine Fx.val (v:=.bool true) rfl rfl rfl rfl (Fx.e_mv rfl rfl) ?_
  refine Fx.fa rfl rfl rfl (by kernel_rfl) rfl rfl ?_
  refine Fx.fa rfl rfl rfl (by kernel_rfl) rfl rfl ?_
  refine Fx.l1 rfl rfl rfl (by kernel_rfl) rfl rfl ?_
  refine Fx.val rfl rfl rfl (by kernel_rfl) (Fx.e_geq (b:=true) rfl rfl rfl (decide_eq_true h6)) ?_
  refine Fx.val (v:=.bool true) rfl rfl rfl rfl (Fx.e_pkT rfl rfl rfl) ?_
  refine Fx.val (v:=.bool true) rfl rfl rfl rfl (Fx.e_mv rfl rfl) ?_
  refine Fx.fa rfl rfl rfl (by kernel_rfl) rfl rfl ?_
  refine Fx.fa rfl rfl rfl (by kernel_rfl) rfl rfl ?_
  refine Fx.l1 rfl rfl rfl (by kernel_rfl) rfl rfl ?_
  refine Fx.fa rfl rfl rfl (by kernel_rfl) rfl rfl ?_
  refine Fx.l1 rfl rfl rfl (by kernel_rfl) rfl rfl ?_
  refine Fx.call rfl rfl (fun w=>HC.out ⟨h4,h5⟩ w) rfl (by kernel_rfl) (fun w=>by kernel_rfl) ?_
  refine Fx.val rfl rfl rfl (by kernel_rfl) (Fx.e_eql (b:=true) rfl rfl rfl (decide_eq_true h7)) ?_
  refine Fx.val (v:=.bool true) rfl rfl rfl rfl (Fx.e_pkT rfl rfl rfl) ?_
  refine Fx.val (v:=.bool true) rfl rfl rfl rfl (Fx.e_mv rfl rfl) ?_
  refine Fx.fa rfl rfl rfl (by kernel_rfl) rfl rfl ?_
  refine Fx.fa rfl rfl rfl (by kernel_rfl) rfl rfl ?_
  refine Fx.l1 rfl rfl rfl (by kernel_rfl) rfl rfl ?_
  refine Fx.fa rfl rfl rfl (by kernel_rfl) rfl rfl ?_
  refine Fx.fa rfl rfl rfl (by kernel_rfl) rfl rfl ?_
  refine Fx.l1 rfl rfl rfl (by kernel_rfl) rfl rfl ?_
  refine Fx.val rfl rfl rfl (by kernel_rfl) (Fx.e_add (m:=start) (n:=count) rfl rfl rfl (by omega)) ?_
  refine Fx.val rfl rfl rfl (by kernel_rfl) (Fx.e_leq (b:=false) rfl rfl rfl (decide_eq_false (by first|omega |exact hn))) ?_
  refine Fx.val (v:=.bool false) rfl rfl rfl rfl (Fx.e_pkT rfl rfl rfl) ?_
  refine Fx.val (v:=.bool false) rfl rfl rfl rfl (Fx.e_mv rfl rfl) ?_
  refine Fx.skip rfl rfl (by kernel_rfl) rfl ?_
  refine Fx.skip rfl rfl (by kernel_rfl) rfl ?_
  refine Fx.skipB rfl rfl (by kernel_rfl) (fun w h=>h) ?_
  refine Fx.skip rfl rfl (by kernel_rfl) rfl ?_
  refine Fx.val (v:=.bool false) rfl rfl rfl rfl (Fx.e_pkF rfl rfl rfl) ?_
  refine Fx.val (v:=.bool false) rfl rfl rfl rfl (Fx.e_as rfl rfl) ?_
  clear hst
  intro w' hst
  generalize hact:Fx.mkO _ _=act
  have hv:act.tmps.getD 2 undef=.bool false:=by rw[←hact];kernel_rfl
  have hd:act.defers=[]:=by rw[←hact];kernel_rfl
  clear hact
  go_wp2_with fail
  refine bodyPost_ret (results_tmp rfl _ _ _) hd ?_
  rw[hv]
  exact⟨ret_bool (sl_false (fun h=>by simp only[SlOk] at h;omega)),hst.end⟩
 ·obtain⟨h0,h1,h2,h3,h4,h5,h6,h7,h8,hn⟩:=h
  refine Fx.fa rfl rfl rfl rfl rfl rfl ?_
  refine Fx.l1 rfl rfl rfl rfl rfl rfl ?_
  refine Fx.val rfl rfl rfl rfl (Fx.e_geq (b:=true) rfl rfl rfl (decide_eq_true h0)) ?_
  refine Fx.val (v:=.bool true) rfl rfl rfl rfl (Fx.e_mv rfl rfl) ?_
  refine Fx.fa rfl rfl rfl (by kernel_rfl) rfl rfl ?_
  refine Fx.l1 rfl rfl rfl (by kernel_rfl) rfl rfl ?_
  refine Fx.val rfl rfl rfl (by kernel_rfl) (Fx.e_leq (b:=true) rfl rfl rfl (decide_eq_true h1)) ?_
  refine Fx.val (v:=.bool true) rfl rfl rfl rfl (Fx.e_pkT rfl rfl rfl) ?_
  refine Fx.val (v:=.bool true) rfl rfl rfl rfl (Fx.e_mv rfl rfl) ?_
  refine Fx.fa rfl rfl rfl (by kernel_rfl) rfl rfl ?_
  refine Fx.l1 rfl rfl rfl (by kernel_rfl) rfl rfl ?_
  refine Fx.val rfl rfl rfl (by kernel_rfl) (Fx.e_geq (b:=true) rfl rfl rfl (decide_eq_true h2)) ?_
  refine Fx.val (v:=.bool true) rfl rfl rfl rfl (Fx.e_pkT rfl rfl rfl) ?_
  refine Fx.val (v:=.bool true) rfl rfl rfl rfl (Fx.e_mv rfl rfl) ?_
  refine Fx.fa rfl rfl rfl (by kernel_rfl) rfl rfl ?_
  refine Fx.l1 rfl rfl rfl (by kernel_rfl) rfl rfl ?_
  refine Fx.val rfl rfl rfl (by kernel_rfl) (Fx.e_leq (b:=true) rfl rfl rfl (decide_eq_true h3)) ?_
  refine Fx.val (v:=.bool true) rfl rfl rfl rfl (Fx.e_pkT rfl rfl rfl) ?_
  refine Fx.val (v:=.bool true) rfl rfl rfl rfl (Fx.e_mv rfl rfl) ?_
  refine Fx.fa rfl rfl rfl (by kernel_rfl) rfl rfl ?_
  refine Fx.l1 rfl rfl rfl (by kernel_rfl) rfl rfl ?_
  refine Fx.val rfl rfl rfl (by kernel_rfl) (Fx.e_geq (b:=true) rfl rfl rfl (decide_eq_true h4)) ?_
  refine Fx.val (v:=.bool true) rfl rfl rfl rfl (Fx.e_pkT rfl rfl rfl) ?_
  refine Fx.val (v:=.bool true) rfl rfl rfl rfl (Fx.e_mv rfl rfl) ?_
  refine Fx.fa rfl rfl rfl (by kernel_rfl) rfl rfl ?_
  refine Fx.l1 rfl rfl rfl (by kernel_rfl) rfl rfl ?_
  refine Fx.val rfl rfl rfl (by kernel_rfl) (Fx.e_leq (b:=true) rfl rfl rfl (decide_eq_true h5)) ?_
  refine Fx.val (v:=.bool true) rfl rfl rfl rfl (Fx.e_pkT rfl rfl rfl) ?_
  refine Fx.val (v:=.bool true) rfl rfl rfl rfl (Fx.e_mv rfl rfl) ?_
  refine Fx.fa rfl rfl rfl (by kernel_rfl) rfl rfl ?_
  refine Fx.fa rfl rfl rfl (by kernel_rfl) rfl rfl ?_
  refine Fx.l1 rfl rfl rfl (by kernel_rfl) rfl rfl ?_
  refine Fx.val rfl rfl rfl (by kernel_rfl) (Fx.e_geq (b:=true) rfl rfl rfl (decide_eq_true h6)) ?_
  refine Fx.val (v:=.bool true) rfl rfl rfl rfl (Fx.e_pkT rfl rfl rfl) ?_
  refine Fx.val (v:=.bool true) rfl rfl rfl rfl (Fx.e_mv rfl rfl) ?_
  refine Fx.fa rfl rfl rfl (by kernel_rfl) rfl rfl ?_
  refine Fx.fa rfl rfl rfl (by kernel_rfl) rfl rfl ?_
  refine Fx.l1 rfl rfl rfl (by kernel_rfl) rfl rfl ?_
  refine Fx.fa rfl rfl rfl (by kernel_rfl) rfl rfl ?_
  refine Fx.l1 rfl rfl rfl (by kernel_rfl) rfl rfl ?_
  refine Fx.call rfl rfl (fun w=>HC.out ⟨h4,h5⟩ w) rfl (by kernel_rfl) (fun w=>by kernel_rfl) ?_
  refine Fx.val rfl rfl rfl (by kernel_rfl) (Fx.e_eql (b:=true) rfl rfl rfl (decide_eq_true h7)) ?_
  refine Fx.val (v:=.bool true) rfl rfl rfl rfl (Fx.e_pkT rfl rfl rfl) ?_
  refine Fx.val (v:=.bool true) rfl rfl rfl rfl (Fx.e_mv rfl rfl) ?_
  refine Fx.fa rfl rfl rfl (by kernel_rfl) rfl rfl ?_
  refine Fx.fa rfl rfl rfl (by kernel_rfl) rfl rfl ?_
  refine Fx.l1 rfl rfl rfl (by kernel_rfl) rfl rfl ?_
  refine Fx.fa rfl rfl rfl (by kernel_rfl) rfl rfl ?_
  refine Fx.fa rfl rfl rfl (by kernel_rfl) rfl rfl ?_
  refine Fx.l1 rfl rfl rfl (by kernel_rfl) rfl rfl ?_
  refine Fx.val rfl rfl rfl (by kernel_rfl) (Fx.e_add (m:=start) (n:=count) rfl rfl rfl (by omega)) ?_
  refine Fx.val rfl rfl rfl (by kernel_rfl) (Fx.e_leq (b:=true) rfl rfl rfl (decide_eq_true h8)) ?_
  refine Fx.val (v:=.bool true) rfl rfl rfl rfl (Fx.e_pkT rfl rfl rfl) ?_
  refine Fx.val (v:=.bool true) rfl rfl rfl rfl (Fx.e_mv rfl rfl) ?_
  refine Fx.fa rfl rfl rfl (by kernel_rfl) rfl rfl ?_
  refine Fx.fa rfl rfl rfl (by kernel_rfl) rfl rfl ?_
  refine Fx.l1 rfl rfl rfl (by kernel_rfl) rfl rfl ?_
  refine Fx.val rfl rfl rfl (by kernel_rfl) (Fx.e_lss (b:=false) rfl rfl rfl (decide_eq_false (by first|omega |exact hn))) ?_
  refine Fx.val (v:=.bool false) rfl rfl rfl rfl (Fx.e_pkT rfl rfl rfl) ?_
  refine Fx.val (v:=.bool false) rfl rfl rfl rfl (Fx.e_as rfl rfl) ?_
  clear hst
  intro w' hst
  generalize hact:Fx.mkO _ _=act
  have hv:act.tmps.getD 2 undef=.bool false:=by rw[←hact];kernel_rfl
  have hd:act.defers=[]:=by rw[←hact];kernel_rfl
  clear hact
  go_wp2_with fail
  refine bodyPost_ret (results_tmp rfl _ _ _) hd ?_
  rw[hv]
  exact⟨ret_bool (sl_false (fun h=>by simp only[SlOk] at h;omega)),hst.end⟩
 ·obtain⟨h0,h1,h2,h3,h4,h5,h6,h7,h8,h9⟩:=h
  refine Fx.fa rfl rfl rfl rfl rfl rfl ?_
  refine Fx.l1 rfl rfl rfl rfl rfl rfl ?_
  refine Fx.val rfl rfl rfl rfl (Fx.e_geq (b:=true) rfl rfl rfl (decide_eq_true h0)) ?_
  refine Fx.val (v:=.bool true) rfl rfl rfl rfl (Fx.e_mv rfl rfl) ?_
  refine Fx.fa rfl rfl rfl (by kernel_rfl) rfl rfl ?_
  refine Fx.l1 rfl rfl rfl (by kernel_rfl) rfl rfl ?_
  refine Fx.val rfl rfl rfl (by kernel_rfl) (Fx.e_leq (b:=true) rfl rfl rfl (decide_eq_true h1)) ?_
  refine Fx.val (v:=.bool true) rfl rfl rfl rfl (Fx.e_pkT rfl rfl rfl) ?_
  refine Fx.val (v:=.bool true) rfl rfl rfl rfl (Fx.e_mv rfl rfl) ?_
  refine Fx.fa rfl rfl rfl (by kernel_rfl) rfl rfl ?_
  refine Fx.l1 rfl rfl rfl (by kernel_rfl) rfl rfl ?_
  refine Fx.val rfl rfl rfl (by kernel_rfl) (Fx.e_geq (b:=true) rfl rfl rfl (decide_eq_true h2)) ?_
  refine Fx.val (v:=.bool true) rfl rfl rfl rfl (Fx.e_pkT rfl rfl rfl) ?_
  refine Fx.val (v:=.bool true) rfl rfl rfl rfl (Fx.e_mv rfl rfl) ?_
  refine Fx.fa rfl rfl rfl (by kernel_rfl) rfl rfl ?_
  refine Fx.l1 rfl rfl rfl (by kernel_rfl) rfl rfl ?_
  refine Fx.val rfl rfl rfl (by kernel_rfl) (Fx.e_leq (b:=true) rfl rfl rfl (decide_eq_true h3)) ?_
  refine Fx.val (v:=.bool true) rfl rfl rfl rfl (Fx.e_pkT rfl rfl rfl) ?_
  refine Fx.val (v:=.bool true) rfl rfl rfl rfl (Fx.e_mv rfl rfl) ?_
  refine Fx.fa rfl rfl rfl (by kernel_rfl) rfl rfl ?_
  refine Fx.l1 rfl rfl rfl (by kernel_rfl) rfl rfl ?_
  refine Fx.val rfl rfl rfl (by kernel_rfl) (Fx.e_geq (b:=true) rfl rfl rfl (decide_eq_true h4)) ?_
  refine Fx.val (v:=.bool true) rfl rfl rfl rfl (Fx.e_pkT rfl rfl rfl) ?_
  refine Fx.val (v:=.bool true) rfl rfl rfl rfl (Fx.e_mv rfl rfl) ?_
  refine Fx.fa rfl rfl rfl (by kernel_rfl) rfl rfl ?_
  refine Fx.l1 rfl rfl rfl (by kernel_rfl) rfl rfl ?_
  refine Fx.val rfl rfl rfl (by kernel_rfl) (Fx.e_leq (b:=true) rfl rfl rfl (decide_eq_true h5)) ?_
  refine Fx.val (v:=.bool true) rfl rfl rfl rfl (Fx.e_pkT rfl rfl rfl) ?_
  refine Fx.val (v:=.bool true) rfl rfl rfl rfl (Fx.e_mv rfl rfl) ?_
  refine Fx.fa rfl rfl rfl (by kernel_rfl) rfl rfl ?_
  refine Fx.fa rfl rfl rfl (by kernel_rfl) rfl rfl ?_
  refine Fx.l1 rfl rfl rfl (by kernel_rfl) rfl rfl ?_
  refine Fx.val rfl rfl rfl (by kernel_rfl) (Fx.e_geq (b:=true) rfl rfl rfl (decide_eq_true h6)) ?_
  refine Fx.val (v:=.bool true) rfl rfl rfl rfl (Fx.e_pkT rfl rfl rfl) ?_
  refine Fx.val (v:=.bool true) rfl rfl rfl rfl (Fx.e_mv rfl rfl) ?_
  refine Fx.fa rfl rfl rfl (by kernel_rfl) rfl rfl ?_
  refine Fx.fa rfl rfl rfl (by kernel_rfl) rfl rfl ?_
  refine Fx.l1 rfl rfl rfl (by kernel_rfl) rfl rfl ?_
  refine Fx.fa rfl rfl rfl (by kernel_rfl) rfl rfl ?_
  refine Fx.l1 rfl rfl rfl (by kernel_rfl) rfl rfl ?_
  refine Fx.call rfl rfl (fun w=>HC.out ⟨h4,h5⟩ w) rfl (by kernel_rfl) (fun w=>by kernel_rfl) ?_
  refine Fx.val rfl rfl rfl (by kernel_rfl) (Fx.e_eql (b:=true) rfl rfl rfl (decide_eq_true h7)) ?_
  refine Fx.val (v:=.bool true) rfl rfl rfl rfl (Fx.e_pkT rfl rfl rfl) ?_
  refine Fx.val (v:=.bool true) rfl rfl rfl rfl (Fx.e_mv rfl rfl) ?_
  refine Fx.fa rfl rfl rfl (by kernel_rfl) rfl rfl ?_
  refine Fx.fa rfl rfl rfl (by kernel_rfl) rfl rfl ?_
  refine Fx.l1 rfl rfl rfl (by kernel_rfl) rfl rfl ?_
  refine Fx.fa rfl rfl rfl (by kernel_rfl) rfl rfl ?_
  refine Fx.fa rfl rfl rfl (by kernel_rfl) rfl rfl ?_
  refine Fx.l1 rfl rfl rfl (by kernel_rfl) rfl rfl ?_
  refine Fx.val rfl rfl rfl (by kernel_rfl) (Fx.e_add (m:=start) (n:=count) rfl rfl rfl (by omega)) ?_
  refine Fx.val rfl rfl rfl (by kernel_rfl) (Fx.e_leq (b:=true) rfl rfl rfl (decide_eq_true h8)) ?_
  refine Fx.val (v:=.bool true) rfl rfl rfl rfl (Fx.e_pkT rfl rfl rfl) ?_
  refine Fx.val (v:=.bool true) rfl rfl rfl rfl (Fx.e_mv rfl rfl) ?_
  refine Fx.fa rfl rfl rfl (by kernel_rfl) rfl rfl ?_
  refine Fx.fa rfl rfl rfl (by kernel_rfl) rfl rfl ?_
  refine Fx.l1 rfl rfl rfl (by kernel_rfl) rfl rfl ?_
  refine Fx.val rfl rfl rfl (by kernel_rfl) (Fx.e_lss (b:=true) rfl rfl rfl (decide_eq_true h9)) ?_
  refine Fx.val (v:=.bool true) rfl rfl rfl rfl (Fx.e_pkT rfl rfl rfl) ?_
  refine Fx.val (v:=.bool true) rfl rfl rfl rfl (Fx.e_as rfl rfl) ?_
  clear hst
  intro w' hst
  generalize hact:Fx.mkO _ _=act
  have hv:act.tmps.getD 2 undef=.bool true:=by rw[←hact];kernel_rfl
  have hd:act.defers=[]:=by rw[←hact];kernel_rfl
  clear hact
  go_wp2_with fail
  refine bodyPost_ret (results_tmp rfl _ _ _) hd ?_
  rw[hv]
  exact⟨ret_bool (sl_true ⟨h0,h1,h2,h3,h4,h5,h6,h7.trans hc.symm,h8,h9⟩),hst.end⟩
end Go.Proofs.YtdkeiefgkgpcbaaGreatDoor
