/- Steps of the proof: Ent, Fields, Check, FitPlain, BackPlain, FieldPut, Encode. -/
import Derived.WalkLawsBesides
import Derived.Test.YtdkeiefgkgpcbaaGreatDoorP02
set_option linter.unusedVariables false
set_option linter.unusedSimpArgs false
set_option maxRecDepth 100000
namespace Go.Proofs.YtdkeiefgkgpcbaaGreatDoor
open Go.RowKit
def hb (h:List UInt8) (i:Nat):Value:=.int .u8 ((h.getD i 0).toNat:Int)
def hashL (h:List UInt8):List Value:=[hb h 0,hb h 1,hb h 2,hb h 3,hb h 4,hb h 5,hb h 6,hb h 7,hb h 8,hb h 9,hb h 10,hb h 11,hb h 12,hb h 13,hb h 14,hb h 15,hb h 16,hb h 17,hb h 18,hb h 19,hb h 20,hb h 21,hb h 22,hb h 23,hb h 24,hb h 25,hb h 26,hb h 27,hb h 28,hb h 29,hb h 30,hb h 31]
theorem hashL_eq (h:List UInt8) (hl:h.length=32):hashL h=u8s h:=by
 apply List.ext_getElem
 ·rw[show(hashL h).length=32 from rfl];simp[u8s,hl]
 ·intro i h1 h2
  have e:hashL h=(List.range 32).map (hb h):=rfl;simp[e,hb,u8s];rw[List.getElem?_eq_getElem (by simpa[u8s] using h2)];rfl
theorem arr_hashL (h:List UInt8) (hl:h.length=32):arr h=.agg (hashL h).toArray:=by rw[hashL_eq h hl];rfl
def I64 (k:Int):Prop:= -9223372036854775808≤k∧k≤9223372036854775807
structure Ent where
 kind:Int
 stream:Int
 n:Int
 len:Int
 name:ByteArray
 hash:List UInt8
 start:Int
 count:Int
structure Ent.Wf (e:Ent):Prop where
 kind:I64 e.kind
 stream:I64 e.stream
 n:I64 e.n
 len:I64 e.len
 name:e.name.size≤9223372036854775807
 hash:e.hash.length=32
 start:I64 e.start
 count:I64 e.count
def entL (e:Ent):List Value:=.int .i64 e.kind::.int .i64 e.stream::.int .i64 e.n::.int .i64 e.len::.string e.name::(hashL e.hash++[.int .i64 e.start,.int .i64 e.count])
def entC (e:Ent):Array Value:=(entL e).toArray
def entV (e:Ent):Value:=.agg (entC e)
def noS:ByteArray:={data:=#[]}
def ent0:Ent:=⟨0,0,0,0,noS,[],0,0⟩
theorem zero_ent (w:World):(zeroValue 66).run Tryz.prog w=.ok (.agg (entC ent0)) w:=by kernel_rfl
instance:AggT 66 39:=⟨fun w=>by kernel_rfl,by kernel_rfl⟩
instance:AggT 36 2:=⟨fun w=>by kernel_rfl,by kernel_rfl⟩
instance (e:Ent):CellAt (entC e) 0 (.int .i64 e.kind):=⟨rfl⟩
instance (e:Ent):CellAt (entC e) 1 (.int .i64 e.stream):=⟨rfl⟩
instance (e:Ent):CellAt (entC e) 2 (.int .i64 e.n):=⟨rfl⟩
instance (e:Ent):CellAt (entC e) 3 (.int .i64 e.len):=⟨rfl⟩
instance (e:Ent):CellAt (entC e) 4 (.string e.name):=⟨rfl⟩
instance (e:Ent):CellAt (entC e) 37 (.int .i64 e.start):=⟨rfl⟩
instance (e:Ent):CellAt (entC e) 38 (.int .i64 e.count):=⟨rfl⟩
instance (e:Ent):PartAt (entC e) 0 39 (entL e):=⟨rfl,fun j v h=>by rw[Nat.zero_add];simpa[entC] using h⟩
instance (e:Ent):PartAt (entC e) 5 32 (hashL e.hash):=⟨rfl,fun j v h=>by
 have hj:j<32:=(List.getElem?_eq_some_iff.1 h).1
 have:(entC e)[5+j]? =(hashL e.hash++[Value.int .i64 e.start,.int .i64 e.count])[j]? :=by
  rw[Nat.add_comm];simp[entC,entL]
 rw[this,List.getElem?_append_left (by exact hj)]
 exact h⟩
instance (e:Ent):PartAt (entC e) 37 2 [.int .i64 e.start,.int .i64 e.count]:=⟨rfl,fun j v h=>by
 match j with
 |0=>exact h
 |1=>exact h
 |j+2=>simp at h⟩
theorem wr_one (C C':Array Value) (off:Nat) (v:Value) (h1:v.oneCell'=true) (hc:v.cells=#[v]) (hf:off+1≤C.size) (he:C.setIfInBounds off v=C'):WrAt C off 1 v C':=
 ⟨by rw[hc];rfl,by rw[hc];exact hf,fun x hx=>by rw[hc] at hx;simp at hx;subst hx;exact h1,by rw[hc];exact he⟩
theorem wr_row (C C':Array Value) (off n:Nat) (vs:List Value) (hn:vs.length=n) (h1:vs.all (·.oneCell')=true) (hf:off+n≤C.size) (he:wr C off vs=C'):WrAt C off n (.agg vs.toArray) C':=
 ⟨by simp[Value.cells,hn],by simp[Value.cells,hn];exact hf,fun x hx=>List.all_eq_true.1 h1 x (by simpa[Value.cells] using hx),by simpa[Value.cells] using he⟩
instance (e:Ent) (x:Int):WrAt (entC e) 0 1 (.int .i64 x) (entC {e with kind:=x}):=wr_one _ _ _ _ rfl rfl (Nat.le_of_ble_eq_true rfl) rfl
instance (e:Ent) (x:Int):WrAt (entC e) 1 1 (.int .i64 x) (entC {e with stream:=x}):=wr_one _ _ _ _ rfl rfl (Nat.le_of_ble_eq_true rfl) rfl
instance (e:Ent) (x:Int):WrAt (entC e) 2 1 (.int .i64 x) (entC {e with n:=x}):=wr_one _ _ _ _ rfl rfl (Nat.le_of_ble_eq_true rfl) rfl
instance (e:Ent) (x:Int):WrAt (entC e) 3 1 (.int .i64 x) (entC {e with len:=x}):=wr_one _ _ _ _ rfl rfl (Nat.le_of_ble_eq_true rfl) rfl
instance (e:Ent) (x:ByteArray):WrAt (entC e) 4 1 (.string x) (entC {e with name:=x}):=wr_one _ _ _ _ rfl rfl (Nat.le_of_ble_eq_true rfl) rfl
instance (e:Ent) (h:List UInt8):WrAt (entC e) 5 32 (.agg (hashL h).toArray) (entC {e with hash:=h}):=wr_row _ _ _ _ _ rfl rfl (Nat.le_of_ble_eq_true rfl) (by kernel_rfl)
instance (e:Ent) (s c:Int):WrAt (entC e) 37 2 (.agg #[.int .i64 s,.int .i64 c]) (entC {e with start:=s,count:=c}):=wr_row _ _ _ _ [.int .i64 s,.int .i64 c] rfl rfl (Nat.le_of_ble_eq_true rfl) (by kernel_rfl)
instance (e f:Ent):WrAt (entC e) 0 39 (.agg (entL f).toArray) (entC f):=wr_row _ _ _ _ _ rfl rfl (Nat.le_of_ble_eq_true rfl) (by kernel_rfl)
instance (e f:Ent):WrAt (entC e) 0 39 (.agg (entC f)) (entC f):=wr_row _ _ _ _ (entL f) rfl rfl (Nat.le_of_ble_eq_true rfl) (by kernel_rfl)
instance (e f:Ent):WrAt (entC e) 0 39 (entV f) (entC f):=wr_row _ _ _ _ (entL f) rfl rfl (Nat.le_of_ble_eq_true rfl) (by kernel_rfl)
def eqTri (d:Nat) (xs ys:Array Value):List (String×TypeId×Nat)→Sem Bool
 | []=>pure true
 |f::fs=>
  if f.1≠"_" then do
   let a ←part f.2.1 xs f.2.2
   let b ←part f.2.1 ys f.2.2
   let r ←Op.equalIn d f.2.1 a b
   if(!r)=true then pure false else eqTri d xs ys fs
  else eqTri d xs ys fs
theorem eqFields_tri (d:Nat) (xs ys:Array Value):∀fs:List Field,Op.eqFields d xs ys fs=eqTri d xs ys (fs.map fun f=>(f.name,f.type,f.offset))
 | []=>rfl
 |f::fs=>by simp only[Op.eqFields,eqTri,List.map_cons,eqFields_tri d xs ys fs]
theorem eqTri_cons {d:Nat} {xs ys:Array Value} {w:World} {f:String×TypeId×Nat} {fs:List (String×TypeId×Nat)} {x y:Value} {r q:Bool} (hn:f.1≠"_") (hx:(part f.2.1 xs f.2.2).run Tryz.prog w=.ok x w) (hy:(part f.2.1 ys f.2.2).run Tryz.prog w=.ok y w)
  (hr:(Op.equalIn d f.2.1 x y).run Tryz.prog w=.ok r w) (hq:(eqTri d xs ys fs).run Tryz.prog w=.ok q w):(eqTri d xs ys (f::fs)).run Tryz.prog w=.ok (r&&q) w:=by
 unfold eqTri;rw[if_pos hn];simp only[Sem.run_bind,hx,hy,hr,Result.andThen_ok]
 cases r
 ·rfl
 ·simpa using hq
theorem eqTri_nil {d:Nat} {xs ys:Array Value} {w:World}:(eqTri d xs ys []).run Tryz.prog w=.ok true w:=rfl
theorem part_one {T:TypeId} [t:OneT T] {C:Array Value} {i:Nat} {v:Value} [c:CellAt C i v] (w:World):(part T C i).run Tryz.prog w=.ok v w:=by
 simp[part,Sem.run_bind,t.agg w,c.eq]
theorem part_agg {T:TypeId} {n:Nat} [t:AggT T n] {C:Array Value} {i:Nat} {cs:List Value} [c:PartAt C i n cs] (w:World):(part T C i).run Tryz.prog w=.ok (.agg cs.toArray) w:=by
 have:C.extract i (i+n)=cs.toArray:=by
  apply Array.ext_getElem?;intro j
  by_cases hj:j<n
  ·have hj':j<cs.length:=by rw[c.len];exact hj
   have h:=c.eq j _ (List.getElem?_eq_getElem hj');rw[Array.getElem?_extract];have hlt:i+j<C.size:=(Array.getElem?_eq_some_iff.1 h).1;rw[if_pos (by omega),h];simp[hj']
  ·rw[Array.getElem?_eq_none (by simp;omega),Array.getElem?_eq_none (by simp[c.len];omega)]
 simp[part,Sem.run_bind,t.agg w,run_size t.size,this]
theorem fieldsRun:((Tryz.prog.fieldsOf 36).toList.map fun f=>(f.name,f.type,f.offset))=[("Start",3,0),("Count",3,1)]:=by kernel_rfl
theorem fieldsEnt:((Tryz.prog.fieldsOf 66).toList.map fun f=>(f.name,f.type,f.offset))=[("Kind",3,0),("Stream",3,1),("N",3,2),("Len",3,3),("Name",9,4),("Hash",39,5),("Run",36,37)]:=by kernel_rfl
theorem underRun:Tryz.prog.underlying 36=some (.struct (Tryz.prog.fieldsOf 36)):=by kernel_rfl
theorem underEnt:Tryz.prog.underlying 66=some (.struct (Tryz.prog.fieldsOf 66)):=by kernel_rfl
theorem underInt:Tryz.prog.underlying 3=some (.int .i64):=by kernel_rfl
theorem underStr:Tryz.prog.underlying 9=some .string:=by kernel_rfl
instance (s c:Int):CellAt #[.int .i64 s,.int .i64 c] 0 (.int .i64 s):=⟨rfl⟩
instance (s c:Int):CellAt #[.int .i64 s,.int .i64 c] 1 (.int .i64 c):=⟨rfl⟩
theorem equal_run (d:Nat) (s c s' c':Int) (w:World):(Op.equalIn (d+2) 36 (.agg #[.int .i64 s,.int .i64 c]) (.agg #[.int .i64 s',.int .i64 c'])).run Tryz.prog w=.ok ((s==s')&&((c==c')&&true)) w:=by
 rw[run_equalIn_struct (P:=Tryz.prog) w (d+1) 36 _ _ underRun (by kernel_rfl),eqFields_tri,fieldsRun];exact eqTri_cons (by decide) (part_one w) (part_one w) (run_equalIn_int (P:=Tryz.prog) w d _ _ _ _ _ underInt) (eqTri_cons (by decide) (part_one w) (part_one w) (run_equalIn_int (P:=Tryz.prog) w d _ _ _ _ _ underInt) eqTri_nil)
def h32 (h:List UInt8):List UInt8:=(List.range 32).map (fun i=>h.getD i 0)
def entEq (e f:Ent):Bool:=(e.kind==f.kind)&&((e.stream==f.stream)&&((e.n==f.n)&&((e.len==f.len)&&((e.name.toList==f.name.toList)&&((h32 e.hash==h32 f.hash)&&((((e.start==f.start)&&((e.count==f.count)&&true)))&&true))))))
theorem hashL_32 (h:List UInt8):hashL h=hashL (h32 h):=rfl
theorem h32_length (h:List UInt8):(h32 h).length=32:=by simp[h32]
theorem equal_hashL (d:Nat) (g h:List UInt8) (w:World):(Op.equalIn (d+2) 39 (.agg (hashL g).toArray) (.agg (hashL h).toArray)).run Tryz.prog w=.ok (h32 g==h32 h) w:=by
 rw[hashL_32 g,hashL_32 h,←arr_hashL _ (h32_length g),←arr_hashL _ (h32_length h)];exact equal_hash d _ _ (h32_length g) (h32_length h) w
theorem equal_ent (e f:Ent) (w:World):(Op.equalIn 10000 66 (.agg (entC e)) (.agg (entC f))).run Tryz.prog w=.ok (entEq e f) w:=by
 rw[run_equalIn_struct (P:=Tryz.prog) w 9999 66 _ _ underEnt (by kernel_rfl),eqFields_tri,fieldsEnt];exact eqTri_cons (by decide) (part_one w) (part_one w) (run_equalIn_int (P:=Tryz.prog) w 9998 _ _ _ _ _ underInt)
  (eqTri_cons (by decide) (part_one w) (part_one w) (run_equalIn_int (P:=Tryz.prog) w 9998 _ _ _ _ _ underInt)
  (eqTri_cons (by decide) (part_one w) (part_one w) (run_equalIn_int (P:=Tryz.prog) w 9998 _ _ _ _ _ underInt)
  (eqTri_cons (by decide) (part_one w) (part_one w) (run_equalIn_int (P:=Tryz.prog) w 9998 _ _ _ _ _ underInt)
  (eqTri_cons (by decide) (part_one w) (part_one w) (run_equalIn_string (P:=Tryz.prog) w 9998 _ _ _ underStr)
  (eqTri_cons (by decide) (part_agg w) (part_agg w) (equal_hashL 9997 _ _ w)
  (eqTri_cons (by decide) (part_agg w) (part_agg w) (equal_run 9997 _ _ _ _ w) eqTri_nil))))))
theorem neq_ent (e f:Ent) (w:World):(binOp .neq 66 (.agg (entC e)) (.agg (entC f))).run Tryz.prog w=.ok (.bool (!entEq e f)) w:=by rw[run_neq_struct,equal_ent];rfl
theorem guard_ent (op:BinOp) (x y:Operand) (xs ys:Array Value) (w:World):(eqGuard op 66 x y (.agg xs) (.agg ys)).run Tryz.prog w=.ok () w:=run_eqGuard_agg (P:=Tryz.prog) w op _ x y xs ys (by kernel_rfl)
class IsEnt (C:Array Value) (e:outParam Ent):Prop where eq:C=entC e
instance (e:Ent):IsEnt (entC e) e:=⟨rfl⟩
instance (e:Ent):IsEnt (entL e).toArray e:=⟨rfl⟩
instance:IsEnt #[.int .i64 0,.int .i64 0,.int .i64 0,.int .i64 0,.string {data:=#[]},.int .u8 0,.int .u8 0,.int .u8 0,.int .u8 0,.int .u8 0,.int .u8 0,.int .u8 0,.int .u8 0,.int .u8 0,.int .u8 0,.int .u8 0,.int .u8 0,.int .u8 0,.int .u8 0,.int .u8 0,.int .u8 0,.int .u8 0,.int .u8 0,.int .u8 0,.int .u8 0,.int .u8 0,.int .u8 0,.int .u8 0,.int .u8 0,.int .u8 0,.int .u8 0,.int .u8 0,.int .u8 0,.int .u8 0,.int .u8 0,.int .u8 0,.int .u8 0,.int .i64 0,.int .i64 0] ent0:=⟨rfl⟩
section
variable {ops:Array Oper} {rest:List Oper} {o:Oper} {a:Act} {w:World} {Q:Exit→Act→World→Prop}
theorem wpList_neqE (hw:Region.wanted o (yielded ops a.tmps)=true) (x y:Operand) (r:TypeId) (ho:o.op=.binOp .neq 66 x y r) (xs ys:Array Value) (hx:a.eval x=.agg xs) (hy:a.eval y=.agg ys) {e f:Ent} [h1:IsEnt xs e] [h2:IsEnt ys f]
  (hk:wpList Tryz.prog ops Q rest (a.put o.dst (.bool !(entEq e f))) w):wpList Tryz.prog ops Q (o::rest) a w:=
 BigFrame.wpList_want hw fun K hK=>by
  unfold Oper.wp execOp;simp only[ho,hx,hy,Sem.run_bind,guard_ent,Result.andThen_ok,h1.eq,h2.eq,neq_ent];exact hK _ _ hk
end
end Go.Proofs.YtdkeiefgkgpcbaaGreatDoor
namespace Go.Proofs.YtdkeiefgkgpcbaaGreatDoor
open Go.RowKit
def withinB (n m:Int):Bool:=decide (0≤n)&&decide (n≤m)
set_option maxHeartbeats 1000000 in
theorem within_calls (n m:Int) (w:World):
  Calls Tryz.prog 135 #[.int .i64 n,.int .i64 m] w fun e w'=>e=.returned (.bool (withinB n m))∧w=w':=by
 unfold withinB
 by_cases h1:0≤n
 ·have f1:decide (0≤n)=true:=by simpa using h1
  rw[f1]
  by_cases h2:n≤m
  ·have f2:decide (n≤m)=true:=by simpa using h2
   rw[f2];clear h1 h2;go_enter Tryz.func135,Tryz.ntmps135;go_wp2;go_ret;exact⟨rfl,rfl⟩
  ·have f2:decide (n≤m)=false:=by simpa using h2
   rw[f2];clear h1 h2;go_enter Tryz.func135,Tryz.ntmps135;go_wp2;go_ret;exact⟨rfl,rfl⟩
 ·have f1:decide (0≤n)=false:=by simpa using h1
  rw[f1,Bool.false_and];clear h1;go_enter Tryz.func135,Tryz.ntmps135;go_wp2;go_ret;exact⟨rfl,rfl⟩
def mostN (k:Int):Int:=if k=6 then 63 else 1073741824
set_option maxHeartbeats 1000000 in
theorem most_calls (k:Int) (w:World):
  Calls Tryz.prog 136 #[.int .i64 k] w fun e w'=>e=.returned (.int .i64 (mostN k))∧w=w':=by
 by_cases h:k=6
 ·subst h
  go_enter Tryz.func136,Tryz.ntmps136;go_wp2;go_ret;exact⟨rfl,rfl⟩
 ·have f:(k==6)=false:=by simpa using h
  have e:mostN k=1073741824:=by simp[mostN,h]
  rw[e];clear h e;go_enter Tryz.func136,Tryz.ntmps136;go_wp2;go_ret;exact⟨rfl,rfl⟩
def fieldsL (k:Int):List Int:=if k=1 then[2] else if k=2 then[0,1,3] else if k=3∨k=6 then[0,1] else if k=4∨k=5 then[0,2] else[]
def FSl (w:World) (v:Value) (l:List Int) (w':World):Prop:=
 (l=[]∧v=.slice none 0 0)∨(l≠[]∧∃b,v=.slice (some ⟨b,0,none⟩) l.length l.length∧w.heap.size≤b∧w'.heap[b]? =some (.cells (l.map (Value.int .i64)).toArray 195 (0,0)))
theorem kind_cases (k:Int):k=1∨k=2∨k=3∨k=4∨k=5∨k=6∨(k≠1∧k≠2∧k≠3∧k≠4∧k≠5∧k≠6):=by omega
set_option maxHeartbeats 1000000 in
theorem fields_calls (k:Int) (w:World):
  Calls Tryz.prog 101 #[.int .i64 k] w fun e w'=>(∃v,e=.returned v∧FSl w v (fieldsL k) w')∧Below w.heap.size w w':=by
 rcases kind_cases k with rfl |rfl |rfl |rfl |rfl |rfl |⟨h1,h2,h3,h4,h5,h6⟩
 ·go_enter Tryz.func101,Tryz.ntmps101
  go_wp2;go_ret;exact⟨⟨_,rfl,Or.inr ⟨by decide,_,rfl,Nat.le_refl _,alloc_at _ _⟩⟩,(Below.refl _ _).alloc (Nat.le_refl _) _⟩
 ·go_enter Tryz.func101,Tryz.ntmps101
  go_wp2;go_ret;exact⟨⟨_,rfl,Or.inr ⟨by decide,_,rfl,Nat.le_refl _,alloc_at _ _⟩⟩,(Below.refl _ _).alloc (Nat.le_refl _) _⟩
 ·go_enter Tryz.func101,Tryz.ntmps101
  go_wp2;go_ret;exact⟨⟨_,rfl,Or.inr ⟨by decide,_,rfl,Nat.le_refl _,alloc_at _ _⟩⟩,(Below.refl _ _).alloc (Nat.le_refl _) _⟩
 ·go_enter Tryz.func101,Tryz.ntmps101
  go_wp2;go_ret;exact⟨⟨_,rfl,Or.inr ⟨by decide,_,rfl,Nat.le_refl _,alloc_at _ _⟩⟩,(Below.refl _ _).alloc (Nat.le_refl _) _⟩
 ·go_enter Tryz.func101,Tryz.ntmps101
  go_wp2;go_ret;exact⟨⟨_,rfl,Or.inr ⟨by decide,_,rfl,Nat.le_refl _,alloc_at _ _⟩⟩,(Below.refl _ _).alloc (Nat.le_refl _) _⟩
 ·go_enter Tryz.func101,Tryz.ntmps101
  go_wp2;go_ret;exact⟨⟨_,rfl,Or.inr ⟨by decide,_,rfl,Nat.le_refl _,alloc_at _ _⟩⟩,(Below.refl _ _).alloc (Nat.le_refl _) _⟩
 ·have e:fieldsL k=[]:=by unfold fieldsL;simp[h1,h2,h3,h4,h5,h6]
  have f1:(k==1)=false:=by simpa using h1
  have f2:(k==2)=false:=by simpa using h2
  have f3:(k==3)=false:=by simpa using h3
  have f4:(k==4)=false:=by simpa using h4
  have f5:(k==5)=false:=by simpa using h5
  have f6:(k==6)=false:=by simpa using h6
  rw[e];clear h1 h2 h3 h4 h5 h6 e;go_enter Tryz.func101,Tryz.ntmps101;go_wp2;go_ret;exact⟨⟨_,rfl,Or.inl ⟨rfl,rfl⟩⟩,Below.refl _ _⟩
theorem eql_nilF (a:Addr) (n c:Nat) (w:World):(binOp .eql 193 (.slice (some a) n c) (.slice none 0 0)).run Tryz.prog w=.ok (.bool false) w:=by kernel_rfl
theorem eql_nilT (w:World):(binOp .eql 193 (.slice none 0 0) (.slice none 0 0)).run Tryz.prog w=.ok (.bool true) w:=by kernel_rfl
end Go.Proofs.YtdkeiefgkgpcbaaGreatDoor
namespace Go.Proofs.YtdkeiefgkgpcbaaGreatDoor
open Go.RowKit
theorem zero_run (w:World):(zeroValue 36).run Tryz.prog w=.ok (.agg #[.int .i64 0,.int .i64 0]) w:=by kernel_rfl
def stepOk (e:Ent) (f:Int):Bool:=
 if f=0 then withinB e.stream 7 else if f=1 then withinB e.n (mostN e.kind) else if f=2 then nameOk e.name
 else withinB e.len 300&&(withinB e.start 512&&(decide (0<e.count)&&withinB e.count (512-e.start)))
def strip (e:Ent) (f:Int):Ent:=
 if f=0 then {e with stream:=0} else if f=1 then {e with n:=0} else if f=2 then {e with name:=noS} else {e with len:=0,hash:=[],start:=0,count:=0}
def checkB (e:Ent):Bool:=((fieldsL e.kind).all (stepOk e)&& !(fieldsL e.kind).isEmpty)&&entEq ((fieldsL e.kind).foldl strip {e with kind:=0}) ent0
instance (a b x y:Int):WrAt #[.int .i64 a,.int .i64 b] 0 2 (.agg [Value.int .i64 x,.int .i64 y].toArray) #[.int .i64 x,.int .i64 y]:=wr_row _ _ _ _ [.int .i64 x,.int .i64 y] rfl rfl (Nat.le_of_ble_eq_true rfl) rfl
instance:OneT 195:=⟨fun w=>by kernel_rfl,by kernel_rfl⟩
instance (e:Ent):WrAt (entC e) 5 32 (.agg #[.int .u8 0,.int .u8 0,.int .u8 0,.int .u8 0,.int .u8 0,.int .u8 0,.int .u8 0,.int .u8 0,.int .u8 0,.int .u8 0,.int .u8 0,.int .u8 0,.int .u8 0,.int .u8 0,.int .u8 0,.int .u8 0,.int .u8 0,.int .u8 0,.int .u8 0,.int .u8 0,.int .u8 0,.int .u8 0,.int .u8 0,.int .u8 0,.int .u8 0,.int .u8 0,.int .u8 0,.int .u8 0,.int .u8 0,.int .u8 0,.int .u8 0,.int .u8 0]) (entC {e with hash:=[]}):=wr_row _ _ _ _ (hashL []) rfl rfl (Nat.le_of_ble_eq_true rfl) (by kernel_rfl)
theorem fieldsL_len (k:Int):(fieldsL k).length≤3:=by
 unfold fieldsL
 repeat' split
 all_goals decide
theorem fieldsL_range (k:Int):∀f∈fieldsL k,f=0∨f=1∨f=2∨f=3:=by
 intro f hf;unfold fieldsL at hf
 repeat' split at hf
 all_goals simp at hf
 all_goals omega
theorem errOf_eq0 (b:Bool):(errOf b 130==0)=b:=by cases b<;>rfl
theorem all_succ {l:List Int} {p:Int→Bool} {k:Nat} (h:k<l.length):(l.take (k+1)).all p=((l.take k).all p&&p l[k]):=by
 rw[List.take_succ_eq_append_getElem h,List.all_append];simp
theorem foldl_succ {l:List Int} {p:Ent→Int→Ent} {e:Ent} {k:Nat} (h:k<l.length):(l.take (k+1)).foldl p e=p ((l.take k).foldl p e) l[k]:=by
 rw[List.take_succ_eq_append_getElem h,List.foldl_append];rfl
theorem cell_field (l:List Int) (k:Nat) (h:k<l.length):CellAt (l.map (Value.int .i64)).toArray k (.int .i64 l[k]):=⟨by simp[h]⟩
set_option maxHeartbeats 4000000 in
set_option maxRecDepth 100000 in
theorem check_calls (e:Ent) (hwf:e.Wf) (w:World):
  Calls Tryz.prog 99 #[.agg (entC e)] w fun r w'=>r=.returned (.int .i64 (errOf (checkB e) 2))∧Below w.heap.size w w':=by
 have HW:=Lib.hid hwf;have HC:Hid (checkB e=(((fieldsL e.kind).all (stepOk e)&& !(fieldsL e.kind).isEmpty)&&entEq ((fieldsL e.kind).foldl strip {e with kind:=0}) ent0)):=Lib.hid rfl;generalize checkB e=res at*;have hrange:=Lib.hid (fieldsL_range e.kind);clear hwf;have hst:=St.start w;go_enter Tryz.func99,Tryz.ntmps99;go_wp2_with (first|(with_reducible refine wpList_ld rfl _ _ rfl _ _ rfl (by assumption) ?_)|(with_reducible refine wpList_lda rfl _ _ rfl _ _ rfl (by assumption) ?_)|(with_reducible refine wpList_stI rfl _ _ _ rfl _ _ rfl _ _ rfl (by assumption) ?_;intro w' hst)|(with_reducible refine wpList_stA rfl _ _ _ rfl _ _ rfl _ rfl (by assumption) ?_;intro w' hst)|(with_reducible refine wpList_box rfl _ _ rfl (by assumption) _ rfl ?_;intro bb w' hst)|(with_reducible refine wpList_new rfl _ rfl (by assumption) _ zero_ent ?_;intro bn w' hst));refine(fields_calls e.kind _).mono ?_;rintro r w5 ⟨⟨v,rfl,hf⟩,hb⟩;have hl3:=fieldsL_len e.kind;generalize fieldsL e.kind=l at*;rcases hf with⟨hl,rfl⟩ |⟨hl,bF,rfl,hsz,hblk⟩
 ·have h5:=hst.below hb
  have HC2:Hid (res=false):=Lib.hid (by rw[HC.out,hl];rfl);have hnil:=eql_nilT;clear hl HC hb hst;go_wp2_with fail;go_loopw [4,16] (fun okv iv wr=>okv=.bool true∧iv=.int .i64 0∧wr=w5) (fun _ _ _=>0)
  case atStart=>exact⟨rfl,rfl,rfl⟩
  case round=>
   obtain⟨rfl,rfl,rfl⟩:=hrel;go_wp2_with fail;go_ret;exact⟨by rw[HC2.out];rfl,h5.end⟩
 ·have h5:=hst.belowNew hb hsz hblk
  clear hblk hb hsz hst;go_wp2_with fail;go_loopw [4,16] (fun okv iv wr=>∃k:Nat,k≤l.length∧iv=.int .i64 k∧okv=.bool ((l.take k).all (stepOk e))∧St [] w wr [(bF,(l.map (Value.int .i64)).toArray,195),(bn,entC ((l.take k).foldl strip {e with kind:=0}),66),(bb,entC e,66)]) (fun _ i _=>l.length-(intOf i).toNat)
  case atStart=>exact⟨0,by omega,rfl,rfl,h5⟩
  case round=>
   obtain⟨k,hk,rfl,rfl,hs⟩:=hrel;clear h5
   by_cases hlt:k<l.length
   ·have hcell:=cell_field l k hlt
    have HA:=Lib.hid (all_succ (p:=stepOk e) hlt);have HF:=Lib.hid (foldl_succ (p:=strip) (e:={e with kind:=0}) hlt);have hf4:=hrange.out l[k] (List.getElem_mem hlt);generalize (l.take k).all (stepOk e)=ok at*;generalize (l.take k).foldl strip {e with kind:=0}=left at*;generalize l[k]=f at*;rcases hf4 with rfl |rfl |rfl |rfl
    ·cases ok
     ·go_wp2_with (first|(with_reducible refine wpList_ld rfl _ _ rfl _ _ rfl (by assumption) ?_)|(with_reducible refine wpList_stI rfl _ _ _ rfl _ _ rfl _ _ rfl (by assumption) ?_;intro w' hst))
      go_round
      case rel=>exact⟨k+1,by omega,by go_num,by rw[HA.out];rfl,by rw[HF.out];exact hst⟩
      case measure=>simp[intOf];omega
     ·go_wp2_with (with_reducible refine wpList_ld rfl _ _ rfl _ _ rfl (by assumption) ?_)
      refine(within_calls _ _ _).mono ?_;rintro r w' ⟨rfl,rfl⟩;go_wp2_with (with_reducible refine wpList_stI rfl _ _ _ rfl _ _ rfl _ _ rfl (by assumption) ?_;intro w' hst);go_round
      case rel=>exact⟨k+1,by omega,by go_num,by rw[HA.out];rfl,by rw[HF.out];exact hst⟩
      case measure=>simp[intOf];omega
    ·cases ok
     ·go_wp2_with (with_reducible refine wpList_ld rfl _ _ rfl _ _ rfl (by assumption) ?_)
      have hq:=hs.quiet;refine wp_region_below_lit (by kernel_rfl) (by kernel_rfl) ?_
      repeat(first
       |(with_reducible refine wpQuiet_ld rfl _ _ rfl _ _ rfl hq ?_;simp only[Act.put,List.setIfInBounds_toArray,List.set_cons_succ,List.set_cons_zero])
       |go_big_quiet_step ((first|(go_at_call 136;refine Calls.below_of_same (most_calls _ _))|(go_at_call 135;refine Calls.below_of_same (within_calls _ _ _)))))
      refine wpQuiet_nil ?_;intro wq hwq;have hs1:=hq wq hwq;clear hq hwq hs;go_wp2_with (with_reducible refine wpList_stI rfl _ _ _ rfl _ _ rfl _ _ rfl (by assumption) ?_;intro w' hst);go_round
      case rel=>exact⟨k+1,by omega,by go_num,by rw[HA.out];rfl,by rw[HF.out];exact hst⟩
      case measure=>simp[intOf];omega
     ·go_wp2_with (with_reducible refine wpList_ld rfl _ _ rfl _ _ rfl (by assumption) ?_)
      have hq:=hs.quiet;refine wp_region_below_lit (by kernel_rfl) (by kernel_rfl) ?_
      repeat(first
       |(with_reducible refine wpQuiet_ld rfl _ _ rfl _ _ rfl hq ?_;simp only[Act.put,List.setIfInBounds_toArray,List.set_cons_succ,List.set_cons_zero])
       |go_big_quiet_step ((first|(go_at_call 136;refine Calls.below_of_same (most_calls _ _))|(go_at_call 135;refine Calls.below_of_same (within_calls _ _ _)))))
      refine wpQuiet_nil ?_;intro wq hwq;have hs1:=hq wq hwq;clear hq hwq hs;go_wp2_with (with_reducible refine wpList_stI rfl _ _ _ rfl _ _ rfl _ _ rfl (by assumption) ?_;intro w' hst);go_round
      case rel=>exact⟨k+1,by omega,by go_num,by rw[HA.out];rfl,by rw[HF.out];exact hst⟩
      case measure=>simp[intOf];omega
    ·cases ok
     ·go_wp2_with (first|(with_reducible refine wpList_ld rfl _ _ rfl _ _ rfl (by assumption) ?_)|(with_reducible refine wpList_stS rfl _ _ _ rfl _ _ rfl _ rfl (by assumption) ?_;intro w' hst))
      go_round
      case rel=>exact⟨k+1,by omega,by go_num,by rw[HA.out];rfl,by rw[HF.out];exact hst⟩
      case measure=>simp[intOf];omega
     ·have HE:=Lib.hid (errOf_eq0 (nameOk e.name))
      go_wp2_with (with_reducible refine wpList_ld rfl _ _ rfl _ _ rfl (by assumption) ?_);refine(names_check_calls _ (by have:=HW.out.name;unfold maxLen;omega) _).mono ?_;rintro r w' ⟨rfl,hb⟩;have hs1:=hs.below hb;clear hs hb;go_wp2_with (with_reducible refine wpList_stS rfl _ _ _ rfl _ _ rfl _ rfl (by assumption) ?_;intro w' hst);go_round
      case rel=>exact⟨k+1,by omega,by go_num,by rw[HA.out];show Value.bool (errOf (nameOk e.name) 130==0)=Value.bool (true&&nameOk e.name);rw[HE.out];rfl,by rw[HF.out];exact hst⟩
      case measure=>simp[intOf];omega
    ·cases ok
     ·go_wp2_with (first|(with_reducible refine wpList_ld rfl _ _ rfl _ _ rfl (by assumption) ?_)|(with_reducible refine wpList_lda rfl _ _ rfl _ _ rfl (by assumption) ?_)|(with_reducible refine wpList_stI rfl _ _ _ rfl _ _ rfl _ _ rfl (by assumption) ?_;intro w' hst)|(with_reducible refine wpList_stA rfl _ _ _ rfl _ _ rfl _ rfl (by assumption) ?_;intro w' hst)|(with_reducible refine wpList_new rfl _ rfl (by assumption) _ zero_run ?_;intro br w' hst))
      go_round
      case rel=>exact⟨k+1,by omega,by go_num,by rw[HA.out];rfl,by rw[HF.out];exact hst.drop⟩
      case measure=>simp[intOf];omega
     ·go_wp2_with (first|(with_reducible refine wpList_ld rfl _ _ rfl _ _ rfl (by assumption) ?_)|(with_reducible refine wpList_lda rfl _ _ rfl _ _ rfl (by assumption) ?_)|(with_reducible refine wpList_stA rfl _ _ _ rfl _ _ rfl _ rfl (by assumption) ?_;intro w' hst)|(with_reducible refine wpList_new rfl _ rfl (by assumption) _ zero_run ?_;intro br w' hst))
      refine(within_calls _ _ _).mono ?_;rintro r w' ⟨rfl,rfl⟩;have HS:Hid (stepOk e 3=(withinB e.len 300&&(withinB e.start 512&&(decide (0<e.count)&&withinB e.count (512-e.start))))):=Lib.hid rfl
      cases h1:withinB e.len 300
      ·have HS':Hid (stepOk e 3=false):=Lib.hid (by rw[HS.out,h1];rfl)
       clear h1 HS;go_wp2_with (first|(with_reducible refine wpList_stI rfl _ _ _ rfl _ _ rfl _ _ rfl (by assumption) ?_;intro w' hst)|(with_reducible refine wpList_stA rfl _ _ _ rfl _ _ rfl _ rfl (by assumption) ?_;intro w' hst));go_round
       case rel=>exact⟨k+1,by omega,by go_num,by rw[HA.out,HS'.out];rfl,by rw[HF.out];exact hst.drop⟩
       case measure=>simp[intOf];omega
      ·rw[h1] at HS
       clear h1;go_wp2_with (with_reducible refine wpList_ld rfl _ _ rfl _ _ rfl (by assumption) ?_);refine(within_calls _ _ _).mono ?_;rintro r w' ⟨rfl,rfl⟩
       cases h2:withinB e.start 512
       ·have HS':Hid (stepOk e 3=false):=Lib.hid (by rw[HS.out,h2];rfl)
        clear h2 HS;go_wp2_with (first|(with_reducible refine wpList_stI rfl _ _ _ rfl _ _ rfl _ _ rfl (by assumption) ?_;intro w' hst)|(with_reducible refine wpList_stA rfl _ _ _ rfl _ _ rfl _ rfl (by assumption) ?_;intro w' hst));go_round
        case rel=>exact⟨k+1,by omega,by go_num,by rw[HA.out,HS'.out];rfl,by rw[HF.out];exact hst.drop⟩
        case measure=>simp[intOf];omega
       ·have hwrap:IntKind.i64.wrap (512-e.start)=512-e.start:=by
         simp[withinB] at h2;exact IntWalk.i64_in _ (by omega)
        rw[h2] at HS;clear h2
        cases h3:decide (0<e.count)
        ·have HS':Hid (stepOk e 3=false):=Lib.hid (by rw[HS.out,h3];rfl)
         clear HS;go_wp2_with (first|(with_reducible refine wpList_ld rfl _ _ rfl _ _ rfl (by assumption) ?_)|(with_reducible refine wpList_stI rfl _ _ _ rfl _ _ rfl _ _ rfl (by assumption) ?_;intro w' hst)|(with_reducible refine wpList_stA rfl _ _ _ rfl _ _ rfl _ rfl (by assumption) ?_;intro w' hst));go_round
         case rel=>exact⟨k+1,by omega,by go_num,by rw[HA.out,HS'.out];rfl,by rw[HF.out];exact hst.drop⟩
         case measure=>simp[intOf];omega
        ·have HS':Hid (stepOk e 3=withinB e.count (512-e.start)):=Lib.hid (by rw[HS.out,h3];rfl)
         clear HS;go_wp2_with (with_reducible refine wpList_ld rfl _ _ rfl _ _ rfl (by assumption) ?_);refine(within_calls _ _ _).mono ?_;rintro r w' ⟨rfl,rfl⟩;go_wp2_with (first|(with_reducible refine wpList_stI rfl _ _ _ rfl _ _ rfl _ _ rfl (by assumption) ?_;intro w' hst)|(with_reducible refine wpList_stA rfl _ _ _ rfl _ _ rfl _ rfl (by assumption) ?_;intro w' hst));go_round
         case rel=>exact⟨k+1,by omega,by go_num,by rw[HA.out,HS'.out];rfl,by rw[HF.out];exact hst.drop⟩
         case measure=>simp[intOf];omega
   ·obtain rfl:k=l.length:=by omega
    rw[List.take_length] at hs ⊢;have HC2:Hid (res=(l.all (stepOk e)&&entEq (l.foldl strip {e with kind:=0}) ent0)):=Lib.hid (by rw[HC.out,List.isEmpty_eq_false_iff.2 hl];simp);clear HC;generalize l.foldl strip {e with kind:=0}=left at*;generalize l.all (stepOk e)=ok at*;have hnil:=eql_nilF
    cases ok
    ·go_wp2_with fail
     go_ret;exact⟨by rw[HC2.out];rfl,hs.end⟩
    ·rw[Bool.true_and] at HC2
     cases hq:entEq left ent0
     ·have HR:Hid (res=false):=Lib.hid (by rw[HC2.out,hq])
      clear HC2;go_wp2_with (first|(with_reducible refine wpList_neqE rfl _ _ _ rfl _ _ rfl rfl ?_)|(with_reducible refine wpList_lda rfl _ _ rfl _ _ rfl (by assumption) ?_));go_ret;exact⟨by rw[HR.out];rfl,hs.end⟩
     ·have HR:Hid (res=true):=Lib.hid (by rw[HC2.out,hq])
      clear HC2;go_wp2_with (first|(with_reducible refine wpList_neqE rfl _ _ _ rfl _ _ rfl rfl ?_)|(with_reducible refine wpList_lda rfl _ _ rfl _ _ rfl (by assumption) ?_));go_ret;exact⟨by rw[HR.out];rfl,hs.end⟩
end Go.Proofs.YtdkeiefgkgpcbaaGreatDoor
namespace Go.Proofs.YtdkeiefgkgpcbaaGreatDoor
open Go.RowKit
theorem toList_ls (s:ByteArray):s.toList=ls s:=ByteArray.toList_eq s
structure Fits (n m:Int) (b:Nat) (B:Int) (sa sb:ByteArray):Prop where
 neg:n<0→sa.toList=[]
 emp:0≤n→sa.toList.isEmpty= !decide (n<B)
 len:0≤n→n<B→sa.size=b
 none:0≤n→¬n<B→sa.toList=[]
 empb:¬sb.toList=[]→0≤m∧m<B
 less:0≤n→n<B→¬sb.toList=[]→Op.bytesLess sa.toList sb.toList=decide (n<m)
 same:0≤n→n<B→¬sb.toList=[]→(sa.toList==sb.toList)=(n==m)
theorem putF_list (n:Int) (b:Nat):(putF n b).toList=if fitsB n b then be b n.toNat else[]:=by
 rw[toList_ls];unfold putF;split<;>rfl
end Go.Proofs.YtdkeiefgkgpcbaaGreatDoor
namespace Go.Proofs.YtdkeiefgkgpcbaaGreatDoor
open Go.RowKit
theorem size_mkS (l:List UInt8):(mkS l).size=l.length:=rfl
end Go.Proofs.YtdkeiefgkgpcbaaGreatDoor
namespace Go.Proofs.YtdkeiefgkgpcbaaGreatDoor
open Go.RowKit
def putL (n b:Int):List UInt8:=ls (putF n b)
def textL (t:ByteArray):List UInt8:=match putTextF t with |some l=>l |none=>[]
def fieldBytes (e:Ent) (f:Int):List UInt8:=
 if f=0 then putL e.stream 1 else if f=1 then putL e.n 4 else if f=2 then textL e.name else((putL e.len 2++e.hash)++putL e.start 2)++putL e.count 2
theorem put_hash_callsL (h:List UInt8) (hl:h.length=32) (w:World):
  Calls Tryz.prog 139 #[.agg (hashL h).toArray] w fun e w'=>e=.returned (.string (mkS h))∧Below w.heap.size w w':=by
 rw[←arr_hashL h hl];exact put_hash_calls h hl w
theorem putTextV_textL (t:ByteArray):∃x,putTextV (putTextF t)=.tuple #[.string (mkS (textL t)),.int .i64 x]:=by
 unfold textL
 cases putTextF t with
 |none=>exact⟨_,rfl⟩
 |some l=>exact⟨_,rfl⟩
theorem ls_cat4 (a b c d:ByteArray):((a++b)++c)++d=mkS (((ls a++ls b)++ls c)++ls d):=by
 apply eq_mkS;rw[ls_append,ls_append,ls_append]
set_option maxHeartbeats 4000000 in
set_option maxRecDepth 100000 in
theorem fieldput_calls (f:Int) (e:Ent) (hf:f=0∨f=1∨f=2∨f=3) (hwf:e.Wf) (w:World):
  Calls Tryz.prog 102 #[.int .i64 f,.agg (entC e)] w fun r w'=>r=.returned (.string (mkS (fieldBytes e f)))∧Below w.heap.size w w':=by
 have HW:=Lib.hid hwf;clear hwf;have hst:=St.start w;rcases hf with rfl |rfl |rfl |rfl
 ·go_enter Tryz.func102,Tryz.ntmps102
  go_wp2_with (first|(with_reducible refine wpList_ld rfl _ _ rfl _ _ rfl (by assumption) ?_)|(with_reducible refine wpList_box rfl _ _ rfl (by assumption) _ rfl ?_;intro bb w' hst));refine(put_any _ _ HW.out.stream.2 _).mono ?_;rintro r w1 ⟨rfl,hb⟩;have h1:=hst.below hb;go_wp2_with fail;go_ret;exact⟨rfl,h1.end⟩
 ·go_enter Tryz.func102,Tryz.ntmps102
  go_wp2_with (first|(with_reducible refine wpList_ld rfl _ _ rfl _ _ rfl (by assumption) ?_)|(with_reducible refine wpList_box rfl _ _ rfl (by assumption) _ rfl ?_;intro bb w' hst));refine(put_any _ _ HW.out.n.2 _).mono ?_;rintro r w1 ⟨rfl,hb⟩;have h1:=hst.below hb;go_wp2_with fail;go_ret;exact⟨rfl,h1.end⟩
 ·obtain⟨x,hx⟩:=putTextV_textL e.name
  have HX:=Lib.hid hx;clear hx;go_enter Tryz.func102,Tryz.ntmps102;go_wp2_with (first|(with_reducible refine wpList_ld rfl _ _ rfl _ _ rfl (by assumption) ?_)|(with_reducible refine wpList_box rfl _ _ rfl (by assumption) _ rfl ?_;intro bb w' hst));refine(put_text_calls _ (by have:=HW.out.name;unfold maxLen;omega) _).mono ?_;rintro r w1 ⟨rfl,hb⟩;have h1:=hst.below hb;rw[HX.out];go_wp2_with fail;go_ret;exact⟨rfl,h1.end⟩
 ·have HR:=Lib.hid (ls_cat4 (putF e.len 2) (mkS e.hash) (putF e.start 2) (putF e.count 2))
  have HV:Hid (mkS (fieldBytes e 3)=mkS (((ls (putF e.len 2)++ls (mkS e.hash))++ls (putF e.start 2))++ls (putF e.count 2))):=Lib.hid rfl;have s1:=putF_size e.len 2;have s2:=putF_size e.start 2;have s3:=putF_size e.count 2;have s4:(mkS e.hash).size=32:=by rw[size_mkS,HW.out.hash]
  have c1:=put_any e.len 2 HW.out.len.2;have c2:=put_any e.start 2 HW.out.start.2;have c3:=put_any e.count 2 HW.out.count.2;have c4:=put_hash_callsL e.hash HW.out.hash;generalize putF e.len 2=S1 at*;generalize putF e.start 2=S2 at*;generalize putF e.count 2=S3 at*;generalize mkS e.hash=S4 at*;have k1:¬9223372036854775807<S1.size+S4.size:=by omega
  have k2:¬9223372036854775807<(S1++S4).size+S2.size:=by rw[ByteArray.size_append];omega
  have k3:¬9223372036854775807<((S1++S4)++S2).size+S3.size:=by rw[ByteArray.size_append,ByteArray.size_append];omega
  have C1:=Lib.hid c1;have C2:=Lib.hid c2;have C3:=Lib.hid c3;have C4:=Lib.hid c4;clear c1 c2 c3 c4;go_enter Tryz.func102,Tryz.ntmps102;go_wp2_with (with_reducible refine wpList_box rfl _ _ rfl (by assumption) _ rfl ?_;intro bb w' hst);have hq:=hst.quiet;refine wp_region_below_lit (by kernel_rfl) (by kernel_rfl) ?_
  repeat(first
   |(with_reducible refine wpQuiet_ld rfl _ _ rfl _ _ rfl hq ?_;simp only[Act.put,List.setIfInBounds_toArray,List.set_cons_succ,List.set_cons_zero])
   |(with_reducible refine wpQuiet_lda rfl _ _ rfl _ _ rfl hq ?_;simp only[Act.put,List.setIfInBounds_toArray,List.set_cons_succ,List.set_cons_zero])
   |go_big_quiet_step ((first|(go_at_call 100;first|with_reducible exact Calls.below_of (C1.out _)|with_reducible exact Calls.below_of (C2.out _)|with_reducible exact Calls.below_of (C3.out _))|(go_at_call 139;with_reducible exact Calls.below_of (C4.out _)))))
  refine wpQuiet_nil ?_;intro wq hwq;have h1:=hq wq hwq;clear hq hwq;go_wp2_with fail;go_ret;exact⟨by rw[HV.out,←HR.out];rfl,h1.end⟩
end Go.Proofs.YtdkeiefgkgpcbaaGreatDoor
namespace Go.Proofs.YtdkeiefgkgpcbaaGreatDoor
open Go.RowKit
def EntRow (w:World) (v:Value) (l:List Ent):Prop:=
 ∃a cap,v=.slice a l.length cap∧(∀e∈l,e.Wf)∧l.length≤maxLen∧
  (l≠[]→∃x,a=some x∧∀i (h:i<l.length) j (hj:j<39),w.cell? (x.add (i*39+j))=(entC l[i])[j]?)
def entBytes (e:Ent):List UInt8:=putL e.kind 1++(fieldsL e.kind).flatMap (fieldBytes e)
def encBytes (l:List Ent):List UInt8:=putL l.length 2++l.flatMap entBytes
def encF (l:List Ent):List UInt8×Int:=if l.all checkB then(if l.length≤200 then(encBytes l,0) else([],3)) else([],2)
theorem add_add2 (x:Addr) (a b:Nat):(x.add a).add b=x.add (a+b):=by
 unfold Addr.add
 by_cases h1:a=0
 ·subst h1
  by_cases h2:b=0
  ·subst h2;rfl
  ·rw[if_pos rfl,if_neg h2,if_neg (by omega),Nat.zero_add]
 ·by_cases h2:b=0
  ·subst h2
   rw[if_neg h1,if_pos rfl,if_neg (by omega)];rfl
  ·rw[if_neg h1,if_neg h2,if_neg (by omega),Nat.add_assoc]
theorem add_block (x:Addr) (a:Nat):(x.add a).block=x.block:=by unfold Addr.add;split<;>rfl
theorem run_load_ent_at (w:World) (ad:Addr) (e:Ent) (hc:∀j,j<39→w.cell? (ad.add j)=(entC e)[j]?):(loadVar 66 ad).run Tryz.prog w=.ok (.agg (entL e).toArray) w:=by
 have hl:=run_loadCells_list (P:=Tryz.prog) w ad (entL e) (fun j v hv=>by
  have hj:j<39:=(List.getElem?_eq_some_iff.1 hv).1;rw[hc j hj]
  simpa[entC] using hv)
 have ha:=AggT.agg (T:=66) (n:=39) w;have hs:=run_size (AggT.size (T:=66) (n:=39)) w;have h39:(entL e).length=39:=rfl;rw[h39] at hl;simp only[loadVar,Sem.run_bind,ha,Result.andThen_ok,if_true,hs,hl,Sem.run_pure]
section
variable {ops:Array Oper} {rest:List Oper} {o:Oper} {a:Act} {w:World} {Q:Exit→Act→World→Prop}
theorem wpList_lde (hw:Region.wanted o (yielded ops a.tmps)=true) (x:Operand) (ho:o.op=.load 66 x) (ad:Addr) (hx:a.eval x=.pointer (some ad)) (e:Ent) (hc:∀j,j<39→w.cell? (ad.add j)=(entC e)[j]?)
  (hk:wpList Tryz.prog ops Q rest (a.put o.dst (.agg (entL e).toArray)) w):wpList Tryz.prog ops Q (o::rest) a w:=
 BigFrame.wpList_want hw fun K hK=>by
  unfold Oper.wp execOp;simp only[ho,hx,Instr.loadAt,Instr.sureAddr,Sem.run_bind,Sem.run_pure,Result.andThen_ok,run_load_ent_at w ad e hc];exact hK _ _ hk
end
theorem belw {w0 w w':World} (h:Below w0.heap.size w0 w) (h':Below w.heap.size w w'):Below w0.heap.size w0 w':=h.trans (h'.mono h.size)
theorem IsB.old {B b:Nat} {bs:List Value} {w w':World} (h:IsB B b bs w) (hb:Below w.heap.size w w'):IsB B b bs w':=by
 have key:∀p,Lib.BuilderAtF 159 5 B b p bs w→Lib.BuilderAtF 159 5 B b p bs w':=by
  rintro p ⟨hB,v,hbk,⟨hl,hown⟩,hne⟩;refine⟨hB,v,(hb.block _ (lt_of_heap' hbk)).trans hbk,⟨hl,?_⟩,hne⟩;rcases hown with h1 |⟨g,cap,cur,fz,h1,h2,h3,h4⟩
  ·exact Or.inl h1
  ·exact Or.inr ⟨g,cap,cur,fz,h1,h2,(hb.block _ (lt_of_heap' h3)).trans h3,h4⟩
 rcases h with h |h
 ·exact Or.inl (key _ h)
 ·exact Or.inr (key _ h)
theorem IsB.block {B b:Nat} {bs:List Value} {w:World} (h:IsB B b bs w):∃cs,w.heap[b]? =some (.cells cs 159 (0,0)):=by
 rcases h with⟨_,v,h,_⟩ |⟨_,v,h,_⟩<;>exact⟨_,h⟩
theorem zero_builder (w:World):(zeroValue 159).run Tryz.prog w=.ok (.agg #[.pointer none,.slice none 0 0]) w:=by kernel_rfl
theorem IsB.fresh {w0 w:World} {b:Nat} (h:St [] w0 w [(b,#[.pointer none,.slice none 0 0],159)]):IsB w0.heap.size b (Lib.byteCells []) w:=
 Or.inl ⟨by rcases h.own _ (List.mem_cons_self) with h1 |h1<;>simp at h1;exact h1,.slice none 0 0,h.blk _ (List.mem_cons_self),World.ownsRowF_nil _ _ _ _,by simp[Value.ownBlock]⟩
def keys (L:List Blk):List Nat:=L.map (·.1)
theorem St.rebase {S:List Nat} {w0 w:World} {L:List Blk} (h:St S w0 w L):St (keys L) w w L:=
 ⟨rfl,rfl,rfl,Nat.le_refl _,fun _ _ _=>rfl,fun p hp=>Or.inr (List.mem_map.2 ⟨p,hp,rfl⟩),h.nodup,h.blk⟩
theorem St.beside {S:List Nat} {B b:Nat} {w0 w w':World} {L:List Blk} (h:St S w0 w L) (hk:KeptB B b w w') (hb:∃cs,w.heap[b]? =some (.cells cs 159 (0,0))) (hT:∀p∈L,p.2.2≠5∧p.2.2≠159):St (keys L) w' w' L:=
 ⟨rfl,rfl,rfl,Nat.le_refl _,fun _ _ _=>rfl,fun p hp=>Or.inr (List.mem_map.2 ⟨p,hp,rfl⟩),h.nodup,fun p hp=>by
  refine hk.2 _ _ (h.blk p hp) ?_ ?_
  ·intro e
   obtain⟨cs,hc⟩:=hb;have e':p.1=b:=Option.some.inj e;rw[←e',h.blk p hp] at hc;injection hc with hc
   injection hc with _ h2
   exact(hT p hp).2 h2
  ·intro c fz e
   injection e with _ h2
   exact(hT p hp).1 h2⟩
theorem write_calls (B b:Nat) (bs:List UInt8) (s:ByteArray) (w:World) (h:IsB B b (Lib.byteCells bs) w) (hlen:bs.length+s.size≤140737488355328) (hBw:B≤w.heap.size):
  Calls Tryz.prog 76 #[.pointer (some ⟨b,0,none⟩),.string s] w fun e w'=>e=.returned (.tuple #[.int .i64 s.size,.nilIface])∧(IsB B b (Lib.byteCells (bs++ls s)) w'∧KeptB B b w w'):=by
 have e:Lib.byteCells (bs++ls s)=Lib.byteCells bs++Lib.strCells s:=by simp[Lib.byteCells,Lib.strCells,ls]
 rw[e];exact write_string_calls B b _ s w h (by simpa[Lib.byteCells] using hlen) hBw
theorem putL_len (n b:Int):(putL n b).length≤8:=by have:=putF_size n b;unfold putL;rw[ls_length];exact this
theorem textL_len (t:ByteArray):(textL t).length≤65537:=by
 unfold textL putTextF;split
 ·rename_i l h
  split at h
  ·injection h with h
   subst h;simp[be_length,ls_length];omega
  ·cases h
 ·simp
theorem fieldBytes_len (e:Ent) (he:e.hash.length=32) (f:Int):(fieldBytes e f).length≤65537:=by
 have h1:=putL_len e.stream 1;have h2:=putL_len e.n 4;have h3:=textL_len e.name;have h4:=putL_len e.len 2;have h5:=putL_len e.start 2;have h6:=putL_len e.count 2;unfold fieldBytes;split
 ·omega
 ·split
  ·omega
  ·split
   ·omega
   ·simp;omega
theorem flat_len {l:List Int} {e:Ent} (he:e.hash.length=32):(l.flatMap (fieldBytes e)).length≤l.length*65537:=by
 induction l with
 |nil=>simp
 |cons f l ih=>
  have:=fieldBytes_len e he f;rw[List.flatMap_cons,List.length_append,List.length_cons];omega
theorem entBytes_len (e:Ent) (he:e.hash.length=32):(entBytes e).length≤196619:=by
 have h1:=putL_len e.kind 1;have h2:=flat_len (l:=fieldsL e.kind) he;have h3:=fieldsL_len e.kind;unfold entBytes;rw[List.length_append];omega
theorem ents_len {l:List Ent} (he:∀e∈l,e.hash.length=32):(l.flatMap entBytes).length≤l.length*196619:=by
 induction l with
 |nil=>simp
 |cons e l ih=>
  have h1:=entBytes_len e (he e (by simp));have h2:=ih (fun x hx=>he x (by simp[hx]));rw[List.flatMap_cons,List.length_append,List.length_cons];omega
end Go.Proofs.YtdkeiefgkgpcbaaGreatDoor
