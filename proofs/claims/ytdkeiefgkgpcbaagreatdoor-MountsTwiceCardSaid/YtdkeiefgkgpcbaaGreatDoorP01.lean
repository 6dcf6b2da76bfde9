/- Steps of the proof: Size, Put, Get, Text, Region, Arr, Hash, EqHash. -/
import Derived.Test.YtdkeiefgkgpcbaaGreatDoorProg
import Derived.WalkKit
import Derived.KernelRfl
import Derived.RowKit3
import Derived.Below
import Derived.Lib.Hide
import Derived.Outline
import Derived.Deep.QuietTactic
import Derived.BigQuiet
import Derived.Laws.MakeOwn
import Derived.Laws.NewBlocks
import Derived.Laws.BitsLemmas
import Derived.Laws.IdiomStrings
import Derived.Deep.RegionWith
import Derived.Laws.Bits64b
import Derived.Laws.DeepStrings4
import Derived.Laws.Strings3
import Derived.RegionTactic
import Derived.Laws.Rows
import Derived.Laws.Tables
import Derived.Laws.CopyOwn
import Derived.StillTailTactics
import Derived.ChangeKeysEq
import Derived.Laws.StructEq
set_option maxRecDepth 100000
set_option linter.unusedVariables false
set_option linter.unusedSimpArgs false
namespace Go.Proofs.YtdkeiefgkgpcbaaGreatDoor
open Go.RowKit
def sizeB (n:Int):Bool:=n==1||n==2||n==4||n==8
def sizeAt (k:Nat):Int:=if k=0 then 1 else if k=1 then 2 else if k=2 then 4 else 8
def noneTo (n:Int) (k:Nat):Prop:=∀j,j<k→sizeAt j≠n
theorem sizeB_false {n:Int} (h:noneTo n 4):sizeB n=false:=by
 have h0:=h 0 (by omega);have h1:=h 1 (by omega);have h2:=h 2 (by omega);have h3:=h 3 (by omega);simp[sizeAt] at h0 h1 h2 h3;simp[sizeB];omega
theorem sizeB_true {n:Int} {k:Nat} (h:sizeAt k=n):sizeB n=true:=by
 subst h;unfold sizeAt;split<;>(try split)<;>(try split)<;>rfl
theorem noneTo_zero (n:Int):noneTo n 0:=fun j h=>by omega
theorem noneTo_succ {n:Int} {k:Nat} (h:noneTo n k) (h':sizeAt k≠n):noneTo n (k+1):=fun j hj=>by
 rcases Nat.lt_succ_iff_lt_or_eq.mp hj with h1 |rfl
 ·exact h j h1
 ·exact h'
theorem size_index (k:Nat) (hk:k<4) (w:World):(Instr.index 276 (.agg #[.int .i64 1,.int .i64 2,.int .i64 4,.int .i64 8]) (.int .i64 k)).run Tryz.prog w=.ok (.int .i64 (sizeAt k)) w:=by
 rcases(by omega:k=0∨k=1∨k=2∨k=3) with rfl |rfl |rfl |rfl<;>kernel_rfl
set_option maxHeartbeats 400000 in
theorem size_calls (n:Int) (w:World):
  Calls Tryz.prog 137 #[.int .i64 n] w fun e w'=>e=.returned (.bool (sizeB n))∧w=w':=by
 go_enter Tryz.func137,Tryz.ntmps137;go_wp2;go_loop [6] (fun i=>∃k:Nat,k≤4∧i=.int .i64 k∧noneTo n k) (fun i=>4-(intOf i).toNat)
 case atStart=>exact⟨0,by omega,rfl,noneTo_zero n⟩
 case round=>
  obtain⟨k,hk,rfl,hno⟩:=hrel
  by_cases hlt:k<4
  ·have hi:=size_index k hlt w
   go_wp2
   ·go_ret
    rename_i h _;exact⟨by rw[sizeB_true (k:=k) (by simpa using h)];rfl,rfl⟩
   ·go_round
    case rel=>exact⟨k+1,by omega,by go_num,noneTo_succ hno (by simpa using(show(sizeAt k==n)=false by assumption))⟩
    case measure=>simp[intOf];omega
  ·obtain rfl:k=4:=by omega
   go_wp2;go_ret;exact⟨by rw[sizeB_false hno];rfl,rfl⟩
end Go.Proofs.YtdkeiefgkgpcbaaGreatDoor
namespace Go.Proofs.YtdkeiefgkgpcbaaGreatDoor
open Go.RowKit
def be:Nat→Nat→List UInt8
 |0,_=>[]
 |i+1,n=>UInt8.ofNat (n / 256 ^ i)::be i n
def u8s (l:List UInt8):List Value:=l.map fun c=>.int .u8 c.toNat
def putCells (b k n:Nat):Array Value:=(u8s (List.replicate (b-k) 0++be k n)).toArray
theorem T29:Tryz.prog.underlying 47=some (.slice 5):=by kernel_rfl
theorem I5:(Tryz.prog.info? 5).map (fun i=>(i.zero,i.size,i.bytes))=some (some (.int .u8 0),1,1):=by kernel_rfl
theorem be_length (k n:Nat):(be k n).length=k:=by induction k with |zero=>rfl |succ k ih=>simp[be,ih]
theorem make_u8 (w:World) (b:Nat) (hb:b≤8) (n:Nat):(Instr.makeSlice 47 (.int .i64 b) (.int .i64 b)).run Tryz.prog w=.ok (.slice (some ⟨w.heap.size,0,none⟩) b b) (w.alloc (.cells (putCells b 0 n) 5)):=by
 obtain⟨i0,hi,hz0,hz1,hz2⟩:=info_parts I5;have h:=run_make (P:=Tryz.prog) w 47 5 i0 (.int .u8 0) T29 hi hz0 .i64 .i64 b b (by omega) (by omega) (by rw[hz2];omega) (by omega);rw[h,hz1]
 have e:madeCells (Value.int .u8 0).cells ((b:Int).toNat*1)=putCells b 0 n:=by
  apply Array.ext
  ·simp[madeCells,putCells,u8s,be]
  ·intro i h1 h2
   simp[madeCells,putCells,u8s,be,Value.cells,Nat.mod_one]
 rw[e];simp
theorem put_byte' (n i:Nat):((UInt8.ofNat (n / 256 ^ i)).toNat:Int)=(n:Int) / 2 ^ (8*i)%256:=by
 have h:(2:Int) ^ (8*i)=((256 ^ i:Nat):Int):=by rw[Int.pow_mul];simp
 rw[h,←Int.natCast_ediv];simp
theorem put_cell (b k n:Nat) (hk:k<b):(putCells b k n)[b-1-k]? =some (.int .u8 0):=by
 obtain⟨m,rfl⟩:∃m,b=k+1+m:=⟨b-(k+1),by omega⟩;have e1:k+1+m-k=m+1:=by omega
 have e2:k+1+m-1-k=m:=by omega
 simp only[putCells,e1,e2];simp[u8s,List.getElem?_append]
theorem T9:Tryz.prog.underlying 9=some .string:=by kernel_rfl
theorem U5:Tryz.prog.underlying 5=some (.int .u8):=by kernel_rfl
theorem put_back (w:World) (b n:Nat):(convert 47 9 (.slice (some ⟨w.heap.size,0,none⟩) b b)).run Tryz.prog (w.alloc (.cells (putCells b b n) 5))=.ok (.string ⟨(be b n).toArray⟩) (w.alloc (.cells (putCells b b n) 5)):=by
 have h:=run_convert_bytes_back (P:=Tryz.prog) (w.alloc (.cells (putCells b b n) 5)) 47 9 5 ⟨w.heap.size,0,none⟩ b (be b n) T29 U5 T9 (fun j hj=>by
  have ha:(⟨w.heap.size,0,none⟩:Addr).add j=⟨w.heap.size,j,none⟩:=by unfold Addr.add;split<;>simp_all
  rw[ha,World.cell?_alloc_at _ _ _ _ rfl]
  simp[putCells,u8s,hj])
 rw[be_length] at h;exact h
theorem put_step (b k n:Nat) (hk:k<b):(putCells b k n).setIfInBounds (b-1-k) (.int .u8 ((UInt8.ofNat (n / 256 ^ k)).toNat:Int))=putCells b (k+1) n:=by
 obtain⟨m,rfl⟩:∃m,b=k+1+m:=⟨b-(k+1),by omega⟩;have e1:k+1+m-k=m+1:=by omega
 have e2:k+1+m-1-k=m:=by omega
 have e3:k+1+m-(k+1)=m:=by omega
 simp only[putCells,e1,e2,e3,be];simp[u8s,List.replicate_succ',List.setIfInBounds_toArray]
set_option maxHeartbeats 400000 in
theorem put_calls (n:Nat) (b:Nat) (hb:sizeB b=true) (hn:b<8→n<256 ^ b) (_h63:n≤9223372036854775807) (w:World):
  Calls Tryz.prog 100 #[.int .i64 n,.int .i64 b] w fun e w'=>e=.returned (.string ⟨(be b n).toArray⟩)∧Below w.heap.size w w':=by
 have hb8:b≤8:=by simp[sizeB] at hb;omega
 have hmk:=make_u8 w b hb8 n;have hneg:decide ((n:Int)<0)=false:=by simp
 have hsh:b<8→decide (0<(n:Int) / 2 ^ (8*b))=false:=by
  intro h;have h':(2:Int) ^ (8*b)=((256 ^ b:Nat):Int):=by rw[Int.pow_mul];simp
  rw[h',←Int.natCast_ediv,Nat.div_eq_of_lt (hn h)];rfl
 have hcases:(decide ((b:Int)<8)=true∧decide (0<(n:Int) / 2 ^ (8*b))=false)∨decide ((b:Int)<8)=false:=by
  by_cases h:b<8
  ·exact Or.inl ⟨by simp;omega,hsh h⟩
  ·exact Or.inr (by simp;omega)
 clear hsh hn;have HB:=Lib.hid hb;clear hb;rcases hcases with⟨hc1,hc2⟩ |hc1
 all_goals
  go_enter Tryz.func100,Tryz.ntmps100;go_wp2_with fail;refine(size_calls b _).mono ?_;rintro e w' ⟨rfl,rfl⟩;rw[HB.out];go_wp2_with fail;clear hmk;go_loopw [28] (fun i wr=>∃k:Nat,k≤b∧i=.int .i64 k∧wr=w.alloc (.cells (putCells b k n) 5)) (fun i _=>b-(intOf i).toNat)
  case atStart=>exact⟨0,by omega,rfl,rfl⟩
  case round=>
   obtain⟨k,hk,rfl,rfl⟩:=hrel
   by_cases hlt:k<b
   ·have hcell:=put_cell b k n hlt
    go_wp2;go_round
    case rel=>exact⟨k+1,by omega,by go_num,by rw[←put_step b k n hlt,put_byte']⟩
    case measure=>simp[intOf];omega
   ·obtain rfl:k=b:=by omega
    have hback:=put_back w k n;go_wp2;go_ret;exact⟨rfl,(Below.refl _ _).alloc (Nat.le_refl _) _⟩
def fitsB (n b:Int):Bool:=sizeB b&&(decide (0≤n)&&(decide (8≤b)||decide (n.toNat<256 ^ b.toNat)))
def putF (n b:Int):ByteArray:=if fitsB n b then⟨(be b.toNat n.toNat).toArray⟩ else⟨#[]⟩
theorem sizeB_range {b:Int} (h:sizeB b=true):1≤b∧b≤8:=by simp[sizeB] at h;omega
set_option maxHeartbeats 400000 in
theorem put_no_size (n b:Int) (hb:sizeB b=false) (w:World):
  Calls Tryz.prog 100 #[.int .i64 n,.int .i64 b] w fun e w'=>e=.returned (.string ⟨#[]⟩)∧Below w.heap.size w w':=by
 have HB:=Lib.hid hb;clear hb;go_enter Tryz.func100,Tryz.ntmps100;go_wp2_with fail;refine(size_calls b _).mono ?_;rintro e w' ⟨rfl,rfl⟩;rw[HB.out];go_wp2_with fail;go_ret;exact⟨rfl,Below.refl _ _⟩
set_option maxHeartbeats 400000 in
theorem put_neg (n b:Int) (hb:sizeB b=true) (hn:n<0) (w:World):
  Calls Tryz.prog 100 #[.int .i64 n,.int .i64 b] w fun e w'=>e=.returned (.string ⟨#[]⟩)∧Below w.heap.size w w':=by
 have HB:=Lib.hid hb;clear hb;go_enter Tryz.func100,Tryz.ntmps100;go_wp2_with fail;refine(size_calls b _).mono ?_;rintro e w' ⟨rfl,rfl⟩;rw[HB.out];go_wp2_with fail;go_ret;exact⟨rfl,Below.refl _ _⟩
set_option maxHeartbeats 400000 in
theorem put_big (n b:Nat) (hb:sizeB b=true) (hb8:b<8) (hn:256 ^ b≤n) (w:World):
  Calls Tryz.prog 100 #[.int .i64 n,.int .i64 b] w fun e w'=>e=.returned (.string ⟨#[]⟩)∧Below w.heap.size w w':=by
 have HB:=Lib.hid hb;clear hb;have hneg:decide ((n:Int)<0)=false:=by simp
 have hsh:decide (0<(n:Int) / 2 ^ (8*b))=true:=by
  have h':(2:Int) ^ (8*b)=((256 ^ b:Nat):Int):=by rw[Int.pow_mul];simp
  rw[h',←Int.natCast_ediv];have:=Nat.div_pos hn (Nat.pow_pos (by omega));simp only[decide_eq_true_eq];omega
 clear hn;go_enter Tryz.func100,Tryz.ntmps100;go_wp2_with fail;refine(size_calls b _).mono ?_;rintro e w' ⟨rfl,rfl⟩;rw[HB.out];go_wp2_with fail;go_ret;exact⟨rfl,Below.refl _ _⟩
theorem put_any (n b:Int) (hn:n≤9223372036854775807) (w:World):
  Calls Tryz.prog 100 #[.int .i64 n,.int .i64 b] w fun e w'=>e=.returned (.string (putF n b))∧Below w.heap.size w w':=by
 unfold putF fitsB
 cases hb:sizeB b with
 |false=>simpa using put_no_size n b hb w
 |true=>
  obtain⟨h1,h2⟩:=sizeB_range hb;obtain⟨b,rfl⟩:=Int.eq_ofNat_of_zero_le (show 0≤b by omega)
  by_cases h0:n<0
  ·have e:decide (0≤n)=false:=by simp;omega
   rw[e];simpa using put_neg n b hb h0 w
  ·obtain⟨n,rfl⟩:=Int.eq_ofNat_of_zero_le (show 0≤n by omega)
   by_cases h8:b<8
   ·by_cases hl:n<256 ^ b
    ·have:=put_calls n b hb (fun _=>hl) (by omega) w
     simpa[hl] using this
    ·have:=put_big n b hb h8 (by omega) w
     have e:decide ((8:Int)≤b)=false:=by simp;omega
     simpa[hl,e] using this
   ·have:=put_calls n b hb (fun h=>absurd h h8) (by omega) w
    have e:decide ((8:Int)≤b)=true:=by simp;omega
    simpa[e] using this
end Go.Proofs.YtdkeiefgkgpcbaaGreatDoor
namespace Go.Proofs.YtdkeiefgkgpcbaaGreatDoor
open Go.RowKit
def ls (s:ByteArray):List UInt8:=s.data.toList
theorem ls_length (s:ByteArray):(ls s).length=s.size:=rfl
def mkS (l:List UInt8):ByteArray:=⟨l.toArray⟩
theorem ls_mkS (l:List UInt8):ls (mkS l)=l:=rfl
def thereB (s:ByteArray) (at_ n:Int):Bool:=decide (0≤at_)&&(decide (at_≤(s.size:Int))&&decide (n≤(s.size:Int)-at_))
set_option maxHeartbeats 400000 in
theorem there_calls (s:ByteArray) (at_ n:Int) (hs:s.size≤maxLen) (w:World):
  Calls Tryz.prog 178 #[.string s,.int .i64 at_,.int .i64 n] w fun e w'=>e=.returned (.bool (thereB s at_ n))∧w=w':=by
 unfold maxLen at hs;unfold thereB
 by_cases h0:0≤at_
 ·by_cases h1:at_≤(s.size:Int)
  ·have h0':decide (0≤at_)=true:=by simpa using h0
   have h1':decide (at_≤(s.size:Int))=true:=by simpa using h1
   go_enter Tryz.func178,Tryz.ntmps178;go_wp2;go_ret;exact⟨by simp[h0',h1'],rfl⟩
  ·have h0':decide (0≤at_)=true:=by simpa using h0
   have h1':decide (at_≤(s.size:Int))=false:=by simpa using h1
   go_enter Tryz.func178,Tryz.ntmps178;go_wp2;go_ret;exact⟨by simp[h0',h1'],rfl⟩
 ·have h0':decide (0≤at_)=false:=by simpa using h0
  go_enter Tryz.func178,Tryz.ntmps178;go_wp2;go_ret;exact⟨by simp[h0'],rfl⟩
def bv (l:List UInt8):Nat:=l.foldl (fun a c=>a*256+c.toNat) 0
theorem bv_snoc (l:List UInt8) (c:UInt8):bv (l++[c])=bv l*256+c.toNat:=by simp[bv]
theorem bv_from (l:List UInt8):∀a:Nat,l.foldl (fun a c=>a*256+c.toNat) a=a*256 ^ l.length+bv l:=by
 induction l with
 |nil=>intro a;simp[bv]
 |cons c l ih=>
  intro a;have h1:=ih (a*256+c.toNat);have h2:=ih (0*256+c.toNat);simp only[List.foldl_cons,bv,List.length_cons];rw[h1,h2,Nat.pow_succ,Nat.add_mul];simp only[Nat.zero_mul,Nat.zero_add,Nat.mul_assoc,Nat.mul_comm 256,Nat.add_assoc]
theorem bv_cons (c:UInt8) (l:List UInt8):bv (c::l)=c.toNat*256 ^ l.length+bv l:=by
 have:=bv_from l c.toNat;simpa[bv] using this
theorem bv_lt (l:List UInt8):bv l<256 ^ l.length:=by
 induction l with
 |nil=>simp[bv]
 |cons c l ih=>
  rw[bv_cons,List.length_cons,Nat.pow_succ];have:=c.toNat_lt;have h:c.toNat*256 ^ l.length≤255*256 ^ l.length:=Nat.mul_le_mul_right _ (by omega);omega
def sub (s:ByteArray) (at_ n:Int):List UInt8:=((ls s).drop at_.toNat).take n.toNat
theorem sub_succ (s:ByteArray) (a k:Nat) (h:a+k<s.size):sub s a ((k+1:Nat):Int)=sub s a k++[s[a+k]]:=by
 unfold sub;simp only[Int.toNat_natCast];rw[List.take_succ_eq_append_getElem (by simp[ls_length];omega)];simp[ls];rfl
theorem sub_length (s:ByteArray) (a k:Nat) (h:a+k≤s.size):(sub s a k).length=k:=by
 simp[sub,ls_length];omega
theorem or_step (x c:Nat) (hx:x<72057594037927936) (hc:c<256):bits .or .u64 (IntKind.u64.wrap ((x:Int)*256)) (IntKind.u64.wrap (c:Int))=((x*256+c:Nat):Int):=by
 have e1:IntKind.u64.wrap ((x:Int)*256)=((x*256:Nat):Int):=by
  simp only[IntKind.wrap,IntKind.signed,IntKind.bits];simp;omega
 have e2:IntKind.u64.wrap (c:Int)=((c:Nat):Int):=by
  simp only[IntKind.wrap,IntKind.signed,IntKind.bits];simp;omega
 rw[e1,e2,bits_or_u64_nat _ _ (by omega) (by omega)];congr 1;have:=Nat.shiftLeft_add_eq_or_of_lt (i:=8) (b:=c) (by simpa using hc) x;rw[Nat.shiftLeft_eq] at this;exact this.symm
theorem get_round (s:ByteArray) (a k b:Nat) (hk:k<b) (hb:b≤8) (h:a+k<s.size):
  bits .or .u64 (IntKind.u64.wrap ((bv (sub s a k):Int)*256)) (IntKind.u64.wrap (s[a+k].toNat:Int))=(bv (sub s a ((k+1:Nat):Int)):Int):=by
 have hl:=sub_length s a k (by omega);have hv:=bv_lt (sub s a k);have:256 ^ (sub s a k).length≤256 ^ 7:=Nat.pow_le_pow_right (by omega) (by omega);rw[or_step _ _ (by omega) s[a+k].toNat_lt,sub_succ s a k h,bv_snoc]
theorem sizeB_le8 {b:Nat} (h:sizeB b=true):b≤8:=by have:=sizeB_range h;omega
theorem wrap64_nat {x:Nat} (h:x<9223372036854775808):wrap64 (x:Int)=x:=by unfold wrap64;omega
theorem top_no {x:Nat} (h:x<9223372036854775808):decide (0<(x:Int) / 9223372036854775808)=false:=by simp;omega
theorem top_yes {x:Nat} (h:9223372036854775808≤x):decide (0<(x:Int) / 9223372036854775808)=true:=by simp;omega
set_option maxHeartbeats 400000 in
theorem get_yes (s:ByteArray) (a b:Nat) (hs:s.size≤maxLen) (hb:sizeB b=true) (ht:a+b≤s.size) (hv:bv (sub s a b)<9223372036854775808) (w:World):
  Calls Tryz.prog 150 #[.string s,.int .i64 a,.int .i64 b] w fun e w'=>e=.returned (.tuple #[.int .i64 (bv (sub s a b)),.int .i64 (a+b),.bool true])∧w=w':=by
 have hth:thereB s a b=true:=by simp[thereB];omega
 have hs':=hs;unfold maxLen at hs;have HB:=Lib.hid hb;have HT:=Lib.hid hth;have HV:=Lib.hid hv;clear hb hth hv;go_enter Tryz.func150,Tryz.ntmps150;go_wp2_with fail;refine(size_calls b _).mono ?_;rintro e w' ⟨rfl,rfl⟩;rw[HB.out];go_wp2_with fail;refine(there_calls s a b hs' _).mono ?_;rintro e w' ⟨rfl,rfl⟩;rw[HT.out];go_wp2_with fail;go_loop [9,22] (fun u i=>∃k:Nat,k≤b∧i=.int .i64 k∧u=.int .u64 (bv (sub s a k))) (fun _ i=>b-(intOf i).toNat)
 case atStart=>exact⟨0,by omega,rfl,rfl⟩
 case round=>
  obtain⟨k,hk,rfl,rfl⟩:=hrel
  by_cases hlt:k<b
  ·have hx:a+k<s.size:=by omega
   go_wp2;go_round
   case rel=>exact⟨k+1,by omega,by go_num,by rw[get_round s a k b hlt (sizeB_le8 HB.out) hx]⟩
   case measure=>simp[intOf];omega
  ·obtain rfl:k=b:=by omega
   have hno:decide (0<(bv (sub s a k):Int) / 9223372036854775808)=false:=top_no HV.out;go_wp2;go_ret3;refine⟨?_,rfl⟩;show Ending.returned (.tuple #[.int .i64 (wrap64 (bv (sub s a k):Int)),.int .i64 (a+k),.bool true])=_;rw[wrap64_nat HV.out]
set_option maxHeartbeats 400000 in
theorem get_top (s:ByteArray) (a b:Nat) (hs:s.size≤maxLen) (hb:sizeB b=true) (ht:a+b≤s.size) (hv:9223372036854775808≤bv (sub s a b)) (w:World):
  Calls Tryz.prog 150 #[.string s,.int .i64 a,.int .i64 b] w fun e w'=>e=.returned (.tuple #[.int .i64 0,.int .i64 0,.bool false])∧w=w':=by
 have hth:thereB s a b=true:=by simp[thereB];omega
 have hs':=hs;unfold maxLen at hs;have HB:=Lib.hid hb;have HT:=Lib.hid hth;have HV:=Lib.hid hv;clear hb hth hv;go_enter Tryz.func150,Tryz.ntmps150;go_wp2_with fail;refine(size_calls b _).mono ?_;rintro e w' ⟨rfl,rfl⟩;rw[HB.out];go_wp2_with fail;refine(there_calls s a b hs' _).mono ?_;rintro e w' ⟨rfl,rfl⟩;rw[HT.out];go_wp2_with fail;go_loop [9,22] (fun u i=>∃k:Nat,k≤b∧i=.int .i64 k∧u=.int .u64 (bv (sub s a k))) (fun _ i=>b-(intOf i).toNat)
 case atStart=>exact⟨0,by omega,rfl,rfl⟩
 case round=>
  obtain⟨k,hk,rfl,rfl⟩:=hrel
  by_cases hlt:k<b
  ·have hx:a+k<s.size:=by omega
   go_wp2;go_round
   case rel=>exact⟨k+1,by omega,by go_num,by rw[get_round s a k b hlt (sizeB_le8 HB.out) hx]⟩
   case measure=>simp[intOf];omega
  ·obtain rfl:k=b:=by omega
   have hno:decide (0<(bv (sub s a k):Int) / 9223372036854775808)=true:=top_yes HV.out;go_wp2;go_ret3;exact⟨rfl,rfl⟩
set_option maxHeartbeats 400000 in
theorem get_no_size (s:ByteArray) (a b:Int) (hb:sizeB b=false) (w:World):
  Calls Tryz.prog 150 #[.string s,.int .i64 a,.int .i64 b] w fun e w'=>e=.returned (.tuple #[.int .i64 0,.int .i64 0,.bool false])∧w=w':=by
 have HB:=Lib.hid hb;clear hb;go_enter Tryz.func150,Tryz.ntmps150;go_wp2_with fail;refine(size_calls b _).mono ?_;rintro e w' ⟨rfl,rfl⟩;rw[HB.out];go_wp2;go_ret3;exact⟨rfl,rfl⟩
set_option maxHeartbeats 400000 in
theorem get_not_there (s:ByteArray) (a b:Int) (hs:s.size≤maxLen) (hb:sizeB b=true) (hth:thereB s a b=false) (w:World):
  Calls Tryz.prog 150 #[.string s,.int .i64 a,.int .i64 b] w fun e w'=>e=.returned (.tuple #[.int .i64 0,.int .i64 0,.bool false])∧w=w':=by
 have HB:=Lib.hid hb;have HT:=Lib.hid hth;clear hb hth;go_enter Tryz.func150,Tryz.ntmps150;go_wp2_with fail;refine(size_calls b _).mono ?_;rintro e w' ⟨rfl,rfl⟩;rw[HB.out];go_wp2_with fail;refine(there_calls s a b hs _).mono ?_;rintro e w' ⟨rfl,rfl⟩;rw[HT.out];go_wp2;go_ret3;exact⟨rfl,rfl⟩
def getF (s:ByteArray) (a b:Int):Option (Nat×Int):=
 if sizeB b&&thereB s a b then(if bv (sub s a b)<9223372036854775808 then some (bv (sub s a b),a+b) else none) else none
def getV:Option (Nat×Int)→Value
 |some (n,next)=>.tuple #[.int .i64 n,.int .i64 next,.bool true]
 |none=>.tuple #[.int .i64 0,.int .i64 0,.bool false]
theorem get_any (s:ByteArray) (a b:Int) (hs:s.size≤maxLen) (w:World):
  Calls Tryz.prog 150 #[.string s,.int .i64 a,.int .i64 b] w fun e w'=>e=.returned (getV (getF s a b))∧w=w':=by
 unfold getF
 cases hb:sizeB b with
 |false=>simpa[getV] using get_no_size s a b hb w
 |true=>
  cases ht:thereB s a b with
  |false=>simpa[getV] using get_not_there s a b hs hb ht w
  |true=>
   obtain⟨h1,h2⟩:=sizeB_range hb;obtain⟨b,rfl⟩:=Int.eq_ofNat_of_zero_le (show 0≤b by omega);have hth:=ht;simp[thereB] at ht;obtain⟨a,rfl⟩:=Int.eq_ofNat_of_zero_le ht.1
   by_cases hv:bv (sub s a b)<9223372036854775808
   ·simpa[hv,getV] using get_yes s a b hs hb (by omega) hv w
   ·simpa[hv,getV] using get_top s a b hs hb (by omega) (by omega) w
end Go.Proofs.YtdkeiefgkgpcbaaGreatDoor
namespace Go.Proofs.YtdkeiefgkgpcbaaGreatDoor
open Go.RowKit
def putTextF (t:ByteArray):Option (List UInt8):=if t.size≤65535 then some (be 2 t.size++ls t) else none
def putTextV:Option (List UInt8)→Value
 |some l=>.tuple #[.string (mkS l),.int .i64 0]
 |none=>.tuple #[.string (mkS []),.int .i64 3]
theorem putF_size (n b:Int):(putF n b).size≤8:=by
 unfold putF;split
 ·rename_i h
  simp only[fitsB,Bool.and_eq_true] at h;have:=sizeB_range h.1;simp[ByteArray.size,be_length];omega
 ·simp[ByteArray.size]
theorem ls_append (a b:ByteArray):ls (a++b)=ls a++ls b:=by simp[ls]
theorem eq_mkS {a:ByteArray} {l:List UInt8} (h:ls a=l):a=mkS l:=by subst h;rfl
theorem putF_of {n b:Nat} (h:fitsB n b=true):putF n b=mkS (be b n):=by simp[putF,h,mkS]
theorem put_text_eq (t:ByteArray) (h:t.size≤65535):putF (t.size:Int) 2++t=mkS (be 2 t.size++ls t):=by
 apply eq_mkS;rw[ls_append];congr 1;rw[show(2:Int)=((2:Nat):Int) from rfl,putF_of (by simp[fitsB,sizeB];omega),ls_mkS]
set_option maxHeartbeats 400000 in
theorem put_text_calls (t:ByteArray) (ht:t.size≤maxLen) (w:World):
  Calls Tryz.prog 138 #[.string t] w fun e w'=>e=.returned (putTextV (putTextF t))∧Below w.heap.size w w':=by
 unfold maxLen at ht;unfold putTextF
 by_cases h:t.size≤65535
 ·have h':decide ((65535:Int)<(t.size:Int))=false:=by simp;omega
  have hle:=putF_size (t.size:Int) 2;have hcat:¬9223372036854775807<(putF (t.size:Int) 2).size+t.size:=by omega
  rw[if_pos h];go_enter Tryz.func138,Tryz.ntmps138;go_wp2_with fail;refine(put_any _ _ (by omega) _).mono ?_;rintro e w' ⟨rfl,hb⟩;go_wp2_with fail;go_ret2;exact⟨by rw[put_text_eq t h];rfl,hb⟩
 ·have h':decide ((65535:Int)<(t.size:Int))=true:=by simp;omega
  rw[if_neg h];go_enter Tryz.func138,Tryz.ntmps138;go_wp2;go_ret2;exact⟨rfl,Below.refl _ _⟩
def getTextF (s:ByteArray) (a:Int):Option (List UInt8×Int):=
 match getF s a 2 with
 |some (n,next)=>if next+n≤s.size then some (sub s next n,next+n) else none
 |none=>none
def getTextV:Option (List UInt8×Int)→Value
 |some (l,next)=>.tuple #[.string (mkS l),.int .i64 next,.bool true]
 |none=>.tuple #[.string (mkS []),.int .i64 0,.bool false]
theorem getF_le {s:ByteArray} {a b:Int} {n:Nat} {next:Int} (h:getF s a b=some (n,next)):0≤a∧next=a+b∧next≤s.size∧sizeB b=true∧n=bv (sub s a b)∧n<256 ^ b.toNat∧n<9223372036854775808:=by
 unfold getF at h;split at h
 ·rename_i h1
  split at h
  ·simp at h
   obtain⟨rfl,rfl⟩:=h;simp[thereB] at h1;obtain⟨h2,h3,h4,h5⟩:=h1;obtain⟨h6,h7⟩:=sizeB_range h2;obtain⟨b,rfl⟩:=Int.eq_ofNat_of_zero_le (show 0≤b by omega);obtain⟨a,rfl⟩:=Int.eq_ofNat_of_zero_le h3;have hl:=bv_lt (sub s a b);rw[sub_length s a b (by omega)] at hl;exact⟨by omega,rfl,by omega,h2,rfl,by simpa using hl,by assumption⟩
  ·simp at h
 ·simp at h
theorem text_extract (s:ByteArray) (a n:Nat):s.extract a (a+n)=mkS (sub s a n):=by
 apply eq_mkS;simp[ls,sub,ByteArray.data_extract]
set_option maxHeartbeats 400000 in
theorem get_text_calls (s:ByteArray) (a:Int) (hs:s.size≤maxLen) (w:World):
  Calls Tryz.prog 151 #[.string s,.int .i64 a] w fun e w'=>e=.returned (getTextV (getTextF s a))∧w=w':=by
 have hs':=hs;unfold maxLen at hs;unfold getTextF
 cases hg:getF s a 2 with
 |none=>
  have HG:=Lib.hid hg;clear hg;go_enter Tryz.func151,Tryz.ntmps151;go_wp2_with fail;refine(get_any _ _ _ hs' _).mono ?_;rintro e w' ⟨rfl,rfl⟩;rw[HG.out];unfold getV;go_wp2;go_ret3;exact⟨rfl,rfl⟩
 |some p=>
  obtain⟨n,next⟩:=p;obtain⟨h0,h1,h2,hx1,hx2,hn,hx3⟩:=getF_le hg;have hn':n<65536:=by simpa using hn
  obtain⟨next,rfl⟩:=Int.eq_ofNat_of_zero_le (show 0≤next by omega);have HG:=Lib.hid hg;clear hg hn h1 hx1 hx2 hx3
  by_cases hle:(next:Int)+n≤s.size
  ·have hth:thereB s next n=true:=by simp[thereB];omega
   have HT:=Lib.hid hth;clear hth;simp only[hle,if_true];go_enter Tryz.func151,Tryz.ntmps151;go_wp2_with fail;refine(get_any _ _ _ hs' _).mono ?_;rintro e w' ⟨rfl,rfl⟩;rw[HG.out];simp only[getV];go_wp2_with fail;refine(there_calls s next n hs' _).mono ?_;rintro e w' ⟨rfl,rfl⟩;rw[HT.out];go_wp2;go_ret3;exact⟨by rw[getTextV,←text_extract s next n];rfl,rfl⟩
  ·have hth:thereB s next n=false:=by simp[thereB];omega
   have HT:=Lib.hid hth;clear hth;simp only[hle,if_false];go_enter Tryz.func151,Tryz.ntmps151;go_wp2_with fail;refine(get_any _ _ _ hs' _).mono ?_;rintro e w' ⟨rfl,rfl⟩;rw[HG.out];simp only[getV];go_wp2_with fail;refine(there_calls s next n hs' _).mono ?_;rintro e w' ⟨rfl,rfl⟩;rw[HT.out];go_wp2;go_ret3;exact⟨rfl,rfl⟩
end Go.Proofs.YtdkeiefgkgpcbaaGreatDoor
namespace Go.Proofs.YtdkeiefgkgpcbaaGreatDoor
open Go.RowKit
def Ix (w:World):Type:={x:World // Below w.heap.size w x}
instance ixNonempty (w:World):Nonempty (Ix w):=⟨⟨w,Below.refl _ _⟩⟩
theorem wp_region_below_lit {P:Program} {id:Nat} {Q:Exit→Act→World→Prop} {a:Act} {w:World} {l:List Oper} (hm:P.follows .mixedOrders=true) (hB:Region.lexB .any l.toArray=true)
  (h:wpQuiet P l.toArray (fun w'=>∃n:Ix w,w'=n.1) (fun a'=>∀w',(∃n:Ix w,w'=n.1)→Q .normal a' w') l a):(Code.region id l.toArray true).wp P Q a w:=
 wp_region_quiet (C:=fun w'=>∃n:Ix w,w'=n.1) hm hB ⟨⟨w.drew,(Below.refl _ _).drew⟩,rfl⟩ (by simpa using h)
theorem Calls.below_of {P:Program} {f:FuncId} {args:Array Value} {w:World} {n:Ix w} {v:Value}
  (h:Calls P f args n.1 fun e w'=>e=.returned v∧Below n.1.heap.size n.1 w'):Calls P f args n.1 fun e w''=>e=.returned v∧∃m:Ix w,w''=m.1:=
 h.mono fun _ w' ⟨he,hb⟩=>⟨he,⟨w',n.2.trans (hb.mono n.2.size)⟩,rfl⟩
theorem Calls.below_of_same {P:Program} {f:FuncId} {args:Array Value} {w:World} {n:Ix w} {v:Value}
  (h:Calls P f args n.1 fun e w'=>e=.returned v∧n.1=w'):Calls P f args n.1 fun e w''=>e=.returned v∧∃m:Ix w,w''=m.1:=
 h.mono fun _ w' ⟨he,hb⟩=>⟨he,n,hb.symm⟩
end Go.Proofs.YtdkeiefgkgpcbaaGreatDoor
namespace Go.Proofs.YtdkeiefgkgpcbaaGreatDoor
open Go.RowKit
def arr (h:List UInt8):Value:=.agg (u8s h).toArray
def arrC (h:List UInt8):Array Value:=(u8s h).toArray
theorem arr_eq (h:List UInt8):arr h=.agg (arrC h):=rfl
theorem arrC_size (h:List UInt8):(arrC h).size=h.length:=by simp[arrC,u8s]
def zeros (n:Nat):List UInt8:=List.replicate n 0
theorem u8s_one (l:List UInt8):∀v∈u8s l,v.oneCell'=true:=fun v hv=>by
 obtain⟨b,_,rfl⟩:=List.mem_map.1 hv;rfl
section
variable {P:Program}
theorem wpList_alloc_row {ops:Array Oper} {rest:List Oper} {o:Oper} {a:Act} {w:World} {Q:Exit→Act→World→Prop} (hgd:o.guard=none) (T:TypeId) (ho:o.op=.alloc T)
  (zs:Array Value) (hz:∀w:World,(Instr.alloc T true (.tuple #[])).run P w=.ok (.pointer (some ⟨w.heap.size,0,none⟩)) (w.alloc (.cells zs T)))
  (h:wpList P ops Q rest (a.put o.dst (.pointer (some ⟨w.heap.size,0,none⟩))) (w.alloc (.cells zs T))):wpList P ops Q (o::rest) a w:=
 wpList_plain hgd fun _ hK=>by
  unfold Oper.wp execOp;simp only[ho,Sem.run_bind,hz,Result.andThen_ok];exact hK _ _ h
theorem run_copy_str (w:World) (dT sT ty elem:TypeId) (g dLen dCap:Nat) (s:ByteArray) (cur:Array Value) (t:TypeId)
  (hu:P.underlying dT=some (.slice elem)) (hsz:(P.info? elem).map (·.size)=some 1) (hg:w.heap[g]? =some (.cells cur t (0,0)))
  (hc:cur.size=dLen) (hs:dLen≤s.size):
  (Builtin.copy_ #[dT,sT] ty #[.slice (some ⟨g,0,none⟩) dLen dCap,.string s]).run P w=.ok (goInt dLen) (w.setRow g (arrC ((ls s).take dLen))):=by
 have hn:Nat.min s.size dLen=dLen:=Nat.min_eq_right hs
 have hcells:((s.extract 0 dLen).data.map fun b=>Value.int .u8 b.toNat)=arrC ((ls s).take dLen):=by
  apply Array.ext';simp[arrC,u8s,ls,ByteArray.data_extract,List.map_take]
 have hst:=run_storeCells_from (P:=P) g t (u8s ((ls s).take dLen)) 0 cur w hg (by simp[u8s,ls_length,hc];omega) (u8s_one _)
 cases hq:P.info? elem with
 |none=>simp[hq] at hsz
 |some i=>
  have hs1:i.size=1:=by simpa[hq] using hsz
  simp only[Builtin.copy_,List.getElem?_toArray,Sem.run_bind];simp[run_underlying hu,Builtin.lenOf,hn,sizeOf,typeInfo,hq,hs1,Builtin.firstCells,hcells];have he:List.take dLen (List.map (fun b=>Value.int IntKind.u8 (b.toNat:Int)) s.data.toList)=u8s ((ls s).take dLen):=by simp[u8s,ls,List.map_take]
  rw[he,hst];simp[arrC]
theorem wpList_copy_str {ops:Array Oper} {rest:List Oper} {o:Oper} {a:Act} {w:World} {Q:Exit→Act→World→Prop} (hgd:o.guard=none) (d s:Operand) (dT sT:TypeId)
  (ho:o.op=.call {callee:=.builtin .copy,args:=#[d,s],argTypes:=#[dT,sT]}) (elem:TypeId) (hu:P.underlying dT=some (.slice elem)) (hsz:(P.info? elem).map (·.size)=some 1)
  (g dLen dCap:Nat) (str:ByteArray) (hd:a.eval d=.slice (some ⟨g,0,none⟩) dLen dCap) (hs:a.eval s=.string str)
  (cur:Array Value) (t:TypeId) (hg:w.heap[g]? =some (.cells cur t (0,0))) (hc:cur.size=dLen) (hl:dLen≤str.size)
  (h:wpList P ops Q rest (a.put o.dst (goInt dLen)) (w.setRow g (arrC ((ls str).take dLen)))):wpList P ops Q (o::rest) a w:=by
 refine wpList_plain hgd fun K hK=>?_
 have hrun:=run_copy_str (P:=P) w dT sT o.type elem g dLen dCap str cur t hu hsz hg hc hl;unfold Oper.wp;simp[execOp,ho,resolve,invoke,builtin,hd,hs,hrun,Result.andThen];exact hK _ _ h
theorem setRow_alloc (w:World) (A B:Array Value) (T:TypeId) (fr:Nat×Nat):(w.alloc (.cells A T fr)).setRow w.heap.size B=w.alloc (.cells B T fr):=by
 unfold World.setRow World.alloc;congr 1;apply Array.ext
 ·simp
 ·intro k h1 h2
  simp only[Array.getElem_modify,Array.getElem_push];split
  ·rename_i hk
   subst hk;simp
  ·rename_i hk
   have hlt:k<w.heap.size:=by simp at h1;omega
   simp[hlt]
theorem alloc_at (w:World) (o:Obj):(w.alloc o).heap[w.heap.size]? =some o:=heap_alloc_new w o
end
end Go.Proofs.YtdkeiefgkgpcbaaGreatDoor
namespace Go.Proofs.YtdkeiefgkgpcbaaGreatDoor
open Go.RowKit
theorem hash_back (w:World) (h:List UInt8) (hl:h.length=32):(convert 47 9 (.slice (some ⟨w.heap.size,0,none⟩) 32 32)).run Tryz.prog (w.alloc (.cells (arrC h) 39))=.ok (.string (mkS h)) (w.alloc (.cells (arrC h) 39)):=by
 have hh:=run_convert_bytes_back (P:=Tryz.prog) (w.alloc (.cells (arrC h) 39)) 47 9 5 ⟨w.heap.size,0,none⟩ 32 h T29 U5 T9 (fun j hj=>by
  have ha:(⟨w.heap.size,0,none⟩:Addr).add j=⟨w.heap.size,j,none⟩:=by unfold Addr.add;split<;>simp_all
  rw[ha,World.cell?_alloc_at _ _ _ _ rfl]
  simp[arrC,u8s,hj])
 rw[hl] at hh;exact hh
theorem alloc_hash (w:World):(Instr.alloc 39 true (.tuple #[])).run Tryz.prog w=.ok (.pointer (some ⟨w.heap.size,0,none⟩)) (w.alloc (.cells (arrC (zeros 32)) 39)):=by kernel_rfl
theorem U37:Tryz.prog.underlying 39=some (.array 32 5):=by kernel_rfl
theorem I37:(Tryz.prog.info? 39).map (·.size)=some 32:=by kernel_rfl
theorem I5s:(Tryz.prog.info? 5).map (·.size)=some 1:=by kernel_rfl
theorem wpList_load_hash {ops:Array Oper} {rest:List Oper} {o:Oper} {a:Act} {w:World} {Q:Exit→Act→World→Prop} (hgd:o.guard=none) (x:Operand) (ho:o.op=.load 39 x)
  (g:Nat) (hx:a.eval x=.pointer (some ⟨g,0,none⟩)) (h:List UInt8) (hl:h.length=32) (t:TypeId) (hg:w.heap[g]? =some (.cells (arrC h) t (0,0)))
  (hk:wpList Tryz.prog ops Q rest (a.put o.dst (arr h)) w):wpList Tryz.prog ops Q (o::rest) a w:=
 wpList_load_row hgd 39 x ho g hx t (arrC h) (0,0) _ hg U37 rfl (by rw[arrC_size,hl];exact I37) hk
theorem wpList_store_hash {ops:Array Oper} {rest:List Oper} {o:Oper} {a:Act} {w:World} {Q:Exit→Act→World→Prop} (hgd:o.guard=none) (x y:Operand) (ho:o.op=.store 39 x y)
  (old h:List UInt8) (hx:a.eval x=.pointer (some ⟨w.heap.size,0,none⟩)) (hy:a.eval y=arr h) (hl:h.length=32) (hol:old.length=32) (t:TypeId)
  (hk:wpList Tryz.prog ops Q rest (a.put o.dst undef) (w.alloc (.cells (arrC h) t))):wpList Tryz.prog ops Q (o::rest) a (w.alloc (.cells (arrC old) t)):=
 wpList_store_row hgd 39 x y ho w.heap.size (arrC h) hx hy t (arrC old) (alloc_at _ _) (by rw[arrC_size,hl];exact I37) (by rw[arrC_size,arrC_size,hl,hol])
  (by rw[Array.all_eq_true_iff_forall_mem];intro v hv;exact u8s_one h v (by simpa[arrC] using hv)) (by rw[setRow_alloc];exact hk)
theorem zeros_length (n:Nat):(zeros n).length=n:=by simp[zeros]
theorem results_hash {fn:Func} {tmps:Array Value} {w:World} (p q r:Tmp) (hf:fn.results=#[.cell p 39,.tmp q,.tmp r]) (g:Nat) (hp:tmps.getD p undef=.pointer (some ⟨g,0,none⟩))
  (h:List UInt8) (hl:h.length=32) (t:TypeId) (hg:w.heap[g]? =some (.cells (arrC h) t (0,0))):
  (results fn tmps).run Tryz.prog w=.ok (.tuple #[arr h,tmps.getD q undef,tmps.getD r undef]) w:=by
 have hp':tmps[p]?.getD undef=.pointer (some ⟨g,0,none⟩):=by simpa using hp
 have hr:=run_loadVar_row (P:=Tryz.prog) w g t 39 (arrC h) (0,0) _ hg U37 rfl (by rw[arrC_size,hl];exact I37);rw[←arr_eq] at hr;simp[results,hf,hp',asAddr,hr]
set_option maxHeartbeats 400000 in
theorem put_hash_calls (h:List UInt8) (hl:h.length=32) (w:World):
  Calls Tryz.prog 139 #[arr h] w fun e w'=>e=.returned (.string (mkS h))∧Below w.heap.size w w':=by
 have hb:=hash_back w h hl;rw[arr_eq];generalize arrC h=C at*;go_enter Tryz.func139,Tryz.ntmps139;go_wp2;go_ret;exact⟨rfl,(Below.refl _ _).alloc (Nat.le_refl _) _⟩
set_option maxHeartbeats 400000 in
theorem getHash_no (s:ByteArray) (a:Int) (hs:s.size≤maxLen) (hth:thereB s a 32=false) (w:World):
  Calls Tryz.prog 152 #[.string s,.int .i64 a] w fun e w'=>e=.returned (.tuple #[arr (zeros 32),.int .i64 0,.bool false])∧Below w.heap.size w w':=by
 have HT:=Lib.hid hth;clear hth;go_enter Tryz.func152,Tryz.ntmps152;go_wp2_with (with_reducible refine wpList_alloc_row rfl 39 rfl (arrC (zeros 32)) alloc_hash ?_);refine(there_calls s a 32 hs _).mono ?_;rintro e w' ⟨rfl,rfl⟩;rw[HT.out]
 go_wp2_with (first
  |(with_reducible refine wpList_load_hash rfl (.tmp 4) rfl w.heap.size rfl (zeros 32) (zeros_length 32) _ (alloc_at _ _) ?_)
  |(with_reducible refine wpList_store_hash rfl (.tmp 4) (.tmp 11) rfl (zeros 32) (zeros 32) rfl rfl (zeros_length 32) (zeros_length 32) _ ?_))
 refine bodyPost_ret (results_hash 4 5 6 rfl w.heap.size rfl (zeros 32) (zeros_length 32) _ (alloc_at _ _)) rfl ⟨rfl,(Below.refl _ _).alloc (Nat.le_refl _) _⟩
theorem slice_from (s:ByteArray) (a:Nat) (h:a≤s.size) (w:World):(Instr.slice 9 (.string s) (some (.int .i64 a)) none none).run Tryz.prog w=.ok (.string (s.extract a s.size)) w:=by
 have:=run_slice_string_l (P:=Tryz.prog) w 9 s T9 .i64 a (by omega) (by omega);simpa using this
theorem sub_from (s:ByteArray) (a:Nat) (h:a+32≤s.size):(ls (s.extract a s.size)).take 32=sub s a 32:=by
 simp[ls,sub,ByteArray.data_extract];have:(s.data.toList.drop a).take (s.size-a)=s.data.toList.drop a:=List.take_of_length_le (by simp);rw[this]
set_option maxHeartbeats 400000 in
theorem getHash_yes (s:ByteArray) (a:Nat) (hs:s.size≤maxLen) (ha:a+32≤s.size) (w:World):
  Calls Tryz.prog 152 #[.string s,.int .i64 a] w fun e w'=>e=.returned (.tuple #[arr (sub s a 32),.int .i64 (a+32),.bool true])∧Below w.heap.size w w':=by
 have hth:thereB s a 32=true:=by simp[thereB];omega
 have hs':=hs;unfold maxLen at hs;have HT:=Lib.hid hth;clear hth;go_enter Tryz.func152,Tryz.ntmps152;go_wp2_with (with_reducible refine wpList_alloc_row rfl 39 rfl (arrC (zeros 32)) alloc_hash ?_);refine(there_calls s a 32 hs' _).mono ?_;rintro e w' ⟨rfl,rfl⟩;rw[HT.out];go_wp2_with fail;have hsl:=slice_from s a (by omega);go_still_tail 4,(by kernel_rfl);have hdr:Below w.heap.size w w.drew:=(Below.refl _ _).drew;change wpList _ _ _ _ _ (w.drew.alloc (.cells (arrC (zeros 32)) 39));have hz:w.heap.size=w.drew.heap.size:=rfl;have HS:=Lib.hid (sub_from s a (by omega));rw[hz];generalize w.drew=w2 at*;clear hz hsl;refine wpList_copy_str rfl (.tmp 12) (.tmp 15) 47 9 rfl 5 T29 I5s w2.heap.size 32 32 _ rfl rfl (arrC (zeros 32)) 39 (alloc_at _ _) (by rw[arrC_size,zeros_length]) (by simp[ByteArray.size_extract];omega) ?_;rw[setRow_alloc,HS.out];have hl:(sub s (a:Int) (32:Int)).length=32:=sub_length s a 32 ha
 go_wp2_with (first
  |(with_reducible refine wpList_load_hash rfl (.tmp 4) rfl w2.heap.size rfl (sub s a 32) hl _ (alloc_at _ _) ?_)
  |(with_reducible refine wpList_store_hash rfl (.tmp 4) (.tmp 17) rfl (sub s a 32) (sub s a 32) rfl rfl hl hl _ ?_))
 refine bodyPost_ret (results_hash 4 5 6 rfl w2.heap.size rfl (sub s a 32) hl _ (alloc_at _ _)) rfl ⟨rfl,hdr.alloc hdr.size _⟩
def getHashV (s:ByteArray) (a:Int):Value:=
 if thereB s a 32 then .tuple #[arr (sub s a 32),.int .i64 (a+32),.bool true] else .tuple #[arr (zeros 32),.int .i64 0,.bool false]
theorem get_hash_calls (s:ByteArray) (a:Int) (hs:s.size≤maxLen) (w:World):
  Calls Tryz.prog 152 #[.string s,.int .i64 a] w fun e w'=>e=.returned (getHashV s a)∧Below w.heap.size w w':=by
 unfold getHashV
 cases h:thereB s a 32 with
 |false=>simpa using getHash_no s a hs h w
 |true=>
  have h':=h;simp[thereB] at h';obtain⟨a,rfl⟩:=Int.eq_ofNat_of_zero_le h'.1;simpa using getHash_yes s a hs (by omega) w
end Go.Proofs.YtdkeiefgkgpcbaaGreatDoor
namespace Go.Proofs.YtdkeiefgkgpcbaaGreatDoor
open Go.RowKit
theorem C5:Tryz.prog.cellsOf 5=1:=by kernel_rfl
theorem A5 (w:World):(isAgg 5).run Tryz.prog w=.ok false w:=by kernel_rfl
theorem part_u8 (w:World) (h:List UInt8) (i:Nat) (hi:i<h.length):(part 5 (arrC h) (i*1)).run Tryz.prog w=.ok (.int .u8 (h[i].toNat:Int)) w:=by
 simp[part,A5,arrC,u8s,hi]
theorem items_u8 (d:Nat) (h g:List UInt8) (w:World):∀(is:List Nat),(∀i∈is,i<h.length∧i<g.length)→
  (Op.eqItems (d+1) 5 1 (arrC h) (arrC g) is).run Tryz.prog w=.ok (is.all fun i=>h.getD i 0==g.getD i 0) w
 | [],_=>by simp[Op.eqItems]
 |i::is,hi=>by
  obtain⟨h1,h2⟩:=hi i (by simp);have ih:=items_u8 d h g w is (fun j hj=>hi j (by simp[hj]));have he:=run_equalIn_int (P:=Tryz.prog) w d 5 .u8 .u8 (h[i].toNat:Int) (g[i].toNat:Int) U5;simp only[Op.eqItems,Sem.run_bind,part_u8 w h i h1,part_u8 w g i h2,Result.andThen_ok,he]
  by_cases hc:h[i]=g[i]
  ·simp[hc,ih,h1,h2]
  ·have:¬(h[i].toNat:Int)=(g[i].toNat:Int):=fun e=>hc (UInt8.toNat_inj.mp (by omega))
   simp[hc,this,h1,h2]
theorem all_getD {h g:List UInt8} {n:Nat} (hh:h.length=n) (hg:g.length=n):((List.range n).all fun i=>h.getD i 0==g.getD i 0)=(h==g):=by
 rw[Bool.eq_iff_iff];simp only[List.all_eq_true,List.mem_range,beq_iff_eq];constructor
 ·intro k
  apply List.ext_getElem (by omega);intro i h1 h2;have:=k i (by omega);simpa[h1,h2] using this
 ·rintro rfl i _
  rfl
theorem equal_hash (d:Nat) (h g:List UInt8) (hh:h.length=32) (hg:g.length=32) (w:World):
  (Op.equalIn (d+2) 39 (arr h) (arr g)).run Tryz.prog w=.ok (h==g) w:=by
 cases hi:Tryz.prog.info? 5 with
 |none=>have:=I5s;rw[hi] at this;simp at this
 |some i=>
  rw[arr_eq,arr_eq,run_equalIn_array (P:=Tryz.prog) w (d+1) (arrC h) (arrC g) U37 hi,C5];rw[items_u8 d h g w _ (fun j hj=>by have:=List.mem_range.1 hj;omega),all_getD hh hg]
theorem eql_hash (h g:List UInt8) (hh:h.length=32) (hg:g.length=32) (w:World):
  (binOp .eql 39 (arr h) (arr g)).run Tryz.prog w=.ok (.bool (h==g)) w:=by
 have:=equal_hash 9998 h g hh hg w;rw[arr_eq,arr_eq] at this ⊢;rw[run_eql_struct,this];rfl
theorem neq_hash (h g:List UInt8) (hh:h.length=32) (hg:g.length=32) (w:World):
  (binOp .neq 39 (arr h) (arr g)).run Tryz.prog w=.ok (.bool (h !=g)) w:=by
 have:=equal_hash 9998 h g hh hg w;rw[arr_eq,arr_eq] at this ⊢;rw[run_neq_struct,this];rfl
theorem guard_hash (op:BinOp) (x y:Operand) (h g:List UInt8) (w:World):(eqGuard op 39 x y (arr h) (arr g)).run Tryz.prog w=.ok () w:=by
 rw[arr_eq,arr_eq];exact run_eqGuard_agg (P:=Tryz.prog) w op 39 x y _ _ (by kernel_rfl)
end Go.Proofs.YtdkeiefgkgpcbaaGreatDoor
