/- Steps of the proof: Names, Builder, Mem. -/
import Derived.Laws.IdiomStrings
import Derived.WalkLawsBesides
import Derived.Shelf.Strings.Builder1
import Derived.Shelf.Strings.BuilderF
import Derived.Shelf.Strings.BuilderK
import Derived.BigFrame
import Derived.Test.YtdkeiefgkgpcbaaGreatDoorP01
set_option linter.unusedVariables false
set_option linter.unusedSimpArgs false
set_option maxRecDepth 100000
namespace Go.Proofs.YtdkeiefgkgpcbaaGreatDoor
open Go.RowKit
def okR (r:Int):Bool:=(decide (97≤r)&&decide (r≤122))||((decide (48≤r)&&decide (r≤57))||(r==45||r==46))
theorem okR_cases (r:Int):(97≤r∧r≤122∧okR r=true)∨(97≤r∧122<r∧okR r=false)∨(r<97∧48≤r∧r≤57∧okR r=true)∨(r<97∧57<r∧okR r=false)∨(r=45∧okR r=true)∨(r=46∧okR r=true)∨(r<48∧r≠45∧r≠46∧okR r=false):=by
 have key:okR r=true↔((97≤r∧r≤122)∨(48≤r∧r≤57)∨r=45∨r=46):=by simp[okR]
 cases h:okR r with
 |true=>rw[h] at key;simp at key;simp;omega
 |false=>rw[h] at key;simp at key;simp;omega
set_option maxHeartbeats 1000000 in
theorem odd_calls (r:Int) (w:World):
  Calls Tryz.prog 141 #[.int .i32 r] w fun e w'=>e=.returned (.bool (!okR r))∧w=w':=by
 rcases okR_cases r with⟨h1,h2,h⟩ |⟨h1,h2,h⟩ |⟨h1,h2,h3,h⟩ |⟨h1,h2,h⟩ |⟨rfl,h⟩ |⟨rfl,h⟩ |⟨h1,h2,h3,h⟩
 ·rw[h]
  have a1:decide (97≤r)=true:=by simpa using h1
  have a2:decide (r≤122)=true:=by simpa using h2
  clear h;go_enter Tryz.func141,Tryz.ntmps141;go_wp2;go_ret;exact⟨rfl,rfl⟩
 ·rw[h]
  have a1:decide (97≤r)=true:=by simpa using h1
  have a2:decide (r≤122)=false:=by simpa using h2
  have a3:decide (48≤r)=true:=by simp;omega
  have a4:decide (r≤57)=false:=by simp;omega
  have a5:(r==45)=false:=by simp;omega
  have a6:(r==46)=false:=by simp;omega
  clear h;go_enter Tryz.func141,Tryz.ntmps141;go_wp2;go_ret;exact⟨rfl,rfl⟩
 ·rw[h]
  have a1:decide (97≤r)=false:=by simpa using h1
  have a3:decide (48≤r)=true:=by simp;omega
  have a4:decide (r≤57)=true:=by simp;omega
  clear h;go_enter Tryz.func141,Tryz.ntmps141;go_wp2;go_ret;exact⟨rfl,rfl⟩
 ·rw[h]
  have a1:decide (97≤r)=false:=by simpa using h1
  have a3:decide (48≤r)=true:=by simp;omega
  have a4:decide (r≤57)=false:=by simp;omega
  have a5:(r==45)=false:=by simp;omega
  have a6:(r==46)=false:=by simp;omega
  clear h;go_enter Tryz.func141,Tryz.ntmps141;go_wp2;go_ret;exact⟨rfl,rfl⟩
 ·go_enter Tryz.func141,Tryz.ntmps141
  go_wp2;go_ret;exact⟨rfl,rfl⟩
 ·go_enter Tryz.func141,Tryz.ntmps141
  go_wp2;go_ret;exact⟨rfl,rfl⟩
 ·rw[h]
  have a1:decide (97≤r)=false:=by simp;omega
  have a3:decide (48≤r)=false:=by simp;omega
  have a5:(r==45)=false:=by simpa using h2
  have a6:(r==46)=false:=by simpa using h3
  clear h;go_enter Tryz.func141,Tryz.ntmps141;go_wp2;go_ret;exact⟨rfl,rfl⟩
def okTo (rs:List Int) (k:Nat):Prop:=∀r∈rs.take k,okR r=true
theorem okTo_succ {rs:List Int} {k:Nat} (h:k<rs.length) (hs:okTo rs k) (h1:okR rs[k]=true):okTo rs (k+1):=fun r hm=>by
 rw[List.take_succ_eq_append_getElem h] at hm;rcases List.mem_append.1 hm with h2 |h2
 ·exact hs r h2
 ·simp at h2;subst h2;exact h1
set_option maxHeartbeats 1000000 in
theorem index_func_calls (rs:List Int) (b cap:Nat) (hlen:rs.length≤maxLen) (w:World) (hc:∀i (h:i<rs.length),w.cell? ⟨b,i,none⟩=some (.int .i32 rs[i])):
  Calls Tryz.prog 171 #[.slice (some ⟨b,0,none⟩) rs.length cap,.func (.func 141) #[] #[]] w
   fun e w'=>(∃n:Int,e=.returned (.int .i64 n)∧(decide (0≤n))= !(rs.all okR))∧w=w':=by
 unfold maxLen at hlen;have HC:=Lib.hid hc;clear hc;go_enter Tryz.func171,Tryz.ntmps171;go_wp2_with fail;go_loop [8] (fun i=>∃k:Nat,k≤rs.length∧i=.int .i64 k∧Hid (okTo rs k)) (fun i=>rs.length-(intOf i).toNat)
 case atStart=>exact⟨0,by omega,rfl,fun r hr=>by simp at hr⟩
 case round=>
  obtain⟨k,hk,rfl,hok⟩:=hrel
  by_cases hlt:k<rs.length
  ·have hcell:=HC.out k hlt
   have HS:okR rs[k]=true→Hid (okTo rs (k+1)):=fun h=>okTo_succ hlt hok.out h
   have HN:okR rs[k]=false→Hid (rs.all okR=false):=fun h=>by
    show _=_;rw[List.all_eq_false];exact⟨rs[k],List.getElem_mem hlt,by simp[h]⟩
   generalize rs[k]=r at*;go_wp2_with fail;refine(odd_calls r w).mono ?_;rintro e w' ⟨rfl,rfl⟩
   cases ho:okR r with
   |true=>
    have HS':=HS ho;clear HS HN ho;go_wp2_with fail;go_round
    case rel=>exact⟨k+1,by omega,by go_num,HS'⟩
    case measure=>simp[intOf];omega
   |false=>
    have HN':=HN ho;clear HS HN ho;go_wp2_with fail;go_ret;exact⟨⟨k,rfl,by rw[HN'.out];simp⟩,rfl⟩
  ·obtain rfl:k=rs.length:=by omega
   go_wp2_with fail;go_ret;refine⟨⟨-1,rfl,?_⟩,rfl⟩;have:rs.all okR=true:=List.all_eq_true.2 (fun r hr=>hok.out r (by rw[List.take_length];exact hr));rw[this];rfl
set_option maxHeartbeats 1000000 in
theorem contains_func_calls (rs:List Int) (b cap:Nat) (hlen:rs.length≤maxLen) (w:World) (hc:∀i (h:i<rs.length),w.cell? ⟨b,i,none⟩=some (.int .i32 rs[i])):
  Calls Tryz.prog 142 #[.slice (some ⟨b,0,none⟩) rs.length cap,.func (.func 141) #[] #[]] w
   fun e w'=>e=.returned (.bool !(rs.all okR))∧w=w':=by
 have HC:=Lib.hid hc;clear hc;go_enter Tryz.func142,Tryz.ntmps142;go_wp2_with fail;refine(index_func_calls rs b cap hlen w HC.out).mono ?_;rintro e w' ⟨⟨n,rfl,hn⟩,rfl⟩;have HN:=Lib.hid hn;clear hn;go_wp2_with fail;go_ret;exact⟨by rw[←HN.out];rfl,rfl⟩
def runesL (s:ByteArray):(bound i:Nat)→List Int
 |0,_=>[]
 |bound+1,i=>if i<s.size then((Utf8.decode s i).1:Int)::runesL s bound (i+(Utf8.decode s i).2) else[]
theorem runesFrom_eq (s:ByteArray):∀(bound i:Nat) (acc:Array Value),Conv.runesFrom s bound i acc=acc++((runesL s bound i).map (Value.int .i32)).toArray
 |0,i,acc=>by simp[Conv.runesFrom,runesL]
 |bound+1,i,acc=>by
  by_cases h:i<s.size
  ·simp only[Conv.runesFrom,runesL,h,if_true]
   rw[runesFrom_eq s bound];simp
  ·simp[Conv.runesFrom,runesL,h]
theorem runesL_length (s:ByteArray):∀(bound i:Nat),(runesL s bound i).length≤bound
 |0,i=>by simp[runesL]
 |bound+1,i=>by
  unfold runesL;split
  ·have:=runesL_length s bound (i+(Utf8.decode s i).2);simp;omega
  ·simp
theorem decode_ascii (s:ByteArray) (i:Nat) (h:i<s.size) (h1:s[i].toNat<128):Utf8.decode s i=(s[i].toNat,1):=by
 have e:(s.get! (i+0)).toNat=s[i].toNat:=by
  have:s.get! (i+0)=s[i]:=by
   show s.data[i]! =s.data[i];exact getElem!_pos s.data i h
  rw[this]
 unfold Utf8.decode;simp only[e];rw[if_pos h1]
theorem decode_high (s:ByteArray) (i:Nat) (h:i<s.size) (h1:¬s[i].toNat<128):128≤(Utf8.decode s i).1:=by
 have e:(s.get! (i+0)).toNat=s[i].toNat:=by
  have:s.get! (i+0)=s[i]:=by
   show s.data[i]! =s.data[i];exact getElem!_pos s.data i h
  rw[this]
 unfold Utf8.decode;simp only[e];rw[if_neg h1];split
 ·split
  ·simp only;omega
  ·decide
 ·split
  ·split
   ·rename_i h2;simp only[Bool.and_eq_true,decide_eq_true_eq] at h2;simp only;omega
   ·decide
  ·split
   ·split
    ·rename_i h2;simp only[Bool.and_eq_true,decide_eq_true_eq] at h2;simp only;omega
    ·decide
   ·decide
theorem okR_high {r:Int} (h:128≤r):okR r=false:=by rcases okR_cases r with h |h |h |h |h |h |h<;>first|exact h.2.2.2 |exact h.2.2 |(exfalso;omega)
theorem runes_ok (s:ByteArray):∀(bound i:Nat),s.size-i≤bound→(runesL s bound i).all okR=((ls s).drop i).all fun c=>okR (c.toNat:Int)
 |0,i,h=>by
  have:(ls s).drop i=[]:=List.drop_eq_nil_of_le (by rw[ls_length];omega);rw[this];rfl
 |bound+1,i,h=>by
  unfold runesL;split
  ·rename_i hi
   have hd:(ls s).drop i=s[i]::(ls s).drop (i+1):=by rw[List.drop_eq_getElem_cons (by rw[ls_length];exact hi)];rfl
   rw[hd]
   by_cases h1:s[i].toNat<128
   ·rw[decode_ascii s i hi h1]
    simp only[List.all_cons];rw[runes_ok s bound (i+1) (by omega)]
   ·have h2:=decode_high s i hi h1
    have e1:okR ((Utf8.decode s i).1:Int)=false:=okR_high (by omega);have e2:okR (s[i].toNat:Int)=false:=okR_high (by omega);simp only[List.all_cons,e1,e2,Bool.false_and]
  ·rename_i hi
   have:(ls s).drop i=[]:=List.drop_eq_nil_of_le (by rw[ls_length];omega);rw[this];rfl
def errOf (b:Bool) (n:Int):Int:=if b then 0 else n
def nameOk (s:ByteArray):Bool:=decide (1≤s.size)&&(decide (s.size≤12)&&(!((ls s).headD 0==46)&&(ls s).all fun c=>okR (c.toNat:Int)))
theorem U21:Tryz.prog.underlying 21=some (.int .i32):=by kernel_rfl
theorem U80:Tryz.prog.underlying 244=some (.slice 21):=by kernel_rfl
theorem empty_toList (s:ByteArray) (h:s.size=0):s.toList=[]:=by
 have:s.toList.length=0:=by rw[ByteArray.toList_eq];exact h
 exact List.eq_nil_of_length_eq_zero this
theorem toList_empty (s:ByteArray) (h:s.size≠0):s.toList≠[]:=fun h'=>h (by
 have:s.toList.length=0:=by rw[h'];rfl
 rw[ByteArray.toList_eq] at this;exact this)
theorem head_at (s:ByteArray) (h:0<s.size):(ls s).headD 0=s[0]:=by
 have:ls s=s[0]::(ls s).drop 1:=by
  have:=List.drop_eq_getElem_cons (l:=ls s) (i:=0) (by rw[ls_length];exact h);rw[List.drop_zero] at this;exact this
 rw[this];rfl
set_option maxHeartbeats 1000000 in
theorem names_check_short (s:ByteArray) (h:s.size=0) (w:World):
  Calls Tryz.prog 110 #[.string s] w fun e w'=>e=.returned (.int .i64 130)∧Below w.heap.size w w':=by
 have f1:=empty_toList s h;clear h;go_enter Tryz.func110,Tryz.ntmps110;go_wp2;go_ret;exact⟨rfl,Below.refl _ _⟩
set_option maxHeartbeats 1000000 in
theorem names_check_long (s:ByteArray) (h:12<s.size) (hs:s.size≤9223372036854775807) (w:World):
  Calls Tryz.prog 110 #[.string s] w fun e w'=>e=.returned (.int .i64 130)∧Below w.heap.size w w':=by
 have f1:s.toList.isEmpty=false:=by simpa using toList_empty s (by omega)
 have f2:decide ((12:Int)<(s.size:Int))=true:=by simp;omega
 go_enter Tryz.func110,Tryz.ntmps110;go_wp2;go_ret;exact⟨rfl,Below.refl _ _⟩
set_option maxHeartbeats 1000000 in
theorem names_check_dot (s:ByteArray) (h:0<s.size) (h12:s.size≤12) (hd:(s[0].toNat:Int)=46) (w:World):
  Calls Tryz.prog 110 #[.string s] w fun e w'=>e=.returned (.int .i64 130)∧Below w.heap.size w w':=by
 have f1:s.toList.isEmpty=false:=by simpa using toList_empty s (by omega)
 have f2:decide ((12:Int)<(s.size:Int))=false:=by simp;omega
 have f3:((s[0].toNat:Int)==46)=true:=by simpa using hd
 clear hd;go_enter Tryz.func110,Tryz.ntmps110;go_wp2;go_ret;exact⟨rfl,Below.refl _ _⟩
theorem rune_cells (w:World) (rs:List Int) (m:Nat):∀i (h:i<rs.length),(w.drew.alloc (.cells ((rs.map (Value.int .i32)).toArray++Array.replicate m (.int .i32 0)) 21)).cell? ⟨w.heap.size,i,none⟩=some (.int .i32 rs[i]):=fun i h=>by
 have e:w.heap.size=w.drew.heap.size:=rfl;rw[e,World.cell?_alloc_at _ _ _ _ rfl,Array.getElem?_append_left (by simpa using h)];simp[h]
set_option maxHeartbeats 1000000 in
theorem names_check_rest (s:ByteArray) (h:0<s.size) (h12:s.size≤12) (hd:¬(s[0].toNat:Int)=46) (w:World):
  Calls Tryz.prog 110 #[.string s] w fun e w'=>e=.returned (.int .i64 (errOf ((ls s).all (fun c=>okR (c.toNat:Int))) 130))∧Below w.heap.size w w':=by
 have f1:s.toList.isEmpty=false:=by simpa using toList_empty s (by omega)
 have f2:decide ((12:Int)<(s.size:Int))=false:=by simp;omega
 have f3:((s[0].toNat:Int)==46)=false:=by simpa using hd
 have hr:=runesFrom_eq s s.size 0 #[];rw[Array.empty_append] at hr;have hl:=runesL_length s s.size 0;have hrun:=run_runes_of_string (P:=Tryz.prog) w 9 244 21 s T9 U80 U21 (by rw[hr];simp;omega);have hall:=runes_ok s s.size 0 (by omega);rw[List.drop_zero] at hall;rw[←hall];rw[hr] at hrun;clear hr hd hall;generalize runesL s s.size 0=rs at*;rw[show(rs.map (Value.int .i32)).toArray.size=rs.length by simp] at hrun;have HC:=Lib.hid (rune_cells w rs (grownCap w rs.length 0 21-rs.length));have HB:Hid (Below w.heap.size w (w.drew.alloc (.cells ((rs.map (Value.int .i32)).toArray++Array.replicate (grownCap w rs.length 0 21-rs.length) (.int .i32 0)) 21))):=Lib.hid ((Below.refl _ _).drew.alloc (Nat.le_refl _) _);generalize w.drew.alloc (.cells ((rs.map (Value.int .i32)).toArray++Array.replicate (grownCap w rs.length 0 21-rs.length) (.int .i32 0)) 21)=w1 at*;generalize grownCap w rs.length 0 21=cap at*;go_enter Tryz.func110,Tryz.ntmps110;go_wp2_with fail;refine(contains_func_calls rs w.heap.size cap (by unfold maxLen;omega) w1 HC.out).mono ?_;rintro e w' ⟨rfl,rfl⟩
 cases hb:rs.all okR with
 |true=>
  have HE:Hid (Ending.returned (Value.int .i64 0)=.returned (.int .i64 (errOf (rs.all okR) 130))):=Lib.hid (by rw[hb];rfl);rw[Bool.not_true];clear hb;go_wp2_with fail;go_ret;exact⟨by rw[←HE.out];rfl,HB.out⟩
 |false=>
  have HE:Hid (Ending.returned (Value.int .i64 130)=.returned (.int .i64 (errOf (rs.all okR) 130))):=Lib.hid (by rw[hb];rfl);rw[Bool.not_false];clear hb;go_wp2_with fail;go_ret;exact⟨by rw[←HE.out];rfl,HB.out⟩
theorem names_check_calls (s:ByteArray) (hs:s.size≤maxLen) (w:World):
  Calls Tryz.prog 110 #[.string s] w fun e w'=>e=.returned (.int .i64 (errOf (nameOk s) 130))∧Below w.heap.size w w':=by
 unfold maxLen at hs;unfold nameOk
 by_cases h0:s.size=0
 ·have:decide (1≤s.size)=false:=by simp[h0]
  rw[this];exact names_check_short s h0 w
 ·have e0:decide (1≤s.size)=true:=by simp;omega
  by_cases h12:12<s.size
  ·have:decide (s.size≤12)=false:=by simp;omega
   rw[e0,this];exact names_check_long s h12 (by omega) w
  ·have e1:decide (s.size≤12)=true:=by simp;omega
   rw[e0,e1,head_at s (by omega)]
   by_cases hd:(s[0].toNat:Int)=46
   ·have:(s[0]==46)=true:=by
     rw[beq_iff_eq];apply UInt8.toNat_inj.mp;show s[0].toNat=46;omega
    rw[this];exact names_check_dot s (by omega) (by omega) hd w
   ·have:(s[0]==46)=false:=by
     rw[beq_eq_false_iff_ne];intro h;apply hd;rw[h];rfl
    rw[this];simpa using names_check_rest s (by omega) (by omega) hd w
end Go.Proofs.YtdkeiefgkgpcbaaGreatDoor
namespace Go.Proofs.YtdkeiefgkgpcbaaGreatDoor
open Go.Shelf Go.RowKit
theorem sizeBuilder:(Tryz.prog.info? 159).map (·.size)=some 2:=by kernel_rfl
set_option maxHeartbeats 1000000 in
set_option maxRecDepth 100000 in
theorem copyCheck_fresh (b:Nat) (w:World) (h0:w.cell? ⟨b,0,none⟩=some (.pointer none)) (hsh:w.shape? b=some (159,2)) (hfz:w.frozen? ⟨b,0,none⟩=false):
  Calls Tryz.prog 126 #[.pointer (some ⟨b,0,none⟩)] w fun e w'=>e=.returned (.tuple #[])∧w'=w.setCell ⟨b,0,none⟩ (.pointer (some ⟨b,0,none⟩)):=by
 obtain⟨j,hj,hjs⟩:=Option.map_eq_some_iff.1 sizeBuilder;go_enter Tryz.func126,Tryz.ntmps126;go_wp2_with fail;rw[Lib.run_to_unsafe w ⟨b,0,none⟩ Tryz.underlying157 Tryz.underlying263 hj (by rw[hjs];decide) hsh (Nat.zero_lt_succ 1)];simp only[Result.andThen];rw[Oper.upon_value];go_wp2_with fail;rw[run_callFunc_extern Tryz.func158 (by kernel_rfl) (by kernel_rfl) (by kernel_rfl) (e:=Extern.AbiNoEscape.same) (by kernel_rfl)];rw[Lib.run_noEscape];simp only[Result.andThen];rw[Oper.upon_value];go_wp2_with fail;rw[Lib.run_from_unsafe w ⟨b,0,none⟩ Tryz.underlying263 Tryz.underlying157 hj hsh (by kernel_rfl)];simp only[Result.andThen];rw[Oper.upon_value];go_wp2_with fail;go_end0;exact⟨rfl,rfl⟩
set_option maxHeartbeats 1000000 in
set_option maxRecDepth 100000 in
theorem copyCheck_used (b:Nat) (w:World) (h0:w.cell? ⟨b,0,none⟩=some (.pointer (some ⟨b,0,none⟩))):
  Calls Tryz.prog 126 #[.pointer (some ⟨b,0,none⟩)] w fun e w'=>e=.returned (.tuple #[])∧w'=w:=by
 obtain⟨j,hj,_⟩:=Option.map_eq_some_iff.1 sizeBuilder;go_enter Tryz.func126,Tryz.ntmps126;go_wp2_with fail;rw[Lib.run_neq_ptr_same w _ Tryz.underlying157 hj];go_wp2_with fail;go_end0;exact⟨rfl,rfl⟩
abbrev IsB (B b:Nat) (bs:List Value) (w:World):Prop:=Lib.IsBuilderF 159 5 B b bs w
abbrev KeptB (B b:Nat) (w w':World):Prop:=Below B w w'∧Lib.OthersKept 5 (some b) w w'
theorem copyCheck_calls (B b:Nat) (bs:List Value) (w:World) (h:IsB B b bs w):
  Calls Tryz.prog 126 #[.pointer (some ⟨b,0,none⟩)] w fun e w'=>e=.returned (.tuple #[])∧(Lib.BuilderAtF 159 5 B b (.pointer (some ⟨b,0,none⟩)) bs w'∧Below B w w'∧Lib.OthersKept 5 (some b) w w'):=by
 rcases h with h |h
 ·refine(copyCheck_fresh b w h.cell0 h.shape h.frozen0).mono ?_
  rintro e w' ⟨rfl,rfl⟩;exact⟨rfl,h.used _,(Below.refl B w).setCell (p:=⟨b,0,none⟩) h.1 _,(Lib.OthersKept.refl _ _ w).setCell ⟨b,0,none⟩ rfl _⟩
 ·refine(copyCheck_used b w h.cell0).mono ?_
  rintro e w' ⟨rfl,rfl⟩;exact⟨rfl,h,Below.refl B _,Lib.OthersKept.refl _ _ _⟩
theorem infoByte:(Tryz.prog.info? 5).map (fun i=>(i.zero,i.size,i.bytes))=some (some (.int .u8 0),1,1):=by kernel_rfl
set_option maxHeartbeats 2000000 in
set_option maxRecDepth 100000 in
theorem write_string_calls (B b:Nat) (bs:List Value) (s:ByteArray) (w:World) (h:IsB B b bs w) (hlen:bs.length+s.size≤140737488355328) (hBw:B≤w.heap.size):
  Calls Tryz.prog 76 #[.pointer (some ⟨b,0,none⟩),.string s] w fun e w'=>e=.returned (.tuple #[.int .i64 s.size,.nilIface])∧(IsB B b (bs++Lib.strCells s) w'∧KeptB B b w w'):=by
 obtain⟨i0,hi,hz0,hz1,hz2⟩:=info_parts infoByte;go_enter Tryz.func76,Tryz.ntmps76;go_wp2_with fail;refine(copyCheck_calls B b bs _ h).mono ?_;rintro e w1 ⟨rfl,h1,hb1,hk1⟩;obtain⟨hB,v,hbk,hown,hne⟩:=h1;have c0:w1.cell? ⟨b,0,none⟩=some (.pointer (some ⟨b,0,none⟩)):=by rw[Lib.cell_of_heap hbk];rfl
 have c1:w1.cell? ⟨b,1,none⟩=some v:=by rw[Lib.cell_of_heap hbk];rfl
 go_wp2_with (at_builtin;refine Lib.wpList_append_own_stringF _ rfl _ _ 47 9 rfl B 5 i0 Tryz.underlying47 Tryz.underlying9 hi hz0 hz1 hz2 _ _ _ rfl hown s rfl ?c3 ?c4 ?c5 ?_)
 case c3=>unfold maxLen;omega
 case c4=>omega
 case c5=>have:=hb1.size;omega
 intro v' w2 hown' hgrow _
 have hlt:b<w1.heap.size:=by
  rcases Nat.lt_or_ge b w1.heap.size with h' |h'
  ·exact h'
  ·simp[Array.getElem?_eq_none h'] at hbk
 have hb2:w2.heap[b]? =some (.cells #[.pointer (some ⟨b,0,none⟩),v] 159 (0,0)):=by
  rw[hgrow.block b hlt (fun e=>hne e.symm)];exact hbk
 have d0:w2.cell? ⟨b,0,none⟩=some (.pointer (some ⟨b,0,none⟩)):=by rw[Lib.cell_of_heap hb2];rfl
 have d1:w2.cell? ⟨b,1,none⟩=some v:=by rw[Lib.cell_of_heap hb2];rfl
 have f1:w2.frozen? ⟨b,1,none⟩=false:=Lib.frozen_of_heap hb2 1;obtain⟨ao,n',cap,rfl⟩:∃ao n' cap,v'=.slice ao n' cap:=by
  rcases hown'.2 with⟨hv,_⟩ |⟨g,cap,cur,fz,hv,_⟩
  ·exact⟨_,_,_,hv⟩
  ·exact⟨_,_,_,hv⟩
 go_wp2_with fail;go_ret2;refine⟨rfl,Or.inr ?_,?_,(hk1.grown hgrow (Lib.ownsRowF_kind hown)).setCell ⟨b,1,none⟩ rfl _⟩
 ·exact Lib.BuilderAtF.put (T:=159) (e:=5) hB hb2 (bs':=bs++Lib.strCells s) (by simpa[Lib.strCells_length] using hown') (by decide)
 ·exact(hb1.grown hgrow (by have:=hb1.size;omega) (fun k hk=>(hown.lt k hk).1)).setCell (p:=⟨b,1,none⟩) hB _
def stringRen:Go.Shelf.Ren:=⟨fun |169=>77 |n=>n,fun |70=>157 |9=>9 |0=>0 |72=>159 |37=>47 |127=>226 |3=>3 |5=>5 |n=>n,fun |n=>n⟩
theorem stringLays:Go.Proofs.Lays.n169 Tryz.prog stringRen:={
 mixed:=by kernel_rfl
 f169:=Tryz.func77.trans (congrArg some (by kernel_rfl))
 t0:=Tryz.underlying0
 a0:=Tryz.isAgg0
 z0:=Tryz.sizeOf0
 v0:=Tryz.zeroValue0
 t3:=Tryz.underlying3
 a3:=Tryz.isAgg3
 z3:=Tryz.sizeOf3
 v3:=Tryz.zeroValue3
 t9:=Tryz.underlying9
 a9:=Tryz.isAgg9
 z9:=Tryz.sizeOf9
 v9:=Tryz.zeroValue9
 t37:=Tryz.underlying47
 a37:=Tryz.isAgg47
 z37:=Tryz.sizeOf47
 v37:=Tryz.zeroValue47
 t70:=Tryz.underlying157
 a70:=Tryz.isAgg157
 z70:=Tryz.sizeOf157
 v70:=Tryz.zeroValue157
 t72:=Tryz.underlying159
 a72:=Tryz.isAgg159
 z72:=Tryz.sizeOf159
 v72:=Tryz.zeroValue159
 t127:=Tryz.underlying226
 a127:=Tryz.isAgg226
 z127:=Tryz.sizeOf226
 v127:=Tryz.zeroValue226}
theorem stringExtra:Builder.Extra Tryz.prog stringRen:={
 sizeBuilder:=by kernel_rfl
 liesBuilder:=by kernel_rfl
 t5:=Tryz.underlying5
 a5:=Tryz.isAgg5
 z5:=Tryz.sizeOf5
 v5:=Tryz.zeroValue5
 infoByte:=by kernel_rfl
 cellsByte:=by kernel_rfl
 sizeByte:=by kernel_rfl
 neB5:=by decide}
theorem builder_string_calls (B b:Nat) (l:List UInt8) (w:World) (h:IsB B b (Lib.byteCells l) w) (hBw:B≤w.heap.size):
  Calls Tryz.prog 77 #[.pointer (some ⟨b,0,none⟩)] w fun e w'=>e=.returned (.string (mkS l))∧(IsB B b (Lib.byteCells l) w'∧KeptB B b w w'):=Any.Builder_String_any_k stringLays stringExtra B b l w h hBw
end Go.Proofs.YtdkeiefgkgpcbaaGreatDoor
namespace Go.Proofs.YtdkeiefgkgpcbaaGreatDoor
open Go.RowKit
abbrev Blk:=Nat×Array Value×TypeId
structure St (S:List Nat) (w0 w:World) (L:List Blk):Prop where
 os:w.os=w0.os
 tape:w.tape=w0.tape
 output:w.output=w0.output
 size:w0.heap.size≤w.heap.size
 kept:∀k,k<w0.heap.size→k∉S→w.heap[k]? =w0.heap[k]?
 own:∀p∈L,w0.heap.size≤p.1∨p.1∈S
 nodup:(L.map (·.1)).Nodup
 blk:∀p∈L,w.heap[p.1]? =some (.cells p.2.1 p.2.2 (0,0))
theorem lt_of_heap' {w:World} {g:Nat} {o:Obj} (h:w.heap[g]? =some o):g<w.heap.size:=(Array.getElem?_eq_some_iff.1 h).1
theorem St.start (w:World):St [] w w []:=⟨rfl,rfl,rfl,Nat.le_refl _,fun _ _ _=>rfl,fun _ h=>by simp at h,by simp,fun _ h=>by simp at h⟩
theorem St.lt {S:List Nat} {w0 w:World} {L:List Blk} (h:St S w0 w L):∀p∈L,p.1<w.heap.size:=fun p hp=>lt_of_heap' (h.blk p hp)
theorem St.below {S:List Nat} {w0 w w':World} {L:List Blk} (h:St S w0 w L) (hb:Below w.heap.size w w'):St S w0 w' L:=
 ⟨hb.os.trans h.os,hb.tape.trans h.tape,hb.output.trans h.output,Nat.le_trans h.size hb.size,
  fun k hk hs=>(hb.block k (Nat.lt_of_lt_of_le hk h.size)).trans (h.kept k hk hs),h.own,h.nodup,fun p hp=>(hb.block _ (h.lt p hp)).trans (h.blk p hp)⟩
theorem St.end {w0 w:World} {L:List Blk} (h:St [] w0 w L):Below w0.heap.size w0 w:=⟨h.os,h.tape,h.output,h.size,fun k hk=>h.kept k hk (by simp)⟩
theorem St.belowNew {S:List Nat} {w0 w w':World} {L:List Blk} {b:Nat} {C:Array Value} {T:TypeId} (h:St S w0 w L) (hb:Below w.heap.size w w') (hs:w.heap.size≤b) (hg:w'.heap[b]? =some (.cells C T (0,0))):St S w0 w' ((b,C,T)::L) where
 os:=(h.below hb).os
 tape:=(h.below hb).tape
 output:=(h.below hb).output
 size:=(h.below hb).size
 kept:=(h.below hb).kept
 own p hp:=by
  rcases List.mem_cons.1 hp with rfl |h2
  ·exact Or.inl (Nat.le_trans h.size hs)
  ·exact h.own p h2
 nodup:=by
  simp only[List.map_cons,List.nodup_cons];refine⟨fun hm=>?_,h.nodup⟩;obtain⟨p,hp,he⟩:=List.mem_map.1 hm;have:=h.lt p hp;omega
 blk p hp:=by
  rcases List.mem_cons.1 hp with rfl |h2
  ·exact hg
  ·exact(h.below hb).blk p h2
theorem St.drop {S:List Nat} {w0 w:World} {p:Blk} {L:List Blk} (h:St S w0 w (p::L)):St S w0 w L:=
 ⟨h.os,h.tape,h.output,h.size,h.kept,fun q hq=>h.own q (by simp[hq]),(List.nodup_cons.1 h.nodup).2,fun q hq=>h.blk q (by simp[hq])⟩
theorem St.drop2 {S:List Nat} {w0 w:World} {p q:Blk} {L:List Blk} (h:St S w0 w (p::q::L)):St S w0 w (p::L):=
 ⟨h.os,h.tape,h.output,h.size,h.kept,fun r hr=>h.own r (by rcases List.mem_cons.1 hr with h |h<;>simp[h]),
  (by have:=h.nodup;simp at this ⊢;exact⟨this.1.2,this.2.2⟩),fun r hr=>h.blk r (by rcases List.mem_cons.1 hr with h |h<;>simp[h])⟩
theorem St.swap {S:List Nat} {w0 w:World} {p q:Blk} {L:List Blk} (h:St S w0 w (p::q::L)):St S w0 w (q::p::L):=
 ⟨h.os,h.tape,h.output,h.size,h.kept,fun r hr=>h.own r (by simp at hr ⊢;rcases hr with h |h |h<;>simp[h]),
  (by have:=h.nodup;simp at this ⊢;exact⟨⟨fun e=>this.1.1 e.symm,this.2.1⟩,this.1.2,this.2.2⟩),fun r hr=>h.blk r (by simp at hr ⊢;rcases hr with h |h |h<;>simp[h])⟩
theorem St.alloc {S:List Nat} {w0 w:World} {L:List Blk} (h:St S w0 w L) (C:Array Value) (T:TypeId):St S w0 (w.alloc (.cells C T)) ((w.heap.size,C,T)::L) where
 os:=h.os
 tape:=h.tape
 output:=h.output
 size:=by have:=h.size;simp;omega
 kept k hk hs:=(Below.heap_alloc _ _ _ (by have:=h.size;omega)).trans (h.kept k hk hs)
 own p hp:=by
  rcases List.mem_cons.1 hp with rfl |hp
  ·exact Or.inl h.size
  ·exact h.own p hp
 nodup:=by
  simp only[List.map_cons,List.nodup_cons];refine⟨fun hm=>?_,h.nodup⟩;obtain⟨p,hp,he⟩:=List.mem_map.1 hm;have:=h.lt p hp;omega
 blk p hp:=by
  rcases List.mem_cons.1 hp with rfl |hp
  ·exact heap_alloc_new _ _
  ·exact(Below.heap_alloc _ _ _ (h.lt p hp)).trans (h.blk p hp)
theorem heap_setRow_other (w:World) (g k:Nat) (cs:Array Value) (h:k≠g):(w.setRow g cs).heap[k]? =w.heap[k]? :=by
 simp only[World.setRow,Array.getElem?_modify];rw[if_neg (by omega)]
theorem St.write {S:List Nat} {w0 w:World} {g:Nat} {C C':Array Value} {T:TypeId} {L:List Blk} (h:St S w0 w ((g,C,T)::L)):St S w0 (w.setRow g C') ((g,C',T)::L) where
 os:=h.os
 tape:=h.tape
 output:=h.output
 size:=by rw[size_setRow];exact h.size
 kept k hk hs:=by
  rw[heap_setRow_other]
  ·exact h.kept k hk hs
  ·rintro rfl
   rcases h.own (k,C,T) (by simp) with h1 |h1
   ·simp at h1;omega
   ·exact hs h1
 own p hp:=by
  rcases List.mem_cons.1 hp with rfl |hp
  ·exact h.own (g,C,T) (by simp)
  ·exact h.own p (by simp[hp])
 nodup:=by simpa using h.nodup
 blk p hp:=by
  rcases List.mem_cons.1 hp with rfl |h2
  ·exact setRow_heap w g C C' T (0,0) (h.blk (g,C,T) (by simp))
  ·rw[heap_setRow_other]
   ·exact h.blk p (List.mem_cons_of_mem _ h2)
   ·intro e
    have:=h.nodup;simp only[List.map_cons,List.nodup_cons] at this;exact this.1 (List.mem_map.2 ⟨p,h2,e⟩)
class Upd (L:List Blk) (g:Nat) (C:outParam (Array Value)) (T:outParam TypeId) (C':Array Value) (L':outParam (List Blk)):Prop where
 mem:(g,C,T)∈L
 keys:L'.map (·.1)=L.map (·.1)
 upd:L.map (·.1)=L.map (·.1)→(L.map (·.1)).Nodup→∀p∈L',(p=(g,C',T))∨(p∈L∧p.1≠g)
class Has (L:List Blk) (g:Nat) (C:outParam (Array Value)) (T:outParam TypeId):Prop where
 mem:(g,C,T)∈L
instance Has.head {g:Nat} {C:Array Value} {T:TypeId} {L:List Blk}:Has ((g,C,T)::L) g C T:=⟨by simp⟩
instance (priority:=low) Has.tail {g:Nat} {C:Array Value} {T:TypeId} {p:Blk} {L:List Blk} [h:Has L g C T]:Has (p::L) g C T:=⟨by simp[h.mem]⟩
instance Upd.head {g:Nat} {C C':Array Value} {T:TypeId} {L:List Blk}:Upd ((g,C,T)::L) g C T C' ((g,C',T)::L) where
 mem:=by simp
 keys:=by simp
 upd _ hn p hp:=by
  rcases List.mem_cons.1 hp with rfl |h2
  ·exact Or.inl rfl
  ·refine Or.inr ⟨List.mem_cons_of_mem _ h2,?_⟩
   intro e;simp only[List.map_cons,List.nodup_cons] at hn;exact hn.1 (List.mem_map.2 ⟨p,h2,e⟩)
instance (priority:=low) Upd.tail {g:Nat} {C C':Array Value} {T:TypeId} {q:Blk} {L L':List Blk} [h:Upd L g C T C' L']:Upd (q::L) g C T C' (q::L') where
 mem:=by simp[h.mem]
 keys:=by simp[h.keys]
 upd _ hn p hp:=by
  rcases List.mem_cons.1 hp with rfl |hp
  ·refine Or.inr ⟨by simp,?_⟩
   intro e;simp only[List.map_cons,List.nodup_cons] at hn;exact hn.1 (List.mem_map.2 ⟨_,h.mem,e.symm⟩)
  ·rcases h.upd rfl (List.nodup_cons.1 hn).2 p hp with h1 |h1
   ·exact Or.inl h1
   ·exact Or.inr ⟨by simp[h1.1],h1.2⟩
theorem St.has {S:List Nat} {w0 w:World} {L:List Blk} (h:St S w0 w L) {g:Nat} {C:Array Value} {T:TypeId} [k:Has L g C T]:w.heap[g]? =some (.cells C T (0,0)):=h.blk _ k.mem
theorem St.upd {S:List Nat} {w0 w w':World} {L L':List Blk} {g:Nat} {C C':Array Value} {T:TypeId} (h:St S w0 w L) [u:Upd L g C T C' L'] (k:St [g] w w' [(g,C',T)]):St S w0 w' L' where
 os:=k.os.trans h.os
 tape:=k.tape.trans h.tape
 output:=k.output.trans h.output
 size:=Nat.le_trans h.size k.size
 kept j hj hs:=by
  refine(k.kept j (Nat.lt_of_lt_of_le hj h.size) ?_).trans (h.kept j hj hs);intro hm;obtain rfl:j=g:=by simpa using hm
  rcases h.own _ u.mem with h1 |h1
  ·simp at h1;omega
  ·exact hs h1
 own p hp:=by
  rcases u.upd rfl h.nodup p hp with rfl |⟨h1,_⟩
  ·exact h.own (g,C,T) u.mem
  ·exact h.own p h1
 nodup:=by rw[u.keys];exact h.nodup
 blk p hp:=by
  rcases u.upd rfl h.nodup p hp with rfl |⟨h1,h2⟩
  ·exact k.blk _ (by simp)
  ·rw[k.kept _ (h.lt p h1) (by simpa using h2)]
   exact h.blk p h1
theorem St.enter {S:List Nat} {w0 w:World} {L:List Blk} {g:Nat} {C:Array Value} {T:TypeId} (h:St S w0 w L) [k:Has L g C T]:St [g] w w [(g,C,T)]:=
 ⟨rfl,rfl,rfl,Nat.le_refl _,fun _ _ _=>rfl,fun p hp=>by simp at hp;subst hp;exact Or.inr (by simp),by simp,fun p hp=>by simp at hp;subst hp;exact h.has⟩
theorem St.write1 {w:World} {g:Nat} {C C':Array Value} {T:TypeId} (h:w.heap[g]? =some (.cells C T (0,0))):St [g] w (w.setRow g C') [(g,C',T)]:=
 (St.write (C:=C) ⟨rfl,rfl,rfl,Nat.le_refl _,fun _ _ _=>rfl,fun p hp=>by simp at hp;subst hp;exact Or.inr (by simp),by simp,fun p hp=>by simp at hp;subst hp;exact h⟩)
def wr:Array Value→Nat→List Value→Array Value
 |C,_,[]=>C
 |C,off,v::vs=>wr (C.setIfInBounds off v) (off+1) vs
class CellAt (C:Array Value) (i:Nat) (v:outParam Value):Prop where eq:C[i]? =some v
class PartAt (C:Array Value) (off n:Nat) (cs:outParam (List Value)):Prop where
 len:cs.length=n
 eq:∀j v,cs[j]? =some v→C[off+j]? =some v
class WrAt (C:Array Value) (off:Nat) (n:Nat) (v:Value) (C':outParam (Array Value)):Prop where
 len:v.cells.size=n
 fits:off+v.cells.size≤C.size
 one:∀x∈v.cells.toList,x.oneCell'=true
 eq:wr C off v.cells.toList=C'
class OneT (T:TypeId):Prop where
 agg:∀w,(isAgg T).run Tryz.prog w=.ok false w
 size:(Tryz.prog.info? T).map (·.size)=some 1
class AggT (T:TypeId) (n:outParam Nat):Prop where
 agg:∀w,(isAgg T).run Tryz.prog w=.ok true w
 size:(Tryz.prog.info? T).map (·.size)=some n
class SizeT (T:TypeId) (n:outParam Nat):Prop where size:(Tryz.prog.info? T).map (·.size)=some n
instance {T:TypeId} [h:OneT T]:SizeT T 1:=⟨h.size⟩
instance {T:TypeId} {n:Nat} [h:AggT T n]:SizeT T n:=⟨h.size⟩
theorem run_size {T:TypeId} {n:Nat} (h:(Tryz.prog.info? T).map (·.size)=some n) (w:World):(sizeOf T).run Tryz.prog w=.ok n w:=by
 cases hq:Tryz.prog.info? T with
 |none=>simp[hq] at h
 |some i=>
  have:i.size=n:=by simpa[hq] using h
  simp[sizeOf,typeInfo,hq,this]
theorem addr_add (g off j:Nat):(⟨g,off,none⟩:Addr).add j=⟨g,off+j,none⟩:=by
 unfold Addr.add;split
 ·rename_i h;subst h;rfl
 ·rfl
theorem run_loadVar_one {w:World} {g off:Nat} {T Tb:TypeId} {C:Array Value} {v:Value} {fz:Nat×Nat} (ha:(isAgg T).run Tryz.prog w=.ok false w) (hg:w.heap[g]? =some (.cells C Tb fz)) (hv:C[off]? =some v):
  (loadVar T ⟨g,off,none⟩).run Tryz.prog w=.ok v w:=by
 have hc:w.cell? ⟨g,off,none⟩=some v:=by rw[cell_of_row w g off C Tb fz hg];exact hv
 simp[loadVar,Sem.run_bind,ha,hc]
theorem run_loadVar_agg {w:World} {g off:Nat} {T Tb:TypeId} {C:Array Value} {cs:List Value} {fz:Nat×Nat} (ha:(isAgg T).run Tryz.prog w=.ok true w) (hs:(Tryz.prog.info? T).map (·.size)=some cs.length)
  (hg:w.heap[g]? =some (.cells C Tb fz)) (hv:∀j v,cs[j]? =some v→C[off+j]? =some v):
  (loadVar T ⟨g,off,none⟩).run Tryz.prog w=.ok (.agg cs.toArray) w:=by
 have hl:=run_loadCells_list (P:=Tryz.prog) w ⟨g,off,none⟩ cs (fun j v hj=>by
  rw[addr_add,cell_of_row w g _ C Tb fz hg]
  exact hv j v hj)
 simp[loadVar,Sem.run_bind,ha,run_size hs,hl]
theorem setRow_self (w:World) (g:Nat) (C:Array Value) (T:TypeId) (hg:w.heap[g]? =some (.cells C T (0,0))):w.setRow g C=w:=by
 have hlt:=lt_of_heap' hg;have hv:w.heap[g]=.cells C T (0,0):=(Array.getElem?_eq_some_iff.1 hg).2;unfold World.setRow
 cases w with
 |mk heap tape drawn os output=>
  congr 1;apply Array.ext
  ·simp
  ·intro k h1 h2
   simp only[Array.getElem_modify];split
   ·rename_i hk;subst hk;simp at hv;simp[hv]
   ·rfl
theorem run_storeCells_at (g off:Nat) (T:TypeId):∀(vs:List Value) (i:Nat) (C:Array Value) (w:World),w.heap[g]? =some (.cells C T (0,0))→off+i+vs.length≤C.size→(∀v∈vs,v.oneCell'=true)→
  (storeCells ⟨g,off,none⟩ vs i).run Tryz.prog w=.ok () (w.setRow g (wr C (off+i) vs))
 | [],i,C,w,hg,_,_=>by
  simp only[storeCells,wr,setRow_self w g C T hg];rfl
 |v::vs,i,C,w,hg,hl,h1=>by
  have hi:off+i<C.size:=by simp at hl;omega
  have hcell:w.cell? ⟨g,off+i,none⟩=some C[off+i]:=by simp[World.cell?,hg,hi]
  have hfro:w.frozen? ⟨g,off+i,none⟩=false:=by simp[World.frozen?,hg]
  have hst:(store ((⟨g,off,none⟩:Addr).add i) v).run Tryz.prog w=.ok () (w.setRow g (C.setIfInBounds (off+i) v)):=by
   rw[addr_add,run_store Tryz.prog w _ v _ (h1 v (by simp)),hcell];simp[hfro,setCell_eq_setRow w g _ C T (0,0) v hg]
  have ih:=run_storeCells_at g off T vs (i+1) (C.setIfInBounds (off+i) v) (w.setRow g (C.setIfInBounds (off+i) v)) (setRow_heap w g C _ T _ hg) (by simp at hl ⊢;omega) (fun x hx=>h1 x (by simp[hx]));simp only[storeCells,Sem.run_bind,hst,Result.andThen_ok,ih,setRow_setRow,wr,Nat.add_assoc]
theorem run_storeVar_at {w:World} {g off n:Nat} {T Tb:TypeId} {C C':Array Value} {v:Value} (hs:(Tryz.prog.info? T).map (·.size)=some n) (hg:w.heap[g]? =some (.cells C Tb (0,0))) (hw:WrAt C off n v C'):
  (storeVar T ⟨g,off,none⟩ v).run Tryz.prog w=.ok () (w.setRow g C'):=by
 have h:=run_storeCells_at g off Tb v.cells.toList 0 C w hg (by have:=hw.fits;simp;omega) hw.one;rw[Nat.add_zero,hw.eq] at h;have hn:¬v.cells.size≠n:=fun h=>h hw.len
 unfold storeVar;rw[Sem.run_bind,run_size hs,Result.andThen_ok,if_neg hn];exact h
section
variable {ops:Array Oper} {rest:List Oper} {o:Oper} {a:Act} {w:World} {Q:Exit→Act→World→Prop} {S:List Nat} {w0:World} {L:List Blk}
theorem wpList_ld (hw:Region.wanted o (yielded ops a.tmps)=true) (T:TypeId) (x:Operand) (ho:o.op=.load T x) (g off:Nat) (hx:a.eval x=.pointer (some ⟨g,off,none⟩)) (h:St S w0 w L)
  {C:Array Value} {Tb:TypeId} {v:Value} [t:OneT T] [k:Has L g C Tb] [c:CellAt C off v]
  (hk:wpList Tryz.prog ops Q rest (a.put o.dst v) w):wpList Tryz.prog ops Q (o::rest) a w:=
 BigFrame.wpList_want hw fun K hK=>by
  unfold Oper.wp execOp;simp only[ho,hx,Instr.loadAt,Instr.sureAddr,Sem.run_bind,Sem.run_pure,Result.andThen_ok,run_loadVar_one (t.agg w) h.has c.eq];exact hK _ _ hk
theorem wpList_lda (hw:Region.wanted o (yielded ops a.tmps)=true) (T:TypeId) (x:Operand) (ho:o.op=.load T x) (g off:Nat) (hx:a.eval x=.pointer (some ⟨g,off,none⟩)) (h:St S w0 w L)
  {C:Array Value} {Tb:TypeId} {n:Nat} {cs:List Value} [t:AggT T n] [k:Has L g C Tb] [c:PartAt C off n cs]
  (hk:wpList Tryz.prog ops Q rest (a.put o.dst (.agg cs.toArray)) w):wpList Tryz.prog ops Q (o::rest) a w:=
 BigFrame.wpList_want hw fun K hK=>by
  unfold Oper.wp execOp;simp only[ho,hx,Instr.loadAt,Instr.sureAddr,Sem.run_bind,Sem.run_pure,Result.andThen_ok,run_loadVar_agg (t.agg w) (by rw[c.len];exact t.size) h.has c.eq];exact hK _ _ hk
theorem wpList_st (hw:Region.wanted o (yielded ops a.tmps)=true) (T:TypeId) (x y:Operand) (ho:o.op=.store T x y) (g off:Nat) (hx:a.eval x=.pointer (some ⟨g,off,none⟩)) (v:Value) (hy:a.eval y=v) (h:St S w0 w L)
  {C C':Array Value} {Tb:TypeId} {n:Nat} {L':List Blk} [t:SizeT T n] [k:Has L g C Tb] [c:WrAt C off n v C'] [u:Upd L g C Tb C' L']
  (hk:∀w',St S w0 w' L'→wpList Tryz.prog ops Q rest (a.put o.dst undef) w'):wpList Tryz.prog ops Q (o::rest) a w:=
 BigFrame.wpList_want hw fun K hK=>by
  unfold Oper.wp execOp;simp only[ho,hx,hy,Instr.storeAt,Instr.sureAddr,Sem.run_bind,Sem.run_pure,Result.andThen_ok,run_storeVar_at t.size h.has c];exact hK _ _ (hk _ (h.upd (St.write1 h.has)))
theorem wpList_stI (hw:Region.wanted o (yielded ops a.tmps)=true) (T:TypeId) (x y:Operand) (ho:o.op=.store T x y) (g off:Nat) (hx:a.eval x=.pointer (some ⟨g,off,none⟩)) (kk:IntKind) (xx:Int) (hy:a.eval y=.int kk xx) (h:St S w0 w L)
  {C C':Array Value} {Tb:TypeId} {n:Nat} {L':List Blk} [t:SizeT T n] [k:Has L g C Tb] [c:WrAt C off n (.int kk xx) C'] [u:Upd L g C Tb C' L']
  (hk:∀w',St S w0 w' L'→wpList Tryz.prog ops Q rest (a.put o.dst undef) w'):wpList Tryz.prog ops Q (o::rest) a w:=wpList_st hw T x y ho g off hx _ hy h hk
theorem wpList_stS (hw:Region.wanted o (yielded ops a.tmps)=true) (T:TypeId) (x y:Operand) (ho:o.op=.store T x y) (g off:Nat) (hx:a.eval x=.pointer (some ⟨g,off,none⟩)) (xx:ByteArray) (hy:a.eval y=.string xx) (h:St S w0 w L)
  {C C':Array Value} {Tb:TypeId} {n:Nat} {L':List Blk} [t:SizeT T n] [k:Has L g C Tb] [c:WrAt C off n (.string xx) C'] [u:Upd L g C Tb C' L']
  (hk:∀w',St S w0 w' L'→wpList Tryz.prog ops Q rest (a.put o.dst undef) w'):wpList Tryz.prog ops Q (o::rest) a w:=wpList_st hw T x y ho g off hx _ hy h hk
theorem wpList_stB (hw:Region.wanted o (yielded ops a.tmps)=true) (T:TypeId) (x y:Operand) (ho:o.op=.store T x y) (g off:Nat) (hx:a.eval x=.pointer (some ⟨g,off,none⟩)) (xx:Bool) (hy:a.eval y=.bool xx) (h:St S w0 w L)
  {C C':Array Value} {Tb:TypeId} {n:Nat} {L':List Blk} [t:SizeT T n] [k:Has L g C Tb] [c:WrAt C off n (.bool xx) C'] [u:Upd L g C Tb C' L']
  (hk:∀w',St S w0 w' L'→wpList Tryz.prog ops Q rest (a.put o.dst undef) w'):wpList Tryz.prog ops Q (o::rest) a w:=wpList_st hw T x y ho g off hx _ hy h hk
theorem wpList_stA (hw:Region.wanted o (yielded ops a.tmps)=true) (T:TypeId) (x y:Operand) (ho:o.op=.store T x y) (g off:Nat) (hx:a.eval x=.pointer (some ⟨g,off,none⟩)) (xx:Array Value) (hy:a.eval y=.agg xx) (h:St S w0 w L)
  {C C':Array Value} {Tb:TypeId} {n:Nat} {L':List Blk} [t:SizeT T n] [k:Has L g C Tb] [c:WrAt C off n (.agg xx) C'] [u:Upd L g C Tb C' L']
  (hk:∀w',St S w0 w' L'→wpList Tryz.prog ops Q rest (a.put o.dst undef) w'):wpList Tryz.prog ops Q (o::rest) a w:=wpList_st hw T x y ho g off hx _ hy h hk
theorem wpList_new (hw:Region.wanted o (yielded ops a.tmps)=true) (T:TypeId) (ho:o.op=.alloc T) (h:St S w0 w L) (z:Array Value) (hz:∀w:World,(zeroValue T).run Tryz.prog w=.ok (.agg z) w)
  (hk:∀(b:Nat) (w':World),St S w0 w' ((b,z,T)::L)→wpList Tryz.prog ops Q rest (a.put o.dst (.pointer (some ⟨b,0,none⟩))) w'):wpList Tryz.prog ops Q (o::rest) a w:=
 BigFrame.wpList_want hw fun K hK=>by
  have hr:(Instr.alloc T true (.tuple #[])).run Tryz.prog w=.ok (.pointer (some ⟨w.heap.size,0,none⟩)) (w.alloc (.cells z T)):=by
   unfold Instr.alloc;rw[Sem.run_bind,hz];rfl
  unfold Oper.wp execOp;simp only[ho,Sem.run_bind,hr,Result.andThen_ok];exact hK _ _ (hk _ _ (h.alloc z T))
theorem wpList_box (hw:Region.wanted o (yielded ops a.tmps)=true) (T:TypeId) (x:Operand) (ho:o.op=.box T x) (h:St S w0 w L) (C:Array Value) (hx:a.eval x=.agg C)
  (hk:∀(b:Nat) (w':World),St S w0 w' ((b,C,T)::L)→wpList Tryz.prog ops Q rest (a.put o.dst (.pointer (some ⟨b,0,none⟩))) w'):wpList Tryz.prog ops Q (o::rest) a w:=
 BigFrame.wpList_want hw fun K hK=>by
  have hr:(Instr.box T (.agg C)).run Tryz.prog w=.ok (.pointer (some ⟨w.heap.size,0,none⟩)) (w.alloc (.cells C T)):=rfl;unfold Oper.wp execOp;simp only[ho,hx,Sem.run_bind,hr,Result.andThen_ok];exact hK _ _ (hk _ _ (h.alloc C T))
end
section
variable {ops:Array Oper} {rest:List Oper} {o:Oper} {a:Act} {C:World→Prop} {Q:Act→Prop} {S:List Nat} {w0:World} {L:List Blk}
theorem wpQuiet_ld (hw:Region.wanted o (yielded ops a.tmps)=true) (T:TypeId) (x:Operand) (ho:o.op=.load T x) (g off:Nat) (hx:a.eval x=.pointer (some ⟨g,off,none⟩)) (h:∀w,C w→St S w0 w L)
  {D:Array Value} {Tb:TypeId} {v:Value} [t:OneT T] [k:Has L g D Tb] [c:CellAt D off v]
  (hk:wpQuiet Tryz.prog ops C Q rest (a.put o.dst v)):wpQuiet Tryz.prog ops C Q (o::rest) a:=
 BigFrame.wpQuiet_want hw fun K hK=>⟨v,fun w hC=>by
  unfold Oper.quietAt execOp;simp only[ho,hx,Instr.loadAt,Instr.sureAddr,Sem.run_bind,Sem.run_pure,Result.andThen_ok,run_loadVar_one (t.agg w) (h w hC).has c.eq]
  exact⟨rfl,rfl⟩,hK _ hk⟩
theorem wpQuiet_lda (hw:Region.wanted o (yielded ops a.tmps)=true) (T:TypeId) (x:Operand) (ho:o.op=.load T x) (g off:Nat) (hx:a.eval x=.pointer (some ⟨g,off,none⟩)) (h:∀w,C w→St S w0 w L)
  {D:Array Value} {Tb:TypeId} {n:Nat} {cs:List Value} [t:AggT T n] [k:Has L g D Tb] [c:PartAt D off n cs]
  (hk:wpQuiet Tryz.prog ops C Q rest (a.put o.dst (.agg cs.toArray))):wpQuiet Tryz.prog ops C Q (o::rest) a:=
 BigFrame.wpQuiet_want hw fun K hK=>⟨.agg cs.toArray,fun w hC=>by
  unfold Oper.quietAt execOp;simp only[ho,hx,Instr.loadAt,Instr.sureAddr,Sem.run_bind,Sem.run_pure,Result.andThen_ok,run_loadVar_agg (t.agg w) (by rw[c.len];exact t.size) (h w hC).has c.eq]
  exact⟨rfl,rfl⟩,hK _ hk⟩
end
theorem St.quiet {S:List Nat} {w0 w:World} {L:List Blk} (h:St S w0 w L):∀x,(∃n:Ix w,x=n.1)→St S w0 x L:=fun x ⟨n,e⟩=>by rw[e];exact h.below n.2
instance:OneT 3:=⟨fun w=>by kernel_rfl,by kernel_rfl⟩
instance:OneT 4:=⟨fun w=>by kernel_rfl,by kernel_rfl⟩
instance:OneT 9:=⟨fun w=>by kernel_rfl,by kernel_rfl⟩
instance:AggT 39 32:=⟨fun w=>by kernel_rfl,by kernel_rfl⟩
end Go.Proofs.YtdkeiefgkgpcbaaGreatDoor
