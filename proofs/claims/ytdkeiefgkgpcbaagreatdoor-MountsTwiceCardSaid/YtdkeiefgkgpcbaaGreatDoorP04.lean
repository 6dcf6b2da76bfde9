/- Steps of the proof: EncodeWalk, Reader, ReadField, Flow, ReadRecord. -/
import Derived.Orders
import Derived.Still
import Derived.Deep.Quiet
import Derived.Test.YtdkeiefgkgpcbaaGreatDoorP03
set_option linter.unusedVariables false
set_option linter.unusedSimpArgs false
set_option maxRecDepth 100000
namespace Go.Proofs.YtdkeiefgkgpcbaaGreatDoor
open Go.RowKit
set_option maxHeartbeats 4000000 in
set_option maxRecDepth 100000 in
theorem encode_calls (v:Value) (l:List Ent) (w:World) (hv:EntRow w v l) (hl:l.length≤1000000):
  Calls Tryz.prog 56 #[v] w fun r w'=>r=.returned (.tuple #[.string (mkS (encF l).1),.int .i64 (encF l).2])∧Below w.heap.size w w':=by
 obtain⟨a,cap,rfl,hwf,_,hcells⟩:=hv;have HW:=Lib.hid hwf;have HC:=Lib.hid hcells;have HE:Hid (encF l=if l.all checkB then(if l.length≤200 then(encBytes l,0) else([],3)) else([],2)):=Lib.hid rfl;generalize encF l=res at*;clear hwf hcells;go_enter Tryz.func56,Tryz.ntmps56;go_wp2_with fail;go_loopw [14] (fun iv wr=>∃k:Nat,k≤l.length∧iv=.int .i64 k∧Below w.heap.size w wr∧Hid (∀i (h:i<l.length),i<k→checkB l[i]=true)) (fun i _=>l.length-(intOf i).toNat)
 case atStart=>exact⟨0,by omega,rfl,Below.refl _ _,fun i h h2=>by omega⟩
 case round=>
  obtain⟨k,hk,rfl,hbel,hok⟩:=hrel
  by_cases hlt:k<l.length
  ·obtain⟨x,rfl,hcx⟩:=HC.out (by intro h;simp[h] at hlt)
   have hx0:x.block<w.heap.size:=by
    have h:=hcx k hlt 0 (by omega);have:=World.block_lt_of_cell? (w:=w) (a:=x.add (k*39+0)) (u:=.int .i64 l[k].kind) (by rw[h];rfl)
    rwa [add_block] at this
   have HCX:Hid (∀j,j<39→wr.cell? ((x.add (k*39)).add j)=(entC l[k])[j]?):=Lib.hid (fun j hj=>by
    rw[add_add2,hbel.cell (by rw[add_block];exact hx0)]
    exact hcx k hlt j hj)
   have hwk:=HW.out l[k] (List.getElem_mem hlt);have HWK:=Lib.hid hwk;have hst:=St.start wr
   have HS:Hid (checkB l[k]=true→∀i (h:i<l.length),i<k+1→checkB l[i]=true):=Lib.hid (fun h1 i hi h2=>by
    by_cases h3:i=k
    ·subst h3;exact h1
    ·exact hok.out i hi (by omega))
   have HN:Hid (checkB l[k]=false→l.all checkB=false):=Lib.hid (fun h1=>by
    rw[List.all_eq_false]
    exact⟨l[k],List.getElem_mem hlt,by simp[h1]⟩)
   clear hcx hwk hok;generalize l[k]=e at*
   go_wp2_with (first
    |(with_reducible refine wpList_lde rfl _ rfl _ rfl e HCX.out ?_)
    |(first|(with_reducible refine wpList_lda rfl _ _ rfl _ _ rfl (by assumption) ?_)|(with_reducible refine wpList_stA rfl _ _ _ rfl _ _ rfl _ rfl (by assumption) ?_;intro w' hst)|(with_reducible refine wpList_new rfl _ rfl (by assumption) _ zero_ent ?_;intro bn w' hst)))
   refine(check_calls e HWK.out _).mono ?_;rintro r w5 ⟨rfl,hb⟩;have h5:=belw hbel (hst.below hb).end;clear hb hst hbel HCX
   cases hc:checkB e
   ·have HR:Hid (res=([],2)):=Lib.hid (by rw[HE.out,HN.out hc];rfl)
    clear hc HN HS HE;unfold errOf;go_wp2_with fail;go_ret2;exact⟨by rw[HR.out];rfl,h5⟩
   ·have HS':Hid (∀i (h:i<l.length),i<k+1→checkB l[i]=true):=HS.out hc
    clear hc HN HS;unfold errOf;go_wp2_with fail;go_roundw
    case rel=>exact⟨k+1,by omega,by go_num,h5,HS'⟩
    case measure=>simp[intOf];omega
  ·obtain rfl:k=l.length:=by omega
   have hall:l.all checkB=true:=by
    rw[List.all_eq_true];intro e he;obtain⟨i,hi,rfl⟩:=List.mem_iff_getElem.1 he;exact hok.out i hi hi
   have HALL:=Lib.hid hall;clear hok hall hk hlt
   by_cases h200:l.length≤200
   case neg=>
    have HR:Hid (res=([],3)):=Lib.hid (by rw[HE.out,HALL.out,if_pos rfl,if_neg h200]);have f1:decide ((200:Int)<(l.length:Int))=true:=by simp;omega
    clear HE HALL h200;go_wp2_with fail;go_ret2;exact⟨by rw[HR.out];rfl,hbel⟩
   case pos=>
    have HR:Hid (res=(encBytes l,0)):=Lib.hid (by rw[HE.out,HALL.out,if_pos rfl,if_pos h200]);have f1:decide ((200:Int)<(l.length:Int))=false:=by simp;omega
    have HNE:Hid (∀e∈l,fieldsL e.kind≠[]):=Lib.hid (fun e he h=>by
     have:=List.all_eq_true.1 HALL.out e he
     simp[checkB,h] at this)
    clear HE HALL;have hst:=St.start wr;go_wp2_with (with_reducible refine wpList_new rfl _ rfl hst _ zero_builder ?_;intro b wb hsb);have hB0:w.heap.size≤wr.heap.size:=hbel.size;have hbb:=belw hbel hsb.end;have hsz:=hsb.size;have hib:=IsB.fresh hsb;generalize wr.heap.size=B at hib hB0 hsz;clear hsb hst hbel;refine(put_any _ _ (by omega) _).mono ?_;rintro r w1 ⟨rfl,hb⟩;have h1:=belw hbb hb;have hi1:=hib.old hb;have hs1:=hb.size;clear hb hib hbb;go_wp2_with fail;refine(write_calls B b [] _ w1 hi1 (by have:=putF_size (l.length:Int) 2;simp;omega) (by omega)).mono ?_;rintro r w2 ⟨rfl,hi2,hk2⟩;have h2:=h1.trans (hk2.1.mono hB0);have hs2:=hk2.1.size;clear h1 hi1 hk2;rw[List.nil_append] at hi2;go_wp2_with fail;go_loopw [33] (fun iv wr=>∃k:Nat,k≤l.length∧iv=.int .i64 k∧Below w.heap.size w wr∧B≤wr.heap.size∧Hid (IsB B b (Lib.byteCells (putL l.length 2++(l.take k).flatMap entBytes)) wr)) (fun i _=>l.length-(intOf i).toNat)
    case atStart=>exact⟨0,by omega,rfl,h2,by omega,by rw[List.take_zero,List.flatMap_nil,List.append_nil];exact hi2⟩
    case round=>
     obtain⟨k,hk,rfl,hbel,hBw,hib⟩:=hrel
     by_cases hlt:k<l.length
     ·obtain⟨x,rfl,hcx⟩:=HC.out (by intro h;simp[h] at hlt)
      have hx0:x.block<w.heap.size:=by
       have h:=hcx k hlt 0 (by omega);have:=World.block_lt_of_cell? (w:=w) (a:=x.add (k*39+0)) (u:=.int .i64 l[k].kind) (by rw[h];rfl)
       rwa [add_block] at this
      have HCX:Hid (∀j,j<39→wr.cell? ((x.add (k*39)).add j)=(entC l[k])[j]?):=Lib.hid (fun j hj=>by
       rw[add_add2,hbel.cell (by rw[add_block];exact hx0)]
       exact hcx k hlt j hj)
      have HWK:=Lib.hid (HW.out l[k] (List.getElem_mem hlt));have hne:=HNE.out l[k] (List.getElem_mem hlt);have hst:=St.start wr;have HT:Hid ((l.take (k+1)).flatMap entBytes=(l.take k).flatMap entBytes++entBytes l[k]):=Lib.hid (by rw[List.take_succ_eq_append_getElem hlt,List.flatMap_append];simp)
      have HL:Hid ((putL l.length 2++(l.take k).flatMap entBytes).length≤39323808):=Lib.hid (by
       have h1:=putL_len l.length 2;have h2:=ents_len (l:=l.take k) (fun e he=>(HW.out e (List.mem_of_mem_take he)).hash);have h3:(l.take k).length≤200:=by simp;omega
       rw[List.length_append]
       omega)
      generalize (l.take k).flatMap entBytes=pre at*;generalize hp0:putL l.length 2=p0 at*;clear hcx;generalize l[k]=e at*
      go_wp2_with (first
       |(with_reducible refine wpList_lde rfl _ rfl _ rfl e HCX.out ?_)
       |(first|(with_reducible refine wpList_ld rfl _ _ rfl _ _ rfl (by assumption) ?_)|(with_reducible refine wpList_stA rfl _ _ _ rfl _ _ rfl _ rfl (by assumption) ?_;intro w' hst)|(with_reducible refine wpList_new rfl _ rfl (by assumption) _ zero_ent ?_;intro bn w' hst)))
      refine(put_any _ _ HWK.out.kind.2 _).mono ?_;rintro r w5 ⟨rfl,hb⟩;have hs5:=hst.below hb;have hb5:=belw hbel hs5.end;have hi5:IsB B b (Lib.byteCells (p0++pre)) w5:=hib.out.old hs5.end;have hz5:B≤w5.heap.size:=Nat.le_trans hBw hs5.end.size;clear hb hst hbel hib HCX;go_wp2_with fail;refine(write_calls B b _ _ w5 hi5 (by have:=putF_size e.kind 1;have:=HL.out;omega) hz5).mono ?_;rintro r w6 ⟨rfl,hi6,hk6⟩;have hs6:=hs5.beside hk6 hi5.block (by intro p hp;simp at hp;subst hp;exact⟨by simp,by simp⟩);have hb6:=hb5.trans (hk6.1.mono hB0);have hz6:B≤w6.heap.size:=Nat.le_trans hz5 hk6.1.size;clear hk6 hi5 hs5 hb5 hz5;go_wp2_with (with_reducible refine wpList_ld rfl _ _ rfl _ _ rfl (by assumption) ?_);refine(fields_calls e.kind _).mono ?_;rintro r w7 ⟨⟨v,rfl,hf⟩,hb⟩;have HEB:Hid (entBytes e=putL e.kind 1++(fieldsL e.kind).flatMap (fieldBytes e)):=Lib.hid rfl;have HFR:=Lib.hid (fieldsL_range e.kind);have hl3:=fieldsL_len e.kind;generalize fieldsL e.kind=fl at*;rcases hf with⟨hl0,rfl⟩ |⟨_,bF,rfl,hszF,hblk⟩
      ·exact absurd hl0 hne
      ·have hs7:=(hs6.belowNew hb hszF hblk).rebase
       have hb7:=belw hb6 hb;have hi7:=hi6.old hb;have hz7:B≤w7.heap.size:=Nat.le_trans hz6 hb.size;clear hblk hb hszF hs6 hb6 hi6 hz6;go_wp2_with fail;go_loopw [45] (fun jv wq=>∃j:Nat,j≤fl.length∧jv=.int .i64 j∧Below w.heap.size w wq∧B≤wq.heap.size∧Hid (IsB B b (Lib.byteCells ((p0++pre)++(putL e.kind 1++(fl.take j).flatMap (fieldBytes e)))) wq)∧St [bF,bn] wq wq [(bF,(fl.map (Value.int .i64)).toArray,195),(bn,entC e,66)]) (fun i _=>fl.length-(intOf i).toNat)
       case atStart=>exact⟨0,by omega,rfl,hb7,hz7,by rw[List.take_zero,List.flatMap_nil,List.append_nil];exact hi7,hs7⟩
       case round=>
        obtain⟨j,hj,rfl,hbq,hzq,hiq,hsq⟩:=hrel
        by_cases hjl:j<fl.length
        ·have hcell:=cell_field fl j hjl
         have hf4:=HFR.out fl[j] (List.getElem_mem hjl);have HTJ:Hid ((fl.take (j+1)).flatMap (fieldBytes e)=(fl.take j).flatMap (fieldBytes e)++fieldBytes e fl[j]):=Lib.hid (by rw[List.take_succ_eq_append_getElem hjl,List.flatMap_append];simp)
         have HLJ:Hid (((fl.take j).flatMap (fieldBytes e)).length≤196611):=Lib.hid (by
          have h1:=flat_len (l:=fl.take j) HWK.out.hash;have h2:(fl.take j).length≤3:=by simp;omega
          omega)
         generalize (fl.take j).flatMap (fieldBytes e)=mid at*;generalize fl[j]=f at*;go_wp2_with (first|(with_reducible refine wpList_ld rfl _ _ rfl _ _ rfl (by assumption) ?_)|(with_reducible refine wpList_lda rfl _ _ rfl _ _ rfl (by assumption) ?_));refine(fieldput_calls f e hf4 HWK.out _).mono ?_;rintro r w8 ⟨rfl,hb⟩;have hs8:=hsq.below hb;have hb8:=belw hbq hb;have hi8:=hiq.out.old hb;have hz8:B≤w8.heap.size:=Nat.le_trans hzq hb.size;clear hb hsq hbq hiq hzq;go_wp2_with fail
         refine(write_calls B b _ _ w8 hi8 (by
          have h1:=fieldBytes_len e HWK.out.hash f;have h2:=HLJ.out;have h3:=HL.out;have h4:=putL_len e.kind 1;rw[size_mkS];simp only[List.length_append] at h3 ⊢
          omega) hz8).mono ?_
         rintro r w9 ⟨rfl,hi9,hk9⟩;have hs9:=hs8.beside hk9 hi8.block (by intro p hp;simp at hp;rcases hp with rfl |rfl<;>exact⟨by simp,by simp⟩);have hb9:=hb8.trans (hk9.1.mono hB0);have hz9:B≤w9.heap.size:=Nat.le_trans hz8 hk9.1.size;clear hk9 hi8 hs8 hb8 hz8;go_wp2_with fail;go_roundw
         case rel=>exact⟨j+1,by omega,by go_num,hb9,hz9,by rw[HTJ.out];rw[ls_mkS] at hi9;exact Lib.hid (by simpa[List.append_assoc] using hi9),hs9⟩
         case measure=>simp[intOf];omega
        ·obtain rfl:j=fl.length:=by omega
         rw[List.take_length] at hiq;go_wp2_with fail;go_roundw
         case rel=>exact⟨k+1,by omega,by go_num,hbq,hzq,by rw[HT.out,HEB.out];have:=hiq.out;exact Lib.hid (by simpa[List.append_assoc] using this)⟩
         case measure=>simp[intOf];omega
     ·obtain rfl:k=l.length:=by omega
      rw[List.take_length] at hib;go_wp2_with fail;refine(builder_string_calls B b _ wr hib.out hBw).mono ?_;rintro r w5 ⟨rfl,hi5,hk5⟩;go_wp2_with fail;go_ret2;exact⟨by rw[HR.out];rfl,hbel.trans (hk5.1.mono hB0)⟩
end Go.Proofs.YtdkeiefgkgpcbaaGreatDoor
namespace Go.Proofs.YtdkeiefgkgpcbaaGreatDoor
open Go.RowKit
def readC (s:ByteArray) (a:Int) (bad:Bool):Array Value:=#[.string s,.int .i64 a,.bool bad]
instance:AggT 219 3:=⟨fun w=>by kernel_rfl,by kernel_rfl⟩
instance (s:ByteArray) (a:Int) (bad:Bool):CellAt (readC s a bad) 0 (.string s):=⟨rfl⟩
instance (s:ByteArray) (a:Int) (bad:Bool):CellAt (readC s a bad) 1 (.int .i64 a):=⟨rfl⟩
instance (s:ByteArray) (a:Int) (bad:Bool):CellAt (readC s a bad) 2 (.bool bad):=⟨rfl⟩
instance (s:ByteArray) (a x:Int) (bad:Bool):WrAt (readC s a bad) 1 1 (.int .i64 x) (readC s x bad):=wr_one _ _ _ _ rfl rfl (Nat.le_of_ble_eq_true rfl) rfl
instance (s:ByteArray) (a:Int) (bad x:Bool):WrAt (readC s a bad) 2 1 (.bool x) (readC s a x):=wr_one _ _ _ _ rfl rfl (Nat.le_of_ble_eq_true rfl) rfl
def numN (s:ByteArray) (a b:Int):Int:=match getF s a b with |some (n,_)=>n |none=>0
def numA (s:ByteArray) (a b:Int):Int:=match getF s a b with |some (_,x)=>x |none=>0
def numOk (s:ByteArray) (a b:Int):Bool:=(getF s a b).isSome
theorem getV_num (s:ByteArray) (a b:Int):getV (getF s a b)=.tuple #[.int .i64 (numN s a b),.int .i64 (numA s a b),.bool (numOk s a b)]:=by
 unfold numN numA numOk
 cases getF s a b with
 |none=>rfl
 |some x=>obtain⟨n,y⟩:=x;rfl
theorem get_calls3 (s:ByteArray) (a b:Int) (hs:s.size≤maxLen) (w:World):
  Calls Tryz.prog 150 #[.string s,.int .i64 a,.int .i64 b] w fun e w'=>e=.returned (.tuple #[.int .i64 (numN s a b),.int .i64 (numA s a b),.bool (numOk s a b)])∧w=w':=by
 rw[←getV_num];exact get_any s a b hs w
set_option maxHeartbeats 4000000 in
set_option maxRecDepth 100000 in
theorem number_calls (g:Nat) (s:ByteArray) (a b:Int) (bad:Bool) (hs:s.size≤maxLen) (w:World) (hg:w.heap[g]? =some (.cells (readC s a bad) 219 (0,0))):
  Calls Tryz.prog 121 #[.pointer (some ⟨g,0,none⟩),.int .i64 b] w fun r w'=>r=.returned (.int .i64 (numN s a b))∧St [g] w w' [(g,readC s (numA s a b) (bad|| !numOk s a b),219)]:=by
 have hst:St [g] w w [(g,readC s a bad,219)]:=⟨rfl,rfl,rfl,Nat.le_refl _,fun _ _ _=>rfl,fun p hp=>by simp at hp;subst hp;exact Or.inr (by simp),by simp,fun p hp=>by simp at hp;subst hp;exact hg⟩;clear hg;have C1:=Lib.hid (get_calls3 s a b hs);generalize numN s a b=n at*;generalize numA s a b=x at*;generalize numOk s a b=ok at*;go_enter Tryz.func121,Tryz.ntmps121;go_wp2_with fail;have hq:=hst.quiet;refine wp_region_below_lit (by kernel_rfl) (by kernel_rfl) ?_
 repeat(first
  |(with_reducible refine wpQuiet_ld rfl _ _ rfl _ _ rfl hq ?_;simp only[Act.put,List.setIfInBounds_toArray,List.set_cons_succ,List.set_cons_zero])
  |go_big_quiet_step ((go_at_call 150;with_reducible exact Calls.below_of_same (C1.out _))))
 refine wpQuiet_nil ?_;intro wq hwq;have h1:=hq wq hwq;clear hq hwq hst
 cases bad
 ·cases ok
  ·go_wp2_with (first|(with_reducible refine wpList_ld rfl _ _ rfl _ _ rfl (by assumption) ?_)|(with_reducible refine wpList_stI rfl _ _ _ rfl _ _ rfl _ _ rfl (by assumption) ?_;intro w' hst)|(with_reducible refine wpList_stB rfl _ _ _ rfl _ _ rfl _ rfl (by assumption) ?_;intro w' hst))
   go_ret;exact⟨rfl,hst⟩
  ·go_wp2_with (first|(with_reducible refine wpList_ld rfl _ _ rfl _ _ rfl (by assumption) ?_)|(with_reducible refine wpList_stI rfl _ _ _ rfl _ _ rfl _ _ rfl (by assumption) ?_;intro w' hst)|(with_reducible refine wpList_stB rfl _ _ _ rfl _ _ rfl _ rfl (by assumption) ?_;intro w' hst))
   go_ret;exact⟨rfl,hst⟩
 ·go_wp2_with (first|(with_reducible refine wpList_ld rfl _ _ rfl _ _ rfl (by assumption) ?_)|(with_reducible refine wpList_stI rfl _ _ _ rfl _ _ rfl _ _ rfl (by assumption) ?_;intro w' hst)|(with_reducible refine wpList_stB rfl _ _ _ rfl _ _ rfl _ rfl (by assumption) ?_;intro w' hst))
  go_ret;exact⟨rfl,hst⟩
end Go.Proofs.YtdkeiefgkgpcbaaGreatDoor
namespace Go.Proofs.YtdkeiefgkgpcbaaGreatDoor
open Go.RowKit
def textN (s:ByteArray) (a:Int):ByteArray:=match getTextF s a with |some (l,_)=>mkS l |none=>mkS []
def textA (s:ByteArray) (a:Int):Int:=match getTextF s a with |some (_,x)=>x |none=>0
def textOk (s:ByteArray) (a:Int):Bool:=(getTextF s a).isSome
theorem getTextV_eq (s:ByteArray) (a:Int):getTextV (getTextF s a)=.tuple #[.string (textN s a),.int .i64 (textA s a),.bool (textOk s a)]:=by
 unfold textN textA textOk
 cases getTextF s a with
 |none=>rfl
 |some x=>obtain⟨n,y⟩:=x;rfl
theorem get_text_calls3 (s:ByteArray) (a:Int) (hs:s.size≤maxLen) (w:World):
  Calls Tryz.prog 151 #[.string s,.int .i64 a] w fun e w'=>e=.returned (.tuple #[.string (textN s a),.int .i64 (textA s a),.bool (textOk s a)])∧w=w':=by
 rw[←getTextV_eq];exact get_text_calls s a hs w
def two (g q:Nat) (s:ByteArray) (a:Int) (bad:Bool) (e:Ent):List Blk:=[(g,readC s a bad,219),(q,entC e,66)]
theorem two_start {g q:Nat} {s:ByteArray} {a:Int} {bad:Bool} {e:Ent} {w:World} (hg:w.heap[g]? =some (.cells (readC s a bad) 219 (0,0))) (hq:w.heap[q]? =some (.cells (entC e) 66 (0,0))):
  St [g,q] w w [(g,readC s a bad,219),(q,entC e,66)]:=by
 refine⟨rfl,rfl,rfl,Nat.le_refl _,fun _ _ _=>rfl,fun p hp=>?_,?_,fun p hp=>?_⟩
 ·simp at hp;rcases hp with rfl |rfl<;>exact Or.inr (by simp)
 ·simp
  rintro rfl;rw[hg] at hq;injection hq with hq
  injection hq with _ h2
  cases h2
 ·simp at hp;rcases hp with rfl |rfl
  ·exact hg
  ·exact hq
set_option maxHeartbeats 4000000 in
set_option maxRecDepth 100000 in
theorem readfield_stream (g q:Nat) (s:ByteArray) (a:Int) (bad:Bool) (e:Ent) (hs:s.size≤maxLen) (w:World) (hg:w.heap[g]? =some (.cells (readC s a bad) 219 (0,0))) (hq:w.heap[q]? =some (.cells (entC e) 66 (0,0))):
  Calls Tryz.prog 122 #[.pointer (some ⟨g,0,none⟩),.int .i64 0,.pointer (some ⟨q,0,none⟩)] w fun r w'=>r=.returned (.tuple #[])∧
   St [g,q] w w' [(g,readC s (numA s a 1) (bad|| !numOk s a 1),219),(q,entC {e with stream:=numN s a 1},66)]:=by
 have hst:=two_start hg hq;clear hg hq;go_enter Tryz.func122,Tryz.ntmps122;go_wp2_with fail;refine(number_calls g s a 1 bad hs w hst.has).mono ?_;rintro r w1 ⟨rfl,k⟩;have h1:=hst.upd k;clear k hst;go_wp2_with (with_reducible refine wpList_stI rfl _ _ _ rfl _ _ rfl _ _ rfl (by assumption) ?_;intro w' hst);go_end0;exact⟨rfl,hst⟩
set_option maxHeartbeats 4000000 in
set_option maxRecDepth 100000 in
theorem readfield_number (g q:Nat) (s:ByteArray) (a:Int) (bad:Bool) (e:Ent) (hs:s.size≤maxLen) (w:World) (hg:w.heap[g]? =some (.cells (readC s a bad) 219 (0,0))) (hq:w.heap[q]? =some (.cells (entC e) 66 (0,0))):
  Calls Tryz.prog 122 #[.pointer (some ⟨g,0,none⟩),.int .i64 1,.pointer (some ⟨q,0,none⟩)] w fun r w'=>r=.returned (.tuple #[])∧
   St [g,q] w w' [(g,readC s (numA s a 4) (bad|| !numOk s a 4),219),(q,entC {e with n:=numN s a 4},66)]:=by
 have hst:=two_start hg hq;clear hg hq;go_enter Tryz.func122,Tryz.ntmps122;go_wp2_with fail;refine(number_calls g s a 4 bad hs w hst.has).mono ?_;rintro r w1 ⟨rfl,k⟩;have h1:=hst.upd k;clear k hst;go_wp2_with (with_reducible refine wpList_stI rfl _ _ _ rfl _ _ rfl _ _ rfl (by assumption) ?_;intro w' hst);go_end0;exact⟨rfl,hst⟩
set_option maxHeartbeats 4000000 in
set_option maxRecDepth 100000 in
theorem readfield_name (g q:Nat) (s:ByteArray) (a:Int) (bad:Bool) (e:Ent) (hs:s.size≤maxLen) (w:World) (hg:w.heap[g]? =some (.cells (readC s a bad) 219 (0,0))) (hq:w.heap[q]? =some (.cells (entC e) 66 (0,0))):
  Calls Tryz.prog 122 #[.pointer (some ⟨g,0,none⟩),.int .i64 2,.pointer (some ⟨q,0,none⟩)] w fun r w'=>r=.returned (.tuple #[])∧
   St [g,q] w w' [(g,readC s (textA s a) (bad|| !textOk s a),219),(q,entC {e with name:=textN s a},66)]:=by
 have hst:=two_start hg hq;clear hg hq;have C1:=Lib.hid (get_text_calls3 s a hs);generalize textN s a=n at*;generalize textA s a=x at*;generalize textOk s a=ok at*;go_enter Tryz.func122,Tryz.ntmps122;go_wp2_with fail;have hq:=hst.quiet;refine wp_region_below_lit (by kernel_rfl) (by kernel_rfl) ?_
 repeat(first
  |(with_reducible refine wpQuiet_ld rfl _ _ rfl _ _ rfl hq ?_;simp only[Act.put,List.setIfInBounds_toArray,List.set_cons_succ,List.set_cons_zero])
  |go_big_quiet_step ((go_at_call 151;with_reducible exact Calls.below_of_same (C1.out _))))
 refine wpQuiet_nil ?_;intro wq hwq;have h1:=hq wq hwq;clear hq hwq hst
 cases bad
 ·cases ok
  ·go_wp2_with (first|(with_reducible refine wpList_ld rfl _ _ rfl _ _ rfl (by assumption) ?_)|(with_reducible refine wpList_stI rfl _ _ _ rfl _ _ rfl _ _ rfl (by assumption) ?_;intro w' hst)|(with_reducible refine wpList_stS rfl _ _ _ rfl _ _ rfl _ rfl (by assumption) ?_;intro w' hst)|(with_reducible refine wpList_stB rfl _ _ _ rfl _ _ rfl _ rfl (by assumption) ?_;intro w' hst))
   go_end0;exact⟨rfl,hst⟩
  ·go_wp2_with (first|(with_reducible refine wpList_ld rfl _ _ rfl _ _ rfl (by assumption) ?_)|(with_reducible refine wpList_stI rfl _ _ _ rfl _ _ rfl _ _ rfl (by assumption) ?_;intro w' hst)|(with_reducible refine wpList_stS rfl _ _ _ rfl _ _ rfl _ rfl (by assumption) ?_;intro w' hst)|(with_reducible refine wpList_stB rfl _ _ _ rfl _ _ rfl _ rfl (by assumption) ?_;intro w' hst))
   go_end0;exact⟨rfl,hst⟩
 ·go_wp2_with (first|(with_reducible refine wpList_ld rfl _ _ rfl _ _ rfl (by assumption) ?_)|(with_reducible refine wpList_stI rfl _ _ _ rfl _ _ rfl _ _ rfl (by assumption) ?_;intro w' hst)|(with_reducible refine wpList_stS rfl _ _ _ rfl _ _ rfl _ rfl (by assumption) ?_;intro w' hst)|(with_reducible refine wpList_stB rfl _ _ _ rfl _ _ rfl _ rfl (by assumption) ?_;intro w' hst))
  go_end0;exact⟨rfl,hst⟩
end Go.Proofs.YtdkeiefgkgpcbaaGreatDoor
namespace Go.Proofs.YtdkeiefgkgpcbaaGreatDoor
open Go.RowKit
structure Flow where
 S:List Nat
 w0:World
 B:World→Prop
 special:Nat→Bool
 pure:Nat→Bool
 late:Nat→Bool
def Flow.cls (F:Flow) (i:Nat) (w:World):Prop:=F.pure i=true∨F.B w
def XQ (C:World→Prop) (o:Oper) (a:Act) (v:Value):Prop:=∀w,C w→o.quietAt Tryz.prog a (fun x=>Below w.heap.size w x) w v
def YX (ops:Array Oper) (C:World→Prop) (o:Oper) (a:Act) (v:Value):Prop:=(Region.wanted o (yielded ops a.tmps)=true∧XQ C o a v)∨(Region.wanted o (yielded ops a.tmps)=false∧v=undef)
def SP (F:Flow) (L:List Blk) (s:Sem Next) (R:List Blk→Value→Prop):Prop:=
 ∀w,St F.S F.w0 w L→(∃u w' L',s.run Tryz.prog w=.ok (.value u) w'∧R L' u∧St F.S F.w0 w' L')∨(∃w' L',s.run Tryz.prog w=.ok .skip w'∧R L' undef∧St F.S F.w0 w' L')
def xdo (ops:Array Oper) (F:Flow) (i:Nat) (o:Oper) (K:List Blk→Act→Prop) (L:List Blk) (a:Act):Prop:=
 if F.special i=true then ∃R,SP F L (execOp a.eval o) R∧∀L' u,R L' u→(F.late i=true∨∀w,St F.S F.w0 w L'→F.B w)∧K L' (a.put o.dst u)
 else ∃v,YX ops (F.cls i) o a v∧(∀w,St F.S F.w0 w L→F.cls i w)∧K L (a.put o.dst v)
section
variable {ops:Array Oper} {F:Flow} {Qf:List Blk→Act→Prop}
def xstep (ops:Array Oper) (F:Flow) (i:Nat) (K:List Blk→Act→Prop) (L:List Blk) (a:Act):Prop:=
 match ops[i]? with
 |none=>False
 |some o=>xdo ops F i o K L a
theorem xdo_mono {i:Nat} {o:Oper} {K K':List Blk→Act→Prop} {L:List Blk} {a:Act} (h:∀L a,K L a→K' L a) (hh:xdo ops F i o K L a):xdo ops F i o K' L a:=by
 unfold xdo at*;split
 ·rename_i h1;rw[if_pos h1] at hh;exact⟨hh.choose,hh.choose_spec.1,fun L' u hr=>⟨(hh.choose_spec.2 L' u hr).1,h _ _ (hh.choose_spec.2 L' u hr).2⟩⟩
 ·rename_i h1;rw[if_neg h1] at hh;exact⟨hh.choose,hh.choose_spec.1,hh.choose_spec.2.1,h _ _ hh.choose_spec.2.2⟩
def wpX (ops:Array Oper) (F:Flow) (Qf:List Blk→Act→Prop):Nat→Array Bool→List Blk→Act→Prop
 |0,listed,L,a=>Region.ready .any ops listed=[]∧Qf L a
 |f+1,listed,L,a=>(Region.ready .any ops listed=[]→Qf L a)∧
  ∀i∈Region.ready .any ops listed,xstep ops F i (wpX ops F Qf f (listed.setIfInBounds i true)) L a
theorem XQ.wp {C:World→Prop} {o:Oper} {a:Act} {v:Value} {w:World} {K:Act→World→Prop} {Q':Exit→Act→World→Prop} (h:XQ C o a v) (hw:C w) (hK:∀w',Below w.heap.size w w'→K (a.put o.dst v) w'):o.wp Tryz.prog a w K Q':=by
 have h3:=h w hw;unfold Oper.quietAt at h3;unfold Oper.wp;generalize (execOp a.eval o).run Tryz.prog w=r at*
 cases r with
 |ok n w'=>
  cases n<;>simp only[Oper.quietUpon] at h3<;>simp only[Oper.upon]
  case value u=>
   obtain⟨e1,e2⟩:=h3;rw[e1,e2];exact hK _ (Below.refl _ _)
  case skip=>
   obtain⟨e1,e2⟩:=h3;rw[e1,←e2];exact hK _ (Below.refl _ _)
  case enter f args=>
   obtain⟨e1,hc⟩:=h3;rw[e1];exact hc.mono fun e w'' ⟨he,hw''⟩=>by subst he;exact hK _ hw''
 |halt x w'=>simp only[Oper.quietUpon] at h3
theorem XQ.put {C:World→Prop} {o:Oper} {a:Act} {v u:Value} {d:Option Tmp} (hs:∀cs b,o.op≠.select cs b) (hd:∀t,d=some t→t∉o.looksAt ops) (h:XQ C o a v):XQ C o (a.put d u) v:=fun w hw=>by
 have:=h w hw;unfold Oper.quietAt at*;rw[execOp_put o hs a d u hd];exact this
theorem XQ.unput {C:World→Prop} {o:Oper} {a:Act} {v u:Value} {d:Option Tmp} (hs:∀cs b,o.op≠.select cs b) (hd:∀t,d=some t→t∉o.looksAt ops) (h:XQ C o (a.put d u) v):XQ C o a v:=fun w hw=>by
 have:=h w hw;unfold Oper.quietAt at*;rw[execOp_put o hs a d u hd] at this;exact this
theorem YX.put {C:World→Prop} {o:Oper} {a:Act} {v u:Value} {d:Option Tmp} (hs:∀cs b,o.op≠.select cs b) (hd:∀t,d=some t→t∉o.looksAt ops) (h:YX ops C o a v):YX ops C o (a.put d u) v:=by
 unfold YX at*;rw[wanted_put o a d u hd];exact h.imp (fun k=>⟨k.1,k.2.put (ops:=ops) hs hd⟩) id
theorem YX.unput {C:World→Prop} {o:Oper} {a:Act} {v u:Value} {d:Option Tmp} (hs:∀cs b,o.op≠.select cs b) (hd:∀t,d=some t→t∉o.looksAt ops) (h:YX ops C o (a.put d u) v):YX ops C o a v:=by
 unfold YX at*;rw[wanted_put o a d u hd] at h;exact h.imp (fun k=>⟨k.1,k.2.unput (ops:=ops) hs hd⟩) id
theorem wpAny_of_X (hg:∀(i:Nat) (o:Oper),ops[i]? =some o→F.special i=true→o.guard=none) {Q':Exit→Act→World→Prop} (hQ:∀L a w,St F.S F.w0 w L→Qf L a→Q' .normal a w):
  ∀(fuel:Nat) (listed:Array Bool) (L:List Blk) (a:Act) (w:World),St F.S F.w0 w L→wpX ops F Qf fuel listed L a→wpAny Tryz.prog .any ops Q' fuel listed a w
 |0,_,_,_,_,hw,h=>⟨h.1,hQ _ _ _ hw h.2⟩
 |fuel+1,listed,L,a,w,hw,h=>⟨fun h0=>hQ _ _ _ hw (h.1 h0),fun i hir=>by
   have hx:=h.2 i hir;unfold xstep at hx;unfold wpOp
   cases ho:ops[i]? with
   |none=>rw[ho] at hx;exact hx.elim
   |some o=>
    rw[ho] at hx;simp only at hx ⊢;unfold xdo at hx;split at hx
    ·rename_i hsi
     obtain⟨R,hsp,hk⟩:=hx;have hwant:Region.wanted o (yielded ops a.tmps)=true:=by unfold Region.wanted;rw[hg i o ho hsi]
     rw[if_pos hwant];left;unfold Oper.wp;rcases hsp w hw with⟨u,w',L',hr,hR,hst⟩ |⟨w',L',hr,hR,hst⟩
     ·rw[hr]
      exact wpAny_of_X hg hQ fuel _ _ _ _ hst (hk _ _ hR).2
     ·rw[hr]
      exact wpAny_of_X hg hQ fuel _ _ _ _ hst (hk _ _ hR).2
    ·obtain⟨v,hq,hc,hk⟩:=hx
     rcases hq with⟨hwant,hq⟩ |⟨hwant,rfl⟩
     ·rw[if_pos hwant]
      exact Or.inl (hq.wp (hc w hw) (fun w' hb=>wpAny_of_X hg hQ fuel _ _ _ _ (hw.below hb) hk))
     ·rw[if_neg (by rw[hwant];simp)]
      exact wpAny_of_X hg hQ fuel _ _ _ _ hw hk⟩
theorem wpX_first {i:Nat} {oi:Oper} {v:Value} (hi:ops[i]? =some oi) (his:F.special i=false) (hsel:∀(j:Nat) (o:Oper) cs b,ops[j]? =some o→o.op≠.select cs b)
  (hlate:∀(j:Nat) (oj:Oper),ops[j]? =some oj→F.late j=true→F.pure i=false→∃e∈oj.after,Region.binds .any e=true∧e.on=i):
  ∀(fuel:Nat) (listed:Array Bool) (L:List Blk) (a:Act),
   (∀j oj,ops[j]? =some oj→j≠i→listed.getD j true=false→(∀e∈oj.after,Region.binds .any e=true→e.on≠i)→oi.apart ops oj=true)→
   i∈Region.ready .any ops listed→YX ops (F.cls i) oi a v→(∀w,St F.S F.w0 w L→F.cls i w)→
   wpX ops F Qf fuel (listed.setIfInBounds i true) L (a.put oi.dst v)→wpX ops F Qf (fuel+1) listed L a:=by
 have taken:∀(K:List Blk→Act→Prop) (L:List Blk) (a:Act),YX ops (F.cls i) oi a v→(∀w,St F.S F.w0 w L→F.cls i w)→K L (a.put oi.dst v)→xstep ops F i K L a:=fun K L a hy hc H=>by
  unfold xstep;rw[hi];show xdo _ _ _ _ _ _ _;unfold xdo;rw[his,if_neg (by simp)];exact⟨v,hy,hc,H⟩
 intro fuel
 induction fuel with
 |zero=>
  intro listed L a _ hr hy hc H;refine⟨fun h=>(by rw[h] at hr;cases hr),fun j hj=>?_⟩
  by_cases hji:j=i
  ·subst hji;exact taken _ _ _ hy hc H
  ·have:=ready_mono hj hji
   rw[H.1] at this
   cases this
 |succ fuel ih=>
  intro listed L a hfree hr hy hc H;refine⟨fun h=>(by rw[h] at hr;cases hr),fun j hj=>?_⟩
  by_cases hji:j=i
  ·subst hji;exact taken _ _ _ hy hc H
  ·have h1:=H.2 j (ready_mono hj hji)
   obtain⟨hjun,oj,hoj,hall⟩:=mem_ready.1 hj
   have hnot:∀e∈oj.after,Region.binds .any e=true→e.on≠i:=fun e he hb heq=>by
    have h1:=hall e he hb;have h0:=(mem_ready.1 hr).1;rw[heq] at h1;rcases Nat.lt_or_ge i listed.size with h' |h'
    ·simp[h'] at h0 h1;rw[h0] at h1;cases h1
    ·simp[Array.getElem?_eq_none h'] at h1
   obtain⟨p1,p2,p3⟩:=Oper.apart_spec (hfree j oj hoj hji hjun hnot);have hfree':∀k ok,ops[k]? =some ok→k≠i→(listed.setIfInBounds j true).getD k true=false→
     (∀e∈ok.after,Region.binds .any e=true→e.on≠i)→oi.apart ops ok=true:=fun k ok hk hki hun hno=>by
    refine hfree k ok hk hki ?_ hno
    by_cases hjk:j=k
    ·subst hjk;exact hjun
    ·rw[getD_set_ne true hjk] at hun;exact hun
   have next:∀(L':List Blk) (u:Value),(∀w,St F.S F.w0 w L'→F.cls i w)→wpX ops F Qf fuel ((listed.setIfInBounds i true).setIfInBounds j true) L' ((a.put oi.dst v).put oj.dst u)→
     wpX ops F Qf (fuel+1) (listed.setIfInBounds j true) L' (a.put oj.dst u):=fun L' u hc' hh=>by
    refine ih (listed.setIfInBounds j true) L' _ hfree' (ready_mono hr (Ne.symm hji)) (hy.put (fun cs b=>hsel i oi cs b hi) p3) hc' ?_;rw[Array.setIfInBounds_comm _ _ hji,←Act.put_comm a v u p2];exact hh
   unfold xstep at h1 ⊢;rw[hoj] at h1 ⊢;simp only at h1 ⊢;unfold xdo at h1 ⊢
   by_cases hjs:F.special j=true
   ·rw[if_pos hjs] at h1 ⊢
    obtain⟨R,hsp,hk⟩:=h1;rw[execOp_put oj (fun cs b=>hsel j oj cs b hoj) a oi.dst v p1] at hsp;refine⟨R,hsp,fun L' u hR=>⟨(hk L' u hR).1,next _ _ ?_ (hk L' u hR).2⟩⟩;intro w hw
    cases hp:F.pure i with
    |true=>exact Or.inl hp
    |false=>
     rcases(hk L' u hR).1 with h2 |h2
     ·obtain⟨e,he,hb,hon⟩:=hlate j oj hoj h2 hp
      exact absurd hon (hnot e he hb)
     ·exact Or.inr (h2 w hw)
   ·rw[if_neg hjs] at h1 ⊢
    obtain⟨u,hu,hcj,hk⟩:=h1;exact⟨u,hu.unput (fun cs b=>hsel j oj cs b hoj) p1,hcj,next _ _ hc hk⟩
def wpLX (ops:Array Oper) (F:Flow) (Qf:List Blk→Act→Prop):List Nat→List Blk→Act→Prop
 | [],L,a=>Qf L a
 |i::is,L,a=>xstep ops F i (wpLX ops F Qf is) L a
def lexX (ops:Array Oper) (special:Nat→Bool):List Nat→Array Bool→Bool
 | [],listed=>(Region.ready .any ops listed).isEmpty
 |k::is,listed=>(if special k then Region.ready .any ops listed==[k] else(Region.ready .any ops listed).contains k&&Region.free .any ops listed k)&&lexX ops special is (listed.setIfInBounds k true)
def lateX (ops:Array Oper) (special pure late:Nat→Bool):Bool:=
 (List.range ops.size).all fun j=> !late j||(List.range ops.size).all fun i=>special i||pure i||(match ops[j]? with |some oj=>oj.after.any fun e=>Region.binds .any e&&e.on==i |none=>true)
theorem wpX_lex (hs:Region.noSelect ops=true) (hl8:lateX ops F.special F.pure F.late=true):∀(l:List Nat) (listed:Array Bool) (L:List Blk) (a:Act),
  lexX ops F.special l listed=true→wpLX ops F Qf l L a→wpX ops F Qf l.length listed L a
 | [],_,_,_,hB,h=>⟨by simpa[lexX] using hB,h⟩
 |k::l,listed,L,a,hB,h=>by
  simp only[lexX,Bool.and_eq_true] at hB;obtain⟨hr,hB'⟩:=hB;have ih:=fun L a=>wpX_lex hs hl8 l (listed.setIfInBounds k true) L a hB'
  have h:xstep ops F k (wpLX ops F Qf l) L a:=h
  cases h0:ops[k]? with
  |none=>unfold xstep at h;rw[h0] at h;exact h.elim
  |some o=>
  have h':xdo ops F k o (wpLX ops F Qf l) L a:=by unfold xstep at h;rw[h0] at h;exact h
  cases hk:F.special k with
  |true=>
   rw[hk] at hr;have hr':Region.ready .any ops listed=[k]:=by simpa using hr
   refine⟨fun e=>(by rw[hr'] at e;cases e),fun i hi=>?_⟩;rw[hr'] at hi;obtain rfl:i=k:=by simpa using hi
   unfold xstep;rw[h0];exact xdo_mono ih h'
  |false=>
   rw[hk] at hr;simp only[Bool.false_eq_true,if_false,Bool.and_eq_true] at hr;unfold xdo at h';rw[hk,if_neg (by simp)] at h';obtain⟨v,hq,hc,hk'⟩:=h';refine wpX_first h0 hk (Region.noSelect_spec hs) (fun j oj hj hlj hpi=>?_) l.length listed L a (Region.free_spec h0 hr.2) (by simpa using hr.1) hq hc (ih _ _ hk');have h1:=List.all_eq_true.1 hl8 j (List.mem_range.2 (Array.getElem?_eq_some_iff.1 hj).1);rw[hlj] at h1;simp only[Bool.not_true,Bool.false_or] at h1;have h2:=List.all_eq_true.1 h1 k (List.mem_range.2 (Array.getElem?_eq_some_iff.1 h0).1);rw[hk,hpi,hj] at h2;simp only[Bool.false_or] at h2;obtain⟨e,he,hb⟩:=Array.any_eq_true'.1 h2;simp only[Bool.and_eq_true,beq_iff_eq] at hb;exact⟨e,he,hb.1,hb.2⟩
theorem wp_region_flow {id:Nat} {Q':Exit→Act→World→Prop} {a:Act} {w:World} {l:List Oper} {L:List Blk} (F:Flow) (order:List Nat) (hlen:order.length=l.length) (hst:St F.S F.w0 w L) (hm:Tryz.prog.follows .mixedOrders=true)
  (hg:(List.range l.length).all (fun i=> !F.special i||(match l[i]? with |some o=>o.guard.isNone |none=>true))=true) (hs:Region.noSelect l.toArray=true) (hlex:lexX l.toArray F.special order (Array.replicate l.length false)=true) (hl8:lateX l.toArray F.special F.pure F.late=true)
  (h:wpLX l.toArray F (fun L' a'=>∀w',St F.S F.w0 w' L'→Q' .normal a' w') order L a):(Code.region id l.toArray true).wp Tryz.prog Q' a w:=by
 refine wp_region_any hm (wpAny_of_X (F:=F) (Qf:=fun L' a'=>∀w',St F.S F.w0 w' L'→Q' .normal a' w') (fun i o ho hsi=>?_) (fun L' a' w' hd hq=>hq w' hd) _ _ L _ _ (hst.below (Below.refl _ _).drew) ?_)
 ·have ho':l[i]? =some o:=by simpa using ho
  have h1:=List.all_eq_true.1 hg i (List.mem_range.2 (List.getElem?_eq_some_iff.1 ho').1);simp only[hsi,ho'] at h1;simpa using h1
 ·have:=wpX_lex (F:=F) (Qf:=fun L' a'=>∀w',St F.S F.w0 w' L'→Q' .normal a' w') hs hl8 order (Array.replicate l.length false) L a hlex h
  rw[hlen] at this;simpa using this
variable {l:List Nat} {k:Nat} {o:Oper} {L:List Blk} {a:Act}
theorem fl_pure (h0:ops[k]? =some o) (hs:F.special k=false) (hp:F.pure k=true) (v:Value) (hw:Region.wanted o (yielded ops a.tmps)=true) (h:∀w,(execOp a.eval o).run Tryz.prog w=.ok (.value v) w) (hk:wpLX ops F Qf l L (a.put o.dst v)):wpLX ops F Qf (k::l) L a:=by
 show xstep _ _ _ _ _ _;unfold xstep;rw[h0];show xdo _ _ _ _ _ _ _;unfold xdo;rw[hs,if_neg (by simp)];exact⟨v,Or.inl ⟨hw,fun w _=>by unfold Oper.quietAt;rw[h w];exact⟨rfl,rfl⟩⟩,fun w _=>Or.inl hp,hk⟩
theorem fl_skip (h0:ops[k]? =some o) (hs:F.special k=false) (hp:F.pure k=true) (hw:Region.wanted o (yielded ops a.tmps)=false) (hk:wpLX ops F Qf l L (a.put o.dst undef)):wpLX ops F Qf (k::l) L a:=by
 show xstep _ _ _ _ _ _;unfold xstep;rw[h0];show xdo _ _ _ _ _ _ _;unfold xdo;rw[hs,if_neg (by simp)];exact⟨undef,Or.inr ⟨hw,rfl⟩,fun w _=>Or.inl hp,hk⟩
theorem fl_read (h0:ops[k]? =some o) (hs:F.special k=false) (hp:F.pure k=false) (v:Value) (hw:Region.wanted o (yielded ops a.tmps)=true) (hB:∀w,St F.S F.w0 w L→F.B w) (h:∀w,F.B w→(execOp a.eval o).run Tryz.prog w=.ok (.value v) w) (hk:wpLX ops F Qf l L (a.put o.dst v)):wpLX ops F Qf (k::l) L a:=by
 show xstep _ _ _ _ _ _;unfold xstep;rw[h0];show xdo _ _ _ _ _ _ _;unfold xdo;rw[hs,if_neg (by simp)]
 exact⟨v,Or.inl ⟨hw,fun w hw'=>by
  rcases hw' with h1 |h1
  ·rw[hp] at h1;cases h1
  ·unfold Oper.quietAt;rw[h w h1];exact⟨rfl,rfl⟩⟩,fun w hw'=>Or.inr (hB w hw'),hk⟩
theorem fl_call (h0:ops[k]? =some o) (hs:F.special k=false) (hp:F.pure k=true) (f:FuncId) (args:Array Value) (v:Value) (hw:Region.wanted o (yielded ops a.tmps)=true) (h:∀w,(execOp a.eval o).run Tryz.prog w=.ok (.enter f args) w) (hc:∀w,Calls Tryz.prog f args w fun e w'=>e=.returned v∧Below w.heap.size w w') (hk:wpLX ops F Qf l L (a.put o.dst v)):wpLX ops F Qf (k::l) L a:=by
 show xstep _ _ _ _ _ _;unfold xstep;rw[h0];show xdo _ _ _ _ _ _ _;unfold xdo;rw[hs,if_neg (by simp)];exact⟨v,Or.inl ⟨hw,fun w _=>by unfold Oper.quietAt;rw[h w];exact⟨rfl,hc w⟩⟩,fun w _=>Or.inl hp,hk⟩
theorem fl_new (h0:ops[k]? =some o) (hs:F.special k=true) (T:TypeId) (ho:o.op=.alloc T) (Z:Array Value) (hz:∀w:World,(zeroValue T).run Tryz.prog w=.ok (.agg Z) w)
  (hB:∀b w,St F.S F.w0 w ((b,Z,T)::L)→F.B w) (hk:∀b,wpLX ops F Qf l ((b,Z,T)::L) (a.put o.dst (.pointer (some ⟨b,0,none⟩)))):wpLX ops F Qf (k::l) L a:=by
 show xstep _ _ _ _ _ _;unfold xstep;rw[h0];show xdo _ _ _ _ _ _ _;unfold xdo;rw[if_pos hs];refine⟨fun L' u=>∃b,L'=(b,Z,T)::L∧u=.pointer (some ⟨b,0,none⟩),fun w hw=>Or.inl ?_,?_⟩
 ·have hr:(Instr.alloc T true (.tuple #[])).run Tryz.prog w=.ok (.pointer (some ⟨w.heap.size,0,none⟩)) (w.alloc (.cells Z T)):=by
   unfold Instr.alloc;rw[Sem.run_bind,hz];rfl
  refine⟨.pointer (some ⟨w.heap.size,0,none⟩),_,(w.heap.size,Z,T)::L,?_,⟨_,rfl,rfl⟩,hw.alloc Z T⟩;unfold execOp;simp only[ho,Sem.run_bind,hr,Result.andThen_ok];rfl
 ·rintro L' u ⟨b,rfl,rfl⟩
  exact⟨Or.inr (fun w hw=>hB b w hw),hk b⟩
theorem fl_store (h0:ops[k]? =some o) (hs:F.special k=true) (T:TypeId) (x y:Operand) (ho:o.op=.store T x y) (g off:Nat) (hx:a.eval x=.pointer (some ⟨g,off,none⟩)) (v:Value) (hy:a.eval y=v)
  {C C':Array Value} {Tb:TypeId} {n:Nat} {L':List Blk} [t:SizeT T n] [kk:Has L g C Tb] [c:WrAt C off n v C'] [u:Upd L g C Tb C' L']
  (hB:F.late k=true∨∀w,St F.S F.w0 w L'→F.B w) (hk:wpLX ops F Qf l L' (a.put o.dst undef)):wpLX ops F Qf (k::l) L a:=by
 show xstep _ _ _ _ _ _;unfold xstep;rw[h0];show xdo _ _ _ _ _ _ _;unfold xdo;rw[if_pos hs];refine⟨fun L'' u=>L''=L'∧u=undef,fun w hw=>Or.inr ⟨w.setRow g C',L',?_,⟨rfl,rfl⟩,hw.upd (St.write1 hw.has)⟩,?_⟩
 ·unfold execOp
  simp only[ho,hx,hy,Instr.storeAt,Instr.sureAddr,Sem.run_bind,Sem.run_pure,Result.andThen_ok,run_storeVar_at t.size hw.has c]
 ·rintro L'' u ⟨rfl,rfl⟩
  exact⟨hB,hk⟩
theorem fl_ld (h0:ops[k]? =some o) (hs:F.special k=false) (hp:F.pure k=false) (T:TypeId) (x:Operand) (ho:o.op=.load T x) (g off:Nat) (hx:a.eval x=.pointer (some ⟨g,off,none⟩)) (hw:Region.wanted o (yielded ops a.tmps)=true) (hB:∀w,St F.S F.w0 w L→F.B w)
  {C:Array Value} {Tb:TypeId} (hb:∀w,F.B w→w.heap[g]? =some (.cells C Tb (0,0))) {v:Value} [t:OneT T] [c:CellAt C off v] (hk:wpLX ops F Qf l L (a.put o.dst v)):wpLX ops F Qf (k::l) L a:=
 fl_read h0 hs hp v hw hB (fun w hw'=>by
  unfold execOp
  simp only[ho,hx,Instr.loadAt,Instr.sureAddr,Sem.run_bind,Sem.run_pure,Result.andThen_ok,run_loadVar_one (t.agg w) (hb w hw') c.eq]) hk
theorem fl_lda (h0:ops[k]? =some o) (hs:F.special k=false) (hp:F.pure k=false) (T:TypeId) (x:Operand) (ho:o.op=.load T x) (g off:Nat) (hx:a.eval x=.pointer (some ⟨g,off,none⟩)) (hw:Region.wanted o (yielded ops a.tmps)=true) (hB:∀w,St F.S F.w0 w L→F.B w)
  {C:Array Value} {Tb:TypeId} (hb:∀w,F.B w→w.heap[g]? =some (.cells C Tb (0,0))) {n:Nat} {cs:List Value} [t:AggT T n] [c:PartAt C off n cs] (hk:wpLX ops F Qf l L (a.put o.dst (.agg cs.toArray))):wpLX ops F Qf (k::l) L a:=
 fl_read h0 hs hp _ hw hB (fun w hw'=>by
  unfold execOp
  simp only[ho,hx,Instr.loadAt,Instr.sureAddr,Sem.run_bind,Sem.run_pure,Result.andThen_ok,run_loadVar_agg (t.agg w) (by rw[c.len];exact t.size) (hb w hw') c.eq]) hk
end
end Go.Proofs.YtdkeiefgkgpcbaaGreatDoor
namespace Go.Proofs.YtdkeiefgkgpcbaaGreatDoor
open Go.RowKit
def hashN (s:ByteArray) (a:Int):List UInt8:=if thereB s a 32 then sub s a 32 else zeros 32
def hashA (s:ByteArray) (a:Int):Int:=if thereB s a 32 then a+32 else 0
theorem hashN_length (s:ByteArray) (a:Int):(hashN s a).length=32:=by
 unfold hashN;split
 ·rename_i h
  simp[thereB] at h;obtain⟨a,rfl⟩:=Int.eq_ofNat_of_zero_le h.1;exact sub_length s a 32 (by omega)
 ·exact zeros_length 32
theorem get_hash_calls3 (s:ByteArray) (a:Int) (hs:s.size≤maxLen) (w:World):
  Calls Tryz.prog 152 #[.string s,.int .i64 a] w fun e w'=>e=.returned (.tuple #[.agg (hashL (hashN s a)).toArray,.int .i64 (hashA s a),.bool (thereB s a 32)])∧Below w.heap.size w w':=by
 have e:getHashV s a=.tuple #[.agg (hashL (hashN s a)).toArray,.int .i64 (hashA s a),.bool (thereB s a 32)]:=by
  rw[←arr_hashL _ (hashN_length s a)];unfold getHashV hashN hashA;split
  ·rename_i h;rw[h]
  ·rename_i h;have h':thereB s a 32=false:=by simpa using h
   rw[h']
 rw[←e];exact get_hash_calls s a hs w
instance (h:List UInt8):PartAt (hashL h).toArray 0 32 (hashL h):=⟨rfl,fun j v hj=>by rw[Nat.zero_add];simpa using hj⟩
instance (g h:List UInt8):WrAt (hashL g).toArray 0 32 (.agg (hashL h).toArray) (hashL h).toArray:=wr_row _ _ _ _ _ rfl rfl (Nat.le_of_ble_eq_true rfl) (by kernel_rfl)
theorem zero_hash (w:World):(zeroValue 39).run Tryz.prog w=.ok (.agg (hashL []).toArray) w:=by kernel_rfl
set_option maxHeartbeats 4000000 in
set_option maxRecDepth 100000 in
theorem readfield_record (g q:Nat) (s:ByteArray) (a:Int) (bad:Bool) (e:Ent) (hs:s.size≤maxLen) (w:World) (hg:w.heap[g]? =some (.cells (readC s a bad) 219 (0,0))) (hq:w.heap[q]? =some (.cells (entC e) 66 (0,0))):
  Calls Tryz.prog 122 #[.pointer (some ⟨g,0,none⟩),.int .i64 3,.pointer (some ⟨q,0,none⟩)] w fun r w'=>r=.returned (.tuple #[])∧
   St [g,q] w w' [(g,readC s (numA s (numA s (hashA s (numA s a 2)) 2) 2) ((((bad|| !numOk s a 2)|| !thereB s (numA s a 2) 32)|| !numOk s (hashA s (numA s a 2)) 2)|| !numOk s (numA s (hashA s (numA s a 2)) 2) 2),219),
    (q,entC {e with len:=numN s a 2,hash:=hashN s (numA s a 2),start:=numN s (hashA s (numA s a 2)) 2,count:=numN s (numA s (hashA s (numA s a 2)) 2) 2},66)]:=by
 have hst:=two_start hg hq;clear hg hq;have C1:=Lib.hid (get_hash_calls3 s (numA s a 2) hs);have N1:=Lib.hid (number_calls g s a 2 bad hs);generalize numN s a 2=n1 at*;generalize numA s a 2=a1 at*;generalize (bad|| !numOk s a 2)=bad1 at*;generalize hashN s a1=h at*;generalize hashA s a1=a2 at*;generalize thereB s a1 32=ok at*;go_enter Tryz.func122,Tryz.ntmps122;go_wp2_with fail;refine(N1.out w hst.has).mono ?_;rintro r w1 ⟨rfl,k⟩;have h1:=hst.upd k;clear k hst;go_wp2_with (with_reducible refine wpList_stI rfl _ _ _ rfl _ _ rfl _ _ rfl (by assumption) ?_;intro w' hst);refine wp_region_flow ⟨[g,q],w,fun x=>x.heap[g]? =some (.cells (readC s a1 bad1) 219 (0,0)),fun i=>i==13||i==14,fun i=> !(i==3||i==7),fun i=>i==14⟩ (List.range 17) rfl (by assumption) (by kernel_rfl) (by kernel_rfl) (by kernel_rfl) (by kernel_rfl) (by kernel_rfl) ?_;refine fl_pure rfl rfl rfl (Value.pointer (some ⟨g,0,none⟩)) (by kernel_rfl) (fun w=>by kernel_rfl) ?_;refine fl_pure rfl rfl rfl (Value.pointer (some ⟨g,0,none⟩)) (by kernel_rfl) (fun w=>by kernel_rfl) ?_;refine fl_pure rfl rfl rfl (Value.pointer (some ⟨g,0,none⟩)) (by kernel_rfl) (fun w=>by kernel_rfl) ?_;refine fl_ld rfl rfl rfl _ _ rfl g 0 (by kernel_rfl) (by kernel_rfl) (fun x hx=>St.has hx) (fun x hx=>hx) ?_;refine fl_pure rfl rfl rfl (Value.pointer (some ⟨g,0,none⟩)) (by kernel_rfl) (fun w=>by kernel_rfl) ?_;refine fl_pure rfl rfl rfl (Value.pointer (some ⟨g,0,none⟩)) (by kernel_rfl) (fun w=>by kernel_rfl) ?_;refine fl_pure rfl rfl rfl (Value.pointer (some ⟨g,1,none⟩)) (by kernel_rfl) (fun w=>by kernel_rfl) ?_;refine fl_ld rfl rfl rfl _ _ rfl g 1 (by kernel_rfl) (by kernel_rfl) (fun x hx=>St.has hx) (fun x hx=>hx) ?_;refine fl_call rfl rfl rfl 152 #[.string s,.int .i64 a1] _ (by kernel_rfl) (fun w=>by kernel_rfl) C1.out ?_;refine fl_pure rfl rfl rfl (Value.tuple #[.agg (hashL h).toArray,.int .i64 a2,.bool ok]) (by kernel_rfl) (fun w=>by kernel_rfl) ?_;refine fl_pure rfl rfl rfl (Value.agg (hashL h).toArray) (by kernel_rfl) (fun w=>by kernel_rfl) ?_;refine fl_pure rfl rfl rfl (Value.int .i64 a2) (by kernel_rfl) (fun w=>by kernel_rfl) ?_;refine fl_pure rfl rfl rfl (Value.bool ok) (by kernel_rfl) (fun w=>by kernel_rfl) ?_;refine fl_new rfl rfl _ rfl _ zero_hash (fun b x hx=>St.has hx) ?_;intro b;refine fl_store rfl rfl _ _ _ rfl b 0 (by kernel_rfl) (.agg (hashL h).toArray) (by kernel_rfl) (Or.inl rfl) ?_;refine fl_pure rfl rfl rfl (Value.int .i64 a2) (by kernel_rfl) (fun w=>by kernel_rfl) ?_;refine fl_pure rfl rfl rfl (Value.bool ok) (by kernel_rfl) (fun w=>by kernel_rfl) ?_;show ∀w',_→_;intro w2 h2;simp only[Act.put,List.setIfInBounds_toArray,List.set_cons_succ,List.set_cons_zero];clear h1 hst C1;go_wp2_with fail
 cases bad1
 ·refine wp_region_flow ⟨[g,q],w,fun x=>x.heap[g]? =some (.cells (readC s a1 false) 219 (0,0))∧x.heap[b]? =some (.cells (hashL h).toArray 39 (0,0)),fun i=>i==15||i==18||i==21,fun i=> !(i==3||i==8),fun i=>i==15||i==18||i==21⟩ (List.range 22) rfl (by assumption) (by kernel_rfl) (by kernel_rfl) (by kernel_rfl) (by kernel_rfl) (by kernel_rfl) ?_
  refine fl_pure rfl rfl rfl (Value.pointer (some ⟨q,0,none⟩)) (by kernel_rfl) (fun w=>by kernel_rfl) ?_;refine fl_pure rfl rfl rfl (Value.pointer (some ⟨g,0,none⟩)) (by kernel_rfl) (fun w=>by kernel_rfl) ?_;refine fl_pure rfl rfl rfl (Value.pointer (some ⟨g,0,none⟩)) (by kernel_rfl) (fun w=>by kernel_rfl) ?_;refine fl_lda rfl rfl rfl _ _ rfl b 0 (by kernel_rfl) (by kernel_rfl) (fun x hx=>⟨St.has hx,St.has hx⟩) (fun x hx=>hx.2) ?_;refine fl_pure rfl rfl rfl (Value.int .i64 a2) (by kernel_rfl) (fun w=>by kernel_rfl) ?_;refine fl_pure rfl rfl rfl (Value.pointer (some ⟨g,0,none⟩)) (by kernel_rfl) (fun w=>by kernel_rfl) ?_;refine fl_pure rfl rfl rfl (Value.pointer (some ⟨g,0,none⟩)) (by kernel_rfl) (fun w=>by kernel_rfl) ?_;refine fl_pure rfl rfl rfl (Value.pointer (some ⟨g,2,none⟩)) (by kernel_rfl) (fun w=>by kernel_rfl) ?_;refine fl_ld rfl rfl rfl _ _ rfl g 2 (by kernel_rfl) (by kernel_rfl) (fun x hx=>⟨St.has hx,St.has hx⟩) (fun x hx=>hx.1) ?_;refine fl_pure rfl rfl rfl (Value.bool false) (by kernel_rfl) (fun w=>by kernel_rfl) ?_;refine fl_pure rfl rfl rfl (Value.bool ok) (by kernel_rfl) (fun w=>by kernel_rfl) ?_;refine fl_pure rfl rfl rfl (Value.bool !ok) (by kernel_rfl) (fun w=>by kernel_rfl) ?_;refine fl_pure rfl rfl rfl (Value.bool !ok) (by kernel_rfl) (fun w=>by kernel_rfl) ?_;refine fl_pure rfl rfl rfl (Value.pointer (some ⟨q,0,none⟩)) (by kernel_rfl) (fun w=>by kernel_rfl) ?_;refine fl_pure rfl rfl rfl (Value.pointer (some ⟨q,5,none⟩)) (by kernel_rfl) (fun w=>by kernel_rfl) ?_;refine fl_store rfl rfl _ _ _ rfl q 5 (by kernel_rfl) (.agg (hashL h).toArray) (by kernel_rfl) (Or.inl rfl) ?_;refine fl_pure rfl rfl rfl (Value.pointer (some ⟨g,0,none⟩)) (by kernel_rfl) (fun w=>by kernel_rfl) ?_;refine fl_pure rfl rfl rfl (Value.pointer (some ⟨g,1,none⟩)) (by kernel_rfl) (fun w=>by kernel_rfl) ?_;refine fl_store rfl rfl _ _ _ rfl g 1 (by kernel_rfl) (.int .i64 a2) (by kernel_rfl) (Or.inl rfl) ?_;refine fl_pure rfl rfl rfl (Value.pointer (some ⟨g,0,none⟩)) (by kernel_rfl) (fun w=>by kernel_rfl) ?_;refine fl_pure rfl rfl rfl (Value.pointer (some ⟨g,2,none⟩)) (by kernel_rfl) (fun w=>by kernel_rfl) ?_;refine fl_store rfl rfl _ _ _ rfl g 2 (by kernel_rfl) (.bool (!ok)) (by kernel_rfl) (Or.inl rfl) ?_;show ∀w',_→_;intro w3 h3;simp only[Act.put,List.setIfInBounds_toArray,List.set_cons_succ,List.set_cons_zero];clear h2;have h3:=h3.drop;go_wp2_with fail;refine(number_calls g s a2 2 _ hs _ h3.has).mono ?_;rintro r w4 ⟨rfl,k4⟩;have h4:=h3.upd k4;clear k4 h3;go_wp2_with fail;refine(number_calls g s _ 2 _ hs _ h4.has).mono ?_;rintro r w5 ⟨rfl,k5⟩;have h5:=h4.upd k5;clear k5 h4;go_wp2_with (with_reducible refine wpList_stA rfl _ _ _ rfl _ _ rfl _ rfl (by assumption) ?_;intro w' hst);go_end0;exact⟨rfl,by simpa only[Bool.false_or,Bool.true_or] using hst⟩
 ·refine wp_region_flow ⟨[g,q],w,fun x=>x.heap[g]? =some (.cells (readC s a1 true) 219 (0,0))∧x.heap[b]? =some (.cells (hashL h).toArray 39 (0,0)),fun i=>i==15||i==18||i==21,fun i=> !(i==3||i==8),fun i=>i==15||i==18||i==21⟩ (List.range 22) rfl (by assumption) (by kernel_rfl) (by kernel_rfl) (by kernel_rfl) (by kernel_rfl) (by kernel_rfl) ?_
  refine fl_pure rfl rfl rfl (Value.pointer (some ⟨q,0,none⟩)) (by kernel_rfl) (fun w=>by kernel_rfl) ?_;refine fl_pure rfl rfl rfl (Value.pointer (some ⟨g,0,none⟩)) (by kernel_rfl) (fun w=>by kernel_rfl) ?_;refine fl_pure rfl rfl rfl (Value.pointer (some ⟨g,0,none⟩)) (by kernel_rfl) (fun w=>by kernel_rfl) ?_;refine fl_lda rfl rfl rfl _ _ rfl b 0 (by kernel_rfl) (by kernel_rfl) (fun x hx=>⟨St.has hx,St.has hx⟩) (fun x hx=>hx.2) ?_;refine fl_pure rfl rfl rfl (Value.int .i64 a2) (by kernel_rfl) (fun w=>by kernel_rfl) ?_;refine fl_pure rfl rfl rfl (Value.pointer (some ⟨g,0,none⟩)) (by kernel_rfl) (fun w=>by kernel_rfl) ?_;refine fl_pure rfl rfl rfl (Value.pointer (some ⟨g,0,none⟩)) (by kernel_rfl) (fun w=>by kernel_rfl) ?_;refine fl_pure rfl rfl rfl (Value.pointer (some ⟨g,2,none⟩)) (by kernel_rfl) (fun w=>by kernel_rfl) ?_;refine fl_ld rfl rfl rfl _ _ rfl g 2 (by kernel_rfl) (by kernel_rfl) (fun x hx=>⟨St.has hx,St.has hx⟩) (fun x hx=>hx.1) ?_;refine fl_pure rfl rfl rfl (Value.bool true) (by kernel_rfl) (fun w=>by kernel_rfl) ?_;refine fl_skip rfl rfl rfl (by kernel_rfl) ?_;refine fl_skip rfl rfl rfl (by kernel_rfl) ?_;refine fl_pure rfl rfl rfl (Value.bool true) (by kernel_rfl) (fun w=>by kernel_rfl) ?_;refine fl_pure rfl rfl rfl (Value.pointer (some ⟨q,0,none⟩)) (by kernel_rfl) (fun w=>by kernel_rfl) ?_;refine fl_pure rfl rfl rfl (Value.pointer (some ⟨q,5,none⟩)) (by kernel_rfl) (fun w=>by kernel_rfl) ?_;refine fl_store rfl rfl _ _ _ rfl q 5 (by kernel_rfl) (.agg (hashL h).toArray) (by kernel_rfl) (Or.inl rfl) ?_;refine fl_pure rfl rfl rfl (Value.pointer (some ⟨g,0,none⟩)) (by kernel_rfl) (fun w=>by kernel_rfl) ?_;refine fl_pure rfl rfl rfl (Value.pointer (some ⟨g,1,none⟩)) (by kernel_rfl) (fun w=>by kernel_rfl) ?_;refine fl_store rfl rfl _ _ _ rfl g 1 (by kernel_rfl) (.int .i64 a2) (by kernel_rfl) (Or.inl rfl) ?_;refine fl_pure rfl rfl rfl (Value.pointer (some ⟨g,0,none⟩)) (by kernel_rfl) (fun w=>by kernel_rfl) ?_;refine fl_pure rfl rfl rfl (Value.pointer (some ⟨g,2,none⟩)) (by kernel_rfl) (fun w=>by kernel_rfl) ?_;refine fl_store rfl rfl _ _ _ rfl g 2 (by kernel_rfl) (.bool (true)) (by kernel_rfl) (Or.inl rfl) ?_;show ∀w',_→_;intro w3 h3;simp only[Act.put,List.setIfInBounds_toArray,List.set_cons_succ,List.set_cons_zero];clear h2;have h3:=h3.drop;go_wp2_with fail;refine(number_calls g s a2 2 _ hs _ h3.has).mono ?_;rintro r w4 ⟨rfl,k4⟩;have h4:=h3.upd k4;clear k4 h3;go_wp2_with fail;refine(number_calls g s _ 2 _ hs _ h4.has).mono ?_;rintro r w5 ⟨rfl,k5⟩;have h5:=h4.upd k5;clear k5 h4;go_wp2_with (with_reducible refine wpList_stA rfl _ _ _ rfl _ _ rfl _ rfl (by assumption) ?_;intro w' hst);go_end0;exact⟨rfl,by simpa only[Bool.false_or,Bool.true_or] using hst⟩
end Go.Proofs.YtdkeiefgkgpcbaaGreatDoor
