/- Steps of the proof: Round, EntBack. -/
import Derived.Test.YtdkeiefgkgpcbaaGreatDoorP30
import Derived.Test.YtdkeiefgkgpcbaaGreatDoorF01
set_option linter.unusedVariables false
set_option linter.unusedSimpArgs false
set_option maxRecDepth 100000
namespace Go.Proofs.YtdkeiefgkgpcbaaGreatDoor
open Go.RowKit
theorem putL_be {n:Int} {b:Nat} (hb:sizeB (b:Int)=true) (h0:0≤n) (h:n.toNat<256 ^ b):putL n b=be b n.toNat:=by
 unfold putL putF
 rw[if_pos (by unfold fitsB;rw[hb,decide_eq_true h0,Int.toNat_natCast,decide_eq_true h];simp)]
 rw[Int.toNat_natCast]
 rfl
theorem putL_lb {n:Int} {b:Nat} (hb:sizeB (b:Int)=true) (h0:0≤n) (h:n.toNat<256 ^ b):(putL n b).length=b:=by rw[putL_be hb h0 h,be_length]
theorem numN_back (A C:List UInt8) {n:Int} {b:Nat} (hb:sizeB (b:Int)=true) (h0:0≤n) (h:n.toNat<256 ^ b) (h63:n<9223372036854775808):
  numN (mkS (A++(putL n b++C))) A.length b=n∧numA (mkS (A++(putL n b++C))) A.length b=(A.length:Int)+b∧numOk (mkS (A++(putL n b++C))) A.length b=true:=by
 rw[putL_be hb h0 h]
 have hg:=get_back A C n.toNat b hb h (by omega)
 unfold numN numA numOk
 rw[hg]
 exact⟨by simp;omega,rfl,rfl⟩
theorem ls_size (d:ByteArray):(ls d).length=d.size:=ls_length d
theorem frCheck_ok {f:Fr} (h:frCheck f=0):(f.kind=68∨f.kind=80∨f.kind=83)∧1≤f.epoch∧f.epoch≤1073741824∧0≤f.index∧f.index≤65535∧f.data.size≤112:=by
 unfold frCheck at h
 split at h
 ·rename_i hk
  split at h
  ·cases h
  ·split at h
   ·cases h
   ·exact⟨hk,by omega,by omega,by omega,by omega,by omega⟩
 ·cases h
theorem frText_shape {f:Fr} (h:frCheck f=0):∃Z:List UInt8,frText f=UInt8.ofNat f.kind.toNat::(putL f.epoch 4++(putL f.index 2++(putL f.data.size 1++(putL (crc (frHead f++ls f.data):Nat) 4++(ls f.data++Z))))):=by
 refine⟨List.replicate (124-(frBody f).length) 0,?_⟩
 unfold frText frBody frHead
 simp only[List.cons_append,List.append_assoc]
theorem mkS_ls' (d:ByteArray):mkS (ls d)=d:=mkS_ls d
theorem frOf_text2 {f:Fr} (h:frCheck f=0):frOf (frText f)=f∧((frText f).getD 7 0).toNat=f.data.size:=by
 obtain⟨hk,e1,e2,i1,i2,hd⟩:=frCheck_ok h
 obtain⟨Z,hZ⟩:=frText_shape h
 have hc:=crc_lt (frHead f++ls f.data)
 have l1:(putL f.epoch 4).length=4:=putL_lb (n:=f.epoch) (b:=4) rfl (by omega) (by omega)
 have l2:(putL f.index 2).length=2:=putL_lb (n:=f.index) (b:=2) rfl (by omega) (by omega)
 have l3:putL (f.data.size:Int) 1=[UInt8.ofNat f.data.size]:=by
  have:=putL_be (n:=(f.data.size:Int)) (b:=1) rfl (by omega) (by omega)
  rw[show(1:Int)=((1:Nat):Int) from rfl,this]
  simp[be]
 have l4:(putL ((crc (frHead f++ls f.data):Nat):Int) 4).length=4:=putL_lb (n:=((crc (frHead f++ls f.data):Nat):Int)) (b:=4) rfl (by omega) (by simp;omega)
 have n1:=(numN_back [UInt8.ofNat f.kind.toNat] (putL f.index 2++(putL f.data.size 1++(putL (crc (frHead f++ls f.data):Nat) 4++(ls f.data++Z)))) (n:=f.epoch) (b:=4) rfl (by omega) (by omega) (by omega)).1
 have n2:=(numN_back (UInt8.ofNat f.kind.toNat::putL f.epoch 4) (putL f.data.size 1++(putL (crc (frHead f++ls f.data):Nat) 4++(ls f.data++Z))) (n:=f.index) (b:=2) rfl (by omega) (by omega) (by omega)).1
 have g7:(frText f).getD 7 0=UInt8.ofNat f.data.size:=by
  rw[hZ,l3,List.getD_eq_getElem?_getD]
  rw[show UInt8.ofNat f.kind.toNat::(putL f.epoch 4++(putL f.index 2++([UInt8.ofNat f.data.size]++(putL (crc (frHead f++ls f.data):Nat) 4++(ls f.data++Z)))))=(UInt8.ofNat f.kind.toNat::(putL f.epoch 4++putL f.index 2))++(UInt8.ofNat f.data.size::(putL (crc (frHead f++ls f.data):Nat) 4++(ls f.data++Z))) by simp[List.append_assoc]]
  rw[List.getElem?_append_right (by simp[l1,l2])]
  simp[l1,l2]
 have d12:((frText f).drop 12).take f.data.size=ls f.data:=by
  rw[hZ]
  rw[show UInt8.ofNat f.kind.toNat::(putL f.epoch 4++(putL f.index 2++(putL f.data.size 1++(putL (crc (frHead f++ls f.data):Nat) 4++(ls f.data++Z)))))=(UInt8.ofNat f.kind.toNat::(putL f.epoch 4++(putL f.index 2++(putL f.data.size 1++putL (crc (frHead f++ls f.data):Nat) 4))))++(ls f.data++Z) by simp[List.append_assoc]]
  rw[List.drop_left' (by simp[l1,l2,l3,l4]),List.take_left' (by rw[ls_size])]
 have hs7:(UInt8.ofNat f.data.size).toNat=f.data.size:=by simp;omega
 refine⟨?_,by rw[g7,hs7]⟩
 unfold frOf
 rw[g7,hs7,d12,mkS_ls']
 have n1':numN (mkS (frText f)) 1 4=f.epoch:=by rw[hZ];exact n1
 have n2':numN (mkS (frText f)) 5 2=f.index:=by
  rw[hZ]
  have:=n2
  simp only[List.length_cons,l1,List.cons_append,List.append_assoc] at this
  exact this
 rw[n1',n2']
 have hk0:(((frText f).getD 0 0).toNat:Int)=f.kind:=by
  rw[hZ]
  simp only[List.getD_cons_zero]
  rcases hk with hk |hk |hk<;>rw[hk]<;>rfl
 rw[hk0]
theorem frOf_text {f:Fr} (h:frCheck f=0):frOf (frText f)=f:=(frOf_text2 h).1
theorem bare4 {a b c d:List UInt8} (ha:a.length=31) (hb:b.length=31) (hc:c.length=31) (hd:d.length=31):
  bareF ((a++[165])++((b++[165])++((c++[165])++(d++[165]))))=(a++(b++(c++d)),true):=by
 obtain⟨L,hL⟩:∃L,(a++[165])++((b++[165])++((c++[165])++(d++[165])))=L:=⟨_,rfl⟩
 have e0:(L.drop (0*32)).take 32=a++[165]:=by rw[←hL,Nat.zero_mul,List.drop_zero,List.take_left' (by simp[ha])]
 have e1:(L.drop (1*32)).take 32=b++[165]:=by rw[←hL,List.drop_left' (by simp[ha]),List.take_left' (by simp[hb])]
 have e2:(L.drop (2*32)).take 32=c++[165]:=by rw[←hL,←List.append_assoc,List.drop_left' (by simp[ha,hb]),List.take_left' (by simp[hc])]
 have e3:(L.drop (3*32)).take 32=d++[165]:=by
  rw[←hL,←List.append_assoc,←List.append_assoc,List.drop_left' (by simp[ha,hb,hc]),List.take_of_length_le (by simp[hd])]
 have hlen:L.length=128:=by rw[←hL];simp[ha,hb,hc,hd]
 have d0:∀ {x:List UInt8},x.length=31→(x++[165]).drop 31=[165]:=fun h=>List.drop_left' h
 have t0:∀ {x:List UInt8},x.length=31→(x++[165]).take 31=x:=fun h=>List.take_left' h
 rw[hL]
 unfold bareF
 rw[if_pos ⟨hlen,by
  rw[show List.range 4=[0,1,2,3] from rfl]
  simp only[List.all_cons,List.all_nil,okMark,e0,e1,e2,e3,d0 ha,d0 hb,d0 hc,d0 hd]
  rfl⟩]
 rw[show List.range 4=[0,1,2,3] from rfl]
 simp only[List.flatMap_cons,List.flatMap_nil,e0,e1,e2,e3,t0 ha,t0 hb,t0 hc,t0 hd,List.append_nil]
theorem bare_enc {t:List UInt8} (ht:t.length=124):bareF ((List.range 4).flatMap fun k=>(t.drop (k*31)).take 31++[165])=(t,true):=by
 have hp:∀k,k<4→((t.drop (k*31)).take 31).length=31:=fun k hk=>by rw[List.length_take,List.length_drop];omega
 have e3:(t.drop (3*31)).take 31=t.drop (3*31):=List.take_of_length_le (by rw[List.length_drop];omega)
 have s2:(t.drop (2*31)).take 31++t.drop (3*31)=t.drop (2*31):=by
  have:=List.take_append_drop 31 (t.drop (2*31))
  rwa [List.drop_drop] at this
 have s1:(t.drop (1*31)).take 31++t.drop (2*31)=t.drop (1*31):=by
  have:=List.take_append_drop 31 (t.drop (1*31))
  rwa [List.drop_drop] at this
 have s0:(t.drop (0*31)).take 31++t.drop (1*31)=t:=by simp
 have h:=bare4 (hp 0 (by omega)) (hp 1 (by omega)) (hp 2 (by omega)) (hp 3 (by omega))
 rw[show List.range 4=[0,1,2,3] from rfl]
 simp only[List.flatMap_cons,List.flatMap_nil,List.append_nil]
 rw[h,e3,s2,s1,s0]
theorem frDec_enc {f:Fr} (h:frCheck f=0):frDecF (frEnc f).1=(f,0):=by
 have hd:=(frCheck_ok h).2.2.2.2.2
 unfold frDecF frEnc
 rw[if_pos h]
 simp only
 rw[bare_enc (frText_len f hd)]
 simp only[if_true]
 unfold decT
 rw[frOf_text h]
 have h7:((frText f).getD 7 0).toNat≤112:=by
  have h1:=(frOf_text2 h).2
  omega
 rw[if_neg (by omega),if_pos ⟨h,rfl⟩]
def nS (s:Sl):Sl:={s with prev:=h32 s.prev,content:=h32 s.content}
theorem h32_h32 (h:List UInt8):h32 (h32 h)=h32 h:=h32_of _ (h32_length h)
theorem slTxt_nS (s:Sl):slTxt (nS s)=slTxt s:=by unfold slTxt nS;simp only[h32_h32]
theorem slOk_nS (s:Sl):slOk (nS s)=slOk s:=rfl
theorem slHash_nS (s:Sl):slHash (nS s)=slHash s:=by unfold slHash;rw[slOk_nS,slTxt_nS]
theorem slFol_nS (s:Sl) (t:Option Sl):slFol (nS s) (t.map nS)=slFol s t:=by
 cases t with
 |none=>unfold slFol nS;simp only[Option.map_none,h32_h32]
 |some t=>unfold slFol;simp only[Option.map_some,slHash_nS];unfold nS;simp only[h32_h32]
def slBytes (s:Sl):List UInt8:=putL s.n 4++(h32 s.prev++(h32 s.content++(putL s.len 4++(putL s.start 4++(putL s.count 4++putL s.clock 4)))))
theorem slTxt_mk (s:Sl):slTxt s=mkS (slBytes s):=by
 have h:ls (slTxt s)=slBytes s:=by
  unfold slTxt slBytes putL
  simp only[ls_append,ls_mkS,List.append_assoc]
 rw[←h,mkS_ls]
theorem hash_backN (A C:List UInt8) {H:List UInt8} (hH:H.length=32):hashN (mkS (A++(H++C))) A.length=H∧hashA (mkS (A++(H++C))) A.length=(A.length:Int)+32∧thereB (mkS (A++(H++C))) A.length 32=true:=by
 have ht:thereB (mkS (A++(H++C))) A.length 32=true:=by
  simp[thereB,size_mkS];omega
 have hs:sub (mkS (A++(H++C))) A.length 32=H:=by
  have:=sub_mid A H C
  rw[hH] at this
  exact this
 unfold hashN hashA
 rw[if_pos ht,if_pos ht]
 exact⟨hs,rfl,ht⟩
theorem slDec_txt {s:Sl} (h:slOk s=true):slDec (slTxt s)=(nS s,0):=by
 obtain⟨n1,n2,k1,k2,l1,l2,s1,hc,s3,s2⟩:=(slOk_iff s).1 h
 have hc0:0≤s.count∧s.count≤512:=by
  rw[hc]
  have:=pkCount_range (n:=s.len) (by omega)
  constructor
  ·omega
  ·have h2:=s3;rw[hc] at h2;omega
 have len4:∀ {n:Int},0≤n→n≤1073741824→(putL n 4).length=4:=fun {n} h0 h1=>putL_lb (n:=n) (b:=4) rfl h0 (by omega)
 have p1:=len4 (n:=s.n) (by omega) n2
 have p4:=len4 (n:=s.len) l1 (by omega)
 have p5:=len4 (n:=s.start) s1 (by omega)
 have p6:=len4 (n:=s.count) hc0.1 (by omega)
 have p7:=len4 (n:=s.clock) k1 k2
 have h1:=h32_length s.prev
 have h2:=h32_length s.content
 obtain⟨S,hS⟩:∃S,mkS (slBytes s)=S:=⟨_,rfl⟩
 have f1:numN S (0:Nat) (4:Nat)=s.n∧numA S (0:Nat) (4:Nat)=((0:Nat):Int)+(4:Nat)∧numOk S (0:Nat) (4:Nat)=true:=by
  rw[←hS]
  exact numN_back [] _ (n:=s.n) (b:=4) rfl (by omega) (by omega) (by omega)
 have f2:hashN S (4:Nat)=h32 s.prev∧hashA S (4:Nat)=((4:Nat):Int)+32∧thereB S (4:Nat) 32=true:=by
  have:=hash_backN (putL s.n 4) (h32 s.content++(putL s.len 4++(putL s.start 4++(putL s.count 4++putL s.clock 4)))) h1
  rw[p1] at this
  rw[←hS]
  exact this
 have f3:hashN S (36:Nat)=h32 s.content∧hashA S (36:Nat)=((36:Nat):Int)+32∧thereB S (36:Nat) 32=true:=by
  have:=hash_backN (putL s.n 4++h32 s.prev) (putL s.len 4++(putL s.start 4++(putL s.count 4++putL s.clock 4))) h2
  rw[List.length_append,p1,h1,List.append_assoc] at this
  rw[←hS]
  exact this
 have f4:numN S (68:Nat) (4:Nat)=s.len∧numA S (68:Nat) (4:Nat)=((68:Nat):Int)+(4:Nat)∧numOk S (68:Nat) (4:Nat)=true:=by
  have:=numN_back (putL s.n 4++(h32 s.prev++h32 s.content)) (putL s.start 4++(putL s.count 4++putL s.clock 4)) (n:=s.len) (b:=4) rfl l1 (by omega) (by omega)
  simp only[List.length_append,p1,h1,h2,List.append_assoc] at this
  rw[←hS]
  exact this
 have f5:numN S (72:Nat) (4:Nat)=s.start∧numA S (72:Nat) (4:Nat)=((72:Nat):Int)+(4:Nat)∧numOk S (72:Nat) (4:Nat)=true:=by
  have:=numN_back (putL s.n 4++(h32 s.prev++(h32 s.content++putL s.len 4))) (putL s.count 4++putL s.clock 4) (n:=s.start) (b:=4) rfl s1 (by omega) (by omega)
  simp only[List.length_append,p1,h1,h2,p4,List.append_assoc] at this
  rw[←hS]
  exact this
 have f6:numN S (76:Nat) (4:Nat)=s.count∧numA S (76:Nat) (4:Nat)=((76:Nat):Int)+(4:Nat)∧numOk S (76:Nat) (4:Nat)=true:=by
  have:=numN_back (putL s.n 4++(h32 s.prev++(h32 s.content++(putL s.len 4++putL s.start 4)))) (putL s.clock 4) (n:=s.count) (b:=4) rfl hc0.1 (by omega) (by omega)
  simp only[List.length_append,p1,h1,h2,p4,p5,List.append_assoc] at this
  rw[←hS]
  exact this
 have f7:numN S (80:Nat) (4:Nat)=s.clock∧numA S (80:Nat) (4:Nat)=((80:Nat):Int)+(4:Nat)∧numOk S (80:Nat) (4:Nat)=true:=by
  have:=numN_back (putL s.n 4++(h32 s.prev++(h32 s.content++(putL s.len 4++(putL s.start 4++putL s.count 4))))) [] (n:=s.clock) (b:=4) rfl k1 (by omega) (by omega)
  simp only[List.length_append,p1,h1,h2,p4,p5,p6,List.append_assoc,List.append_nil] at this
  rw[←hS]
  exact this
 have hsz:(S.size:Int)=84:=by
  rw[←hS,size_mkS]
  unfold slBytes
  simp only[List.length_append,p1,h1,h2,p4,p5,p6,p7]
  rfl
 have hr:slRead S=⟨nS s,84,false⟩:=by
  unfold slRead
  have e1:numA S 0 4=4:=f1.2.1
  have e2:hashA S 4=36:=f2.2.1
  have e3:hashA S 36=68:=f3.2.1
  have e4:numA S 68 4=72:=f4.2.1
  have e5:numA S 72 4=76:=f5.2.1
  have e6:numA S 76 4=80:=f6.2.1
  have e7:numA S 80 4=84:=f7.2.1
  have o1:numOk S 0 4=true:=f1.2.2
  have o2:thereB S 4 32=true:=f2.2.2
  have o3:thereB S 36 32=true:=f3.2.2
  have o4:numOk S 68 4=true:=f4.2.2
  have o5:numOk S 72 4=true:=f5.2.2
  have o6:numOk S 76 4=true:=f6.2.2
  have o7:numOk S 80 4=true:=f7.2.2
  have v1:numN S 0 4=s.n:=f1.1
  have v2:hashN S 4=h32 s.prev:=f2.1
  have v3:hashN S 36=h32 s.content:=f3.1
  have v4:numN S 68 4=s.len:=f4.1
  have v5:numN S 72 4=s.start:=f5.1
  have v6:numN S 76 4=s.count:=f6.1
  have v7:numN S 80 4=s.clock:=f7.1
  simp only[e1,e2,e3,e4,e5,e6,e7,o1,o2,o3,o4,o5,o6,o7,v1,v2,v3,v4,v5,v6,v7]
  rfl
 rw[slTxt_mk,hS]
 unfold slDec
 rw[hr,hsz]
 simp only[slOk_nS,h]
 rfl
theorem slOf_blk {s:Sl} (h:slOk s=true) (hf:frCheck ⟨83,s.n,0,slTxt s⟩=0):slOf (mkS (slBlk s).1)=(nS s,0):=by
 unfold slOf slBlk
 rw[if_pos h,ls_mkS,frDec_enc hf]
 simp only[slDec_txt h]
 simp[nS]
theorem slOf_other {f:Fr} (hf:frCheck f=0) (hk:f.kind≠83):(slOf (mkS (frEnc f).1)).2≠0:=by
 unfold slOf
 rw[ls_mkS,frDec_enc hf]
 simp only[ne_eq,not_true_eq_false,if_false,hk,not_false_eq_true,decide_true,Bool.true_or,Bool.or_true,if_true]
 decide
end Go.Proofs.YtdkeiefgkgpcbaaGreatDoor
namespace Go.Proofs.YtdkeiefgkgpcbaaGreatDoor
open Go.RowKit
theorem toList_inj {a b:ByteArray} (h:a.toList=b.toList):a=b:=by
 rw[toList_ls,toList_ls] at h
 rw[←mkS_ls a,←mkS_ls b,h]
structure Reads (s:ByteArray) (a:Int) (l:List UInt8) (x:Int):Prop where
 lo:0≤a
 eq:x=a+l.length
 hi:x≤s.size
 bytes:sub s a l.length=l
theorem Reads.nil {s:ByteArray} {a:Int} (h0:0≤a) (h1:a≤s.size):Reads s a [] a:=⟨h0,by simp,h1,by simp[sub]⟩
theorem sub_cat (s:ByteArray) (a n m:Nat):sub s a ((n+m:Nat):Int)=sub s a n++sub s ((a:Int)+n) m:=by
 have e:((a:Int)+n).toNat=a+n:=by omega
 unfold sub
 rw[e]
 simp only[Int.toNat_natCast]
 rw[List.take_add,List.drop_drop]
theorem Reads.split {s:ByteArray} {a y:Int} {l m:List UInt8} (h:Reads s a (l++m) y):Reads s a l (a+l.length)∧Reads s (a+l.length) m y:=by
 obtain⟨h1,h2,h3,h4⟩:=h
 obtain⟨a,rfl⟩:=Int.eq_ofNat_of_zero_le h1
 rw[List.length_append] at h2 h4
 rw[sub_cat] at h4
 have hl:(sub s a l.length).length=l.length:=sub_length s a _ (by omega)
 obtain⟨e1,e2⟩:=List.append_inj h4 hl
 exact⟨⟨h1,rfl,by omega,e1⟩,⟨by omega,by omega,h3,e2⟩⟩
theorem Reads.mid (A M C:List UInt8):Reads (mkS (A++(M++C))) A.length M ((A.length:Int)+M.length):=
 ⟨by omega,rfl,by simp[size_mkS];omega,sub_mid A M C⟩
theorem putL_fits {n:Int} {b:Nat} (h:fitsB n b=true):putL n b=be b n.toNat:=by
 unfold putL putF
 rw[if_pos h]
 rfl
theorem reads_num {s:ByteArray} {a n x:Int} {b:Nat} (hf:fitsB n b=true) (hn:n≤9223372036854775807) (h:Reads s a (putL n b) x):numOk s a b=true∧numN s a b=n∧numA s a b=x:=by
 have hb:sizeB b=true:=by simp only[fitsB,Bool.and_eq_true] at hf;exact hf.1
 have hfl:(decide ((8:Int)≤b)||decide (n.toNat<256 ^ (b:Int).toNat))=true:=by simp only[fitsB,Bool.and_eq_true] at hf;exact hf.2.2
 have h0:0≤n:=by simp only[fitsB,Bool.and_eq_true,decide_eq_true_eq] at hf;exact hf.2.1
 rw[putL_fits hf] at h
 obtain⟨h1,h2,h3,h4⟩:=h
 rw[be_length] at h2 h4
 have hlt:n.toNat<256 ^ b:=by
  have hr:=sizeB_range hb
  rcases Bool.or_eq_true _ _ ▸ hfl with h |h
  ·have h8:b=8:=by have:=of_decide_eq_true h;omega
   subst h8
   have:(256:Nat) ^ 8=18446744073709551616:=by decide
   omega
  ·simpa using of_decide_eq_true h
 have hbv:bv (be b n.toNat)=n.toNat:=bv_be n.toNat b hlt
 have ht:thereB s a b=true:=by simp[thereB];omega
 have hg:getF s a b=some (n.toNat,a+b):=by
  unfold getF
  rw[hb,ht,h4,hbv,if_pos (by decide),if_pos (by omega)]
 unfold numOk numN numA
 rw[hg]
 exact⟨rfl,by show((n.toNat:Nat):Int)=n;omega,h2.symm⟩
theorem textL_short {t:ByteArray} (h:t.size≤65535):textL t=be 2 t.size++ls t:=by
 unfold textL putTextF
 rw[if_pos h]
theorem reads_text {s t:ByteArray} {a x:Int} (ht:t.size≤65535) (h:Reads s a (textL t) x):textOk s a=true∧textN s a=t∧textA s a=x:=by
 rw[textL_short ht] at h
 obtain⟨h1,h2⟩:=h.split
 rw[be_length] at h1 h2
 have hf:fitsB (t.size:Int) (2:Nat)=true:=by simp[fitsB,sizeB];omega
 have hp:putL (t.size:Int) (2:Nat)=be 2 t.size:=by rw[putL_fits hf];rfl
 rw[←hp] at h1
 obtain⟨k1,k2,k3⟩:=reads_num hf (by omega) h1
 have hg:getF s a 2=some (t.size,a+2):=by
  unfold numOk at k1
  unfold numN at k2
  unfold numA at k3
  rw[show((2:Nat):Int)=2 from rfl] at k1 k2 k3
  cases hq:getF s a 2 with
  |none=>rw[hq] at k1;cases k1
  |some q=>
   obtain⟨n,y⟩:=q
   rw[hq] at k2 k3
   simp only at k2 k3
   rw[show n=t.size from by omega,k3]
 obtain⟨g1,g2,g3,g4⟩:=h2
 rw[ls_length] at g2 g4
 have hg':getTextF s a=some (ls t,x):=by
  unfold getTextF
  rw[hg]
  simp only
  rw[if_pos (by omega),show((a:Int)+2)=a+(2:Nat) from rfl,g4,←g2]
 unfold textOk textN textA
 rw[hg']
 exact⟨rfl,mkS_ls t,rfl⟩
theorem reads_hash {s:ByteArray} {a x:Int} {l:List UInt8} (hl:l.length=32) (h:Reads s a l x):thereB s a 32=true∧hashN s a=l∧hashA s a=x:=by
 obtain⟨h1,h2,h3,h4⟩:=h
 rw[hl] at h2 h4
 have ht:thereB s a 32=true:=by simp[thereB];omega
 refine⟨ht,?_,?_⟩
 ·unfold hashN;rw[if_pos ht];exact h4
 ·unfold hashA;rw[if_pos ht,h2];rfl
theorem entEq_ent0 {e:Ent} (h:entEq e ent0=true):e.kind=0∧e.stream=0∧e.n=0∧e.len=0∧e.name=noS∧h32 e.hash=zeros 32∧e.start=0∧e.count=0:=by
 simp only[entEq,Bool.and_eq_true,beq_iff_eq] at h
 obtain⟨h1,h2,h3,h4,h5,h6,⟨h7,h8,_⟩,_⟩:=h
 exact⟨h1,h2,h3,h4,toList_inj h5,h6,h7,h8⟩
def setF (e x:Ent) (f:Int):Ent:=
 if f=0 then {x with stream:=e.stream} else if f=1 then {x with n:=e.n} else if f=2 then {x with name:=e.name} else {x with len:=e.len,hash:=e.hash,start:=e.start,count:=e.count}
theorem check_parts {e:Ent} (h:checkB e=true):(∀f∈fieldsL e.kind,stepOk e f=true)∧fieldsL e.kind≠[]∧entEq ((fieldsL e.kind).foldl strip {e with kind:=0}) ent0=true:=by
 simp only[checkB,Bool.and_eq_true,List.all_eq_true] at h
 exact⟨h.1.1,by have:=h.1.2;intro h0;simp[h0] at this,h.2⟩
theorem check_kind {e:Ent} (h:checkB e=true):1≤e.kind∧e.kind≤6:=by
 have h1:=(check_parts h).2.1
 rcases kind_cases e.kind with h |h |h |h |h |h |⟨a,b,c,d,e',f⟩
 all_goals first|omega |(exfalso;apply h1;unfold fieldsL;simp[a,b,c,d,e',f])
theorem check_whole {e:Ent} (h:checkB e=true) (he:e.hash.length=32):(fieldsL e.kind).foldl (setF e) (entK e.kind)=e:=by
 have h2:=entEq_ent0 (check_parts h).2.2
 obtain⟨k,s,n,l,nm,hs,st,c⟩:=e
 simp only at he
 rcases kind_cases k with rfl |rfl |rfl |rfl |rfl |rfl |⟨a,b,c,d,e',f⟩
 ·obtain⟨_,h3,h4,h5,h6,h7,h8,h9⟩:=h2
  obtain rfl:s=0:=h3
  obtain rfl:n=0:=h4
  obtain rfl:l=0:=h5
  obtain rfl:hs=zeros 32:=by rw[←h32_of hs he];exact h7
  obtain rfl:st=0:=h8
  obtain rfl:c=0:=h9
  rfl
 ·obtain⟨_,h3,h4,h5,h6,h7,h8,h9⟩:=h2
  obtain rfl:nm=noS:=h6
  rfl
 ·obtain⟨_,h3,h4,h5,h6,h7,h8,h9⟩:=h2
  obtain rfl:nm=noS:=h6
  obtain rfl:l=0:=h5
  obtain rfl:hs=zeros 32:=by rw[←h32_of hs he];exact h7
  obtain rfl:st=0:=h8
  obtain rfl:c=0:=h9
  rfl
 ·obtain⟨_,h3,h4,h5,h6,h7,h8,h9⟩:=h2
  obtain rfl:n=0:=h4
  obtain rfl:l=0:=h5
  obtain rfl:hs=zeros 32:=by rw[←h32_of hs he];exact h7
  obtain rfl:st=0:=h8
  obtain rfl:c=0:=h9
  rfl
 ·obtain⟨_,h3,h4,h5,h6,h7,h8,h9⟩:=h2
  obtain rfl:n=0:=h4
  obtain rfl:l=0:=h5
  obtain rfl:hs=zeros 32:=by rw[←h32_of hs he];exact h7
  obtain rfl:st=0:=h8
  obtain rfl:c=0:=h9
  rfl
 ·obtain⟨_,h3,h4,h5,h6,h7,h8,h9⟩:=h2
  obtain rfl:nm=noS:=h6
  obtain rfl:l=0:=h5
  obtain rfl:hs=zeros 32:=by rw[←h32_of hs he];exact h7
  obtain rfl:st=0:=h8
  obtain rfl:c=0:=h9
  rfl
 ·exact absurd (by unfold fieldsL;simp[a,b,c,d,e',f]) (check_parts h).2.1
theorem fits1 {n:Int} (h0:0≤n) (h:n≤255):fitsB n (1:Nat)=true:=by simp[fitsB,sizeB];omega
theorem fits2 {n:Int} (h0:0≤n) (h:n≤65535):fitsB n (2:Nat)=true:=by simp[fitsB,sizeB];omega
theorem fits4 {n:Int} (h0:0≤n) (h:n≤4294967295):fitsB n (4:Nat)=true:=by simp[fitsB,sizeB];omega
theorem within_iff {n m:Int}:withinB n m=true↔0≤n∧n≤m:=by simp[withinB]
theorem reads_field {s:ByteArray} {e:Ent} {f y:Int} {x:Rd} (he:e.hash.length=32) (hf:f=0∨f=1∨f=2∨f=3) (hok:stepOk e f=true) (hb:x.bad=false) (h:Reads s x.a (fieldBytes e f) y):fieldR s x f=⟨y,false,setF e x.e f⟩:=by
 rcases hf with rfl |rfl |rfl |rfl
 ·obtain⟨h0,h1⟩:=within_iff.1 (show withinB e.stream 7=true from hok)
  obtain⟨k1,k2,k3⟩:=reads_num (b:=1) (fits1 h0 (by omega)) (by omega) h
  unfold fieldR
  rw[if_pos rfl]
  rw[show((1:Nat):Int)=1 from rfl] at k1 k2 k3
  rw[k1,k2,k3,hb]
  rfl
 ·obtain⟨h0,h1⟩:=within_iff.1 (show withinB e.n (mostN e.kind)=true from hok)
  have h2:e.n≤1073741824:=by unfold mostN at h1;split at h1<;>omega
  obtain⟨k1,k2,k3⟩:=reads_num (b:=4) (fits4 h0 (by omega)) (by omega) h
  unfold fieldR
  rw[if_neg (by decide),if_pos rfl]
  rw[show((4:Nat):Int)=4 from rfl] at k1 k2 k3
  rw[k1,k2,k3,hb]
  rfl
 ·have h1:e.name.size≤12:=by
   have:nameOk e.name=true:=hok
   simp[nameOk] at this
   omega
  obtain⟨k1,k2,k3⟩:=reads_text (by omega) (show Reads s x.a (textL e.name) y from h)
  unfold fieldR
  rw[if_neg (by decide),if_neg (by decide),if_pos rfl]
  rw[k1,k2,k3,hb]
  rfl
 ·have h3:(withinB e.len 300&&(withinB e.start 512&&(decide (0<e.count)&&withinB e.count (512-e.start))))=true:=hok
  simp only[Bool.and_eq_true,within_iff] at h3
  obtain⟨⟨a1,a2⟩,⟨a3,a4⟩,a5,a6,a7⟩:=h3
  have h:Reads s x.a (((putL e.len 2++e.hash)++putL e.start 2)++putL e.count 2) y:=h
  obtain⟨q3,q4⟩:=h.split
  obtain⟨q2,q3⟩:=q3.split
  obtain⟨q1,q2⟩:=q2.split
  obtain⟨k1,k2,k3⟩:=reads_num (b:=2) (fits2 a1 (by omega)) (by omega) q1
  rw[←k3] at q2
  obtain⟨l1,l2,l3⟩:=reads_hash he q2
  have q3':Reads s (hashA s (numA s x.a 2)) (putL e.start 2) (x.a+((putL e.len 2++e.hash)++putL e.start 2).length):=by
   have hx:=q2.eq
   have hy:=q3
   rw[List.length_append] at hy
   rw[show hashA s (numA s x.a 2)=x.a+((putL e.len 2).length+e.hash.length:Nat) from by
    rw[show(numA s x.a 2)=numA s x.a (2:Nat) from rfl,l3];simp]
   refine⟨hy.lo,?_,?_,hy.bytes⟩
   ·simp;omega
   ·have:=q4.lo;have:=q4.hi;have:=q4.eq;simp at*;omega
  obtain⟨m1,m2,m3⟩:=reads_num (b:=2) (fits2 a3 (by omega)) (by omega) q3'
  rw[←m3] at q4
  obtain⟨n1,n2,n3⟩:=reads_num (b:=2) (fits2 (by omega) (by omega)) (by omega) q4
  unfold fieldR
  rw[if_neg (by decide),if_neg (by decide),if_neg (by decide)]
  rw[show((2:Nat):Int)=2 from rfl] at*
  rw[k1,k2,l1,l2,m1,m2,n1,n2,n3,hb]
  rfl
theorem reads_fields {s:ByteArray} {e:Ent} (he:e.hash.length=32):∀(fs:List Int) {y:Int} {x:Rd},(∀f∈fs,f=0∨f=1∨f=2∨f=3)→(∀f∈fs,stepOk e f=true)→x.bad=false→Reads s x.a (fs.flatMap (fieldBytes e)) y→
  fs.foldl (fieldR s) x=⟨y,false,fs.foldl (setF e) x.e⟩
 | [],y,x,_,_,hb,h=>by
  have hy:y=x.a:=by have:=h.eq;simpa using this
  cases x;simp only at hb hy;subst hb hy;rfl
 |f::fs,y,x,hf,hok,hb,h=>by
  rw[List.flatMap_cons] at h
  obtain⟨h1,h2⟩:=h.split
  rw[List.foldl_cons,reads_field he (hf f (by simp)) (hok f (by simp)) hb h1]
  exact reads_fields he fs (fun g hg=>hf g (by simp[hg])) (fun g hg=>hok g (by simp[hg])) rfl h2
theorem reads_ent {s:ByteArray} {e:Ent} {a y:Int} (he:e.hash.length=32) (hc:checkB e=true) (h:Reads s a (entBytes e) y):entR s a false=⟨y,false,e⟩:=by
 obtain⟨h1,h2⟩:=h.split
 have hk:=check_kind hc
 obtain⟨k1,k2,k3⟩:=reads_num (b:=1) (fits1 (by omega) (by omega)) (by omega) h1
 rw[show((1:Nat):Int)=1 from rfl] at k1 k2 k3
 unfold entR
 rw[k1,k2,k3,reads_fields he (fieldsL e.kind) (x:=⟨_,false|| !true,_⟩) (fieldsL_range _) (check_parts hc).1 rfl h2,check_whole hc he]
theorem reads_ents {s:ByteArray}:∀(l:List Ent) {a y:Int},(∀e∈l,e.hash.length=32)→(l.all checkB=true)→Reads s a (l.flatMap entBytes) y→decL s l.length a false=some (l,y,false)
 | [],a,y,_,_,h=>by
  have hy:y=a:=by have:=h.eq;simpa using this
  subst hy;rfl
 |e::l,a,y,he,hc,h=>by
  rw[List.flatMap_cons] at h
  obtain⟨h1,h2⟩:=h.split
  rw[List.all_cons,Bool.and_eq_true] at hc
  have hr:=reads_ent (he e (by simp)) hc.1 h1
  rw[List.length_cons,decL_step s l.length a false (by rw[hr,hc.1];rfl),hr]
  show Option.map _ (decL s l.length _ false)=_
  rw[reads_ents l (fun x hx=>he x (by simp[hx])) hc.2 h2]
  rfl
theorem enc_ok {m:List Ent} {l:List UInt8} (h:encF m=(l,0)):m.all checkB=true∧m.length≤200∧l=encBytes m:=by
 unfold encF at h
 split at h
 ·split at h
  ·rename_i h1 h2
   simp only[Prod.mk.injEq] at h
   exact⟨h1,h2,h.1.symm⟩
  ·simp at h
 ·simp at h
theorem dec_enc {m:List Ent} {l more:List UInt8} (h:encF m=(l,0)) (he:∀e∈m,e.hash.length=32):decF (mkS (l++more))=if more=[] then some m else none:=by
 obtain⟨h1,h2,rfl⟩:=enc_ok h
 have r:=Reads.mid [] (encBytes m) more
 rw[List.nil_append] at r
 obtain⟨r1,r2⟩:=r.split
 rw[show(([]:List UInt8).length:Int)=0 from rfl] at r1 r2
 obtain⟨k1,k2,k3⟩:=reads_num (b:=2) (fits2 (by omega) (by omega)) (by omega) r1
 rw[show((2:Nat):Int)=2 from rfl] at k1 k2 k3
 rw[←k3] at r2
 have hd:=reads_ents m he h1 r2
 have hN:decN (mkS (encBytes m++more))=m.length:=by unfold decN;rw[k2];omega
 unfold decF
 rw[hN,k1,k2]
 simp only[Bool.not_true,hd,Bool.false_or,Int.zero_add]
 have h200:decide (200<(m.length:Int))=false:=by simp;omega
 rw[h200,Bool.false_or]
 by_cases hm:more=[]
 ·subst hm
  have:decide (((encBytes m).length:Int)<((mkS (encBytes m++[])).size:Int))=false:=by simp[size_mkS]
  rw[this];rfl
 ·have:decide (((encBytes m).length:Int)<((mkS (encBytes m++more)).size:Int))=true:=by
   have:0<more.length:=List.length_pos_iff.2 hm
   simp[size_mkS];omega
  rw[this,if_neg hm];rfl
end Go.Proofs.YtdkeiefgkgpcbaaGreatDoor
