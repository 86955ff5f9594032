/- UTF-8: a sequence's size, by its bytes and by the model's decoding. -/
import Derived.Test.YtofplaamkkpciaaGreatDoorAbPlain
import Derived.Lib.DecodeN
import Derived.Lib.DecodeNEq
set_option linter.unusedVariables false
set_option linter.unusedSimpArgs false
set_option linter.unnecessarySimpa false
namespace Go.Ab
open Go
def ac1(n o m t z:Nat):Nat:=
 if o<128 then 1
 else if 194<=o/\o<=223/\(1<n/\128<=m/\m<=191)then 2
 else if o=224/\(1<n/\160<=m/\m<=191)/\(2<n/\128<=t/\t<=191)then 3
 else if o=237/\(1<n/\128<=m/\m<=159)/\(2<n/\128<=t/\t<=191)then 3
 else if 225<=o/\o<=239/\o≠237/\(1<n/\128<=m/\m<=191)/\(2<n/\128<=t/\t<=191)then 3
 else if o=240/\(1<n/\144<=m/\m<=191)/\(2<n/\128<=t/\t<=191)/\(3<n/\128<=z/\z<=191)then 4
 else if 241<=o/\o<=243/\(1<n/\128<=m/\m<=191)/\(2<n/\128<=t/\t<=191)/\(3<n/\128<=z/\z<=191)then 4
 else if o=244/\(1<n/\128<=m/\m<=143)/\(2<n/\128<=t/\t<=191)/\(3<n/\128<=z/\z<=191)then 4
 else 0
theorem bft(n m o t z:Nat)(h:194<=m/\m<224):ac1 n m o t z=if(1<n/\128<=o/\o<=191)then 2 else 0:=by unfold ac1;grind
theorem bfm(n o m t z:Nat)(J:1<=n)(G:m<256)(H:t<256)(I:z<256)(h:194<=o/\o<224):
 ac1 n o m t z=if(Lib.decodeN n o m t z).1=65533/\¬(2<n/\o=239/\m=191/\t=189)then 0 else(Lib.decodeN n o m t z).2:=by
 rw[bft n o m t z h,<-Lib.slow_C2 n o m t z J G H I h]
 by_cases c:(1<n/\128<=m/\m<=191)
 ·rw[if_pos c];have e:Lib.slowN n o m t z 2 128 191=(o%32*64+m%64,2):=by
   unfold Lib.slowN;grind
  grind
 ·rw[if_neg c];have e:Lib.slowN n o m t z 2 128 191=(65533,1):=by
   unfold Lib.slowN;grind
  grind
theorem bfu(n t m o z:Nat)(h:t=224):ac1 n t m o z=if(1<n/\160<=m/\m<=191)/\(2<n/\128<=o/\o<=191)then 3 else 0:=by unfold ac1;grind
theorem bfn(n t m o z:Nat)(J:1<=n)(G:m<256)(H:o<256)(I:z<256)(h:t=224):
 ac1 n t m o z=if(Lib.decodeN n t m o z).1=65533/\¬(2<n/\t=239/\m=191/\o=189)then 0 else(Lib.decodeN n t m o z).2:=by
 rw[bfu n t m o z h,<-Lib.slow_E0 n t m o z J G H I h]
 by_cases c:(1<n/\160<=m/\m<=191)/\(2<n/\128<=o/\o<=191)
 ·rw[if_pos c];have e:Lib.slowN n t m o z 3 160 191=(t%16*4096+m%64*64+o%64,3):=by
   unfold Lib.slowN;grind
  grind
 ·rw[if_neg c];have e:Lib.slowN n t m o z 3 160 191=(65533,1):=by
   unfold Lib.slowN;grind
  grind
theorem bfv(n m o t z:Nat)(h:(225<=m/\m<237)\/(238<=m/\m<240)):ac1 n m o t z=if(1<n/\128<=o/\o<=191)/\(2<n/\128<=t/\t<=191)then 3 else 0:=by
 unfold ac1;by_cases c:(1<n/\128<=o/\o<=191)/\(2<n/\128<=t/\t<=191)
 ·rw[if_neg (by omega),if_neg (by omega),if_neg (by omega),if_neg (by omega),if_pos (by omega),if_pos c]
 grind
theorem bfo(n m o t z:Nat)(J:1<=n)(G:o<256)(H:t<256)(I:z<256)(h:(225<=m/\m<237)\/(238<=m/\m<240)):
 ac1 n m o t z=if(Lib.decodeN n m o t z).1=65533/\¬(2<n/\m=239/\o=191/\t=189)then 0 else(Lib.decodeN n m o t z).2:=by
 rw[bfv n m o t z h,<-Lib.slow_E1 n m o t z J G H I h]
 by_cases c:(1<n/\128<=o/\o<=191)/\(2<n/\128<=t/\t<=191)
 ·rw[if_pos c];have e:Lib.slowN n m o t z 3 128 191=(m%16*4096+o%64*64+t%64,3):=by
   unfold Lib.slowN;grind
  grind
 ·rw[if_neg c];have e:Lib.slowN n m o t z 3 128 191=(65533,1):=by
   unfold Lib.slowN;grind
  grind
theorem bfw(n t m o z:Nat)(h:t=237):ac1 n t m o z=if(1<n/\128<=m/\m<=159)/\(2<n/\128<=o/\o<=191)then 3 else 0:=by unfold ac1;grind
theorem bfp(n t m o z:Nat)(J:1<=n)(G:m<256)(H:o<256)(I:z<256)(h:t=237):
 ac1 n t m o z=if(Lib.decodeN n t m o z).1=65533/\¬(2<n/\t=239/\m=191/\o=189)then 0 else(Lib.decodeN n t m o z).2:=by
 rw[bfw n t m o z h,<-Lib.slow_ED n t m o z J G H I h]
 by_cases c:(1<n/\128<=m/\m<=159)/\(2<n/\128<=o/\o<=191)
 ·rw[if_pos c];have e:Lib.slowN n t m o z 3 128 159=(t%16*4096+m%64*64+o%64,3):=by
   unfold Lib.slowN;grind
  grind
 ·rw[if_neg c];have e:Lib.slowN n t m o z 3 128 159=(65533,1):=by
   unfold Lib.slowN;grind
  grind
theorem bfx(n z m o t:Nat)(h:z=240):ac1 n z m o t=if(1<n/\144<=m/\m<=191)/\(2<n/\128<=o/\o<=191)/\(3<n/\128<=t/\t<=191)then 4 else 0:=by unfold ac1;grind
theorem bfq(n z m o t:Nat)(J:1<=n)(G:m<256)(H:o<256)(I:t<256)(h:z=240):
 ac1 n z m o t=if(Lib.decodeN n z m o t).1=65533/\¬(2<n/\z=239/\m=191/\o=189)then 0 else(Lib.decodeN n z m o t).2:=by
 rw[bfx n z m o t h,<-Lib.slow_F0 n z m o t J G H I h]
 by_cases c:(1<n/\144<=m/\m<=191)/\(2<n/\128<=o/\o<=191)/\(3<n/\128<=t/\t<=191)
 ·rw[if_pos c];have e:Lib.slowN n z m o t 4 144 191=(z%8*262144+m%64*4096+o%64*64+t%64,4):=by
   unfold Lib.slowN;grind
  grind
 ·rw[if_neg c];have e:Lib.slowN n z m o t 4 144 191=(65533,1):=by
   unfold Lib.slowN;grind
  grind
theorem bfy(n m o t z:Nat)(h:241<=m/\m<244):ac1 n m o t z=if(1<n/\128<=o/\o<=191)/\(2<n/\128<=t/\t<=191)/\(3<n/\128<=z/\z<=191)then 4 else 0:=by unfold ac1;grind
theorem bfr(n t m o z:Nat)(J:1<=n)(G:m<256)(H:o<256)(I:z<256)(h:241<=t/\t<244):
 ac1 n t m o z=if(Lib.decodeN n t m o z).1=65533/\¬(2<n/\t=239/\m=191/\o=189)then 0 else(Lib.decodeN n t m o z).2:=by
 rw[bfy n t m o z h,<-Lib.slow_F1 n t m o z J G H I h]
 by_cases c:(1<n/\128<=m/\m<=191)/\(2<n/\128<=o/\o<=191)/\(3<n/\128<=z/\z<=191)
 ·rw[if_pos c];have e:Lib.slowN n t m o z 4 128 191=(t%8*262144+m%64*4096+o%64*64+z%64,4):=by
   unfold Lib.slowN;grind
  grind
 ·rw[if_neg c];have e:Lib.slowN n t m o z 4 128 191=(65533,1):=by
   unfold Lib.slowN;grind
  grind
theorem bfz(n z m o t:Nat)(h:z=244):ac1 n z m o t=if(1<n/\128<=m/\m<=143)/\(2<n/\128<=o/\o<=191)/\(3<n/\128<=t/\t<=191)then 4 else 0:=by unfold ac1;grind
theorem bfs(n z m o t:Nat)(J:1<=n)(G:m<256)(H:o<256)(I:t<256)(h:z=244):
 ac1 n z m o t=if(Lib.decodeN n z m o t).1=65533/\¬(2<n/\z=239/\m=191/\o=189)then 0 else(Lib.decodeN n z m o t).2:=by
 rw[bfz n z m o t h,<-Lib.slow_F4 n z m o t J G H I h]
 by_cases c:(1<n/\128<=m/\m<=143)/\(2<n/\128<=o/\o<=191)/\(3<n/\128<=t/\t<=191)
 ·rw[if_pos c];have e:Lib.slowN n z m o t 4 128 143=(z%8*262144+m%64*4096+o%64*64+t%64,4):=by
   unfold Lib.slowN;grind
  grind
 ·rw[if_neg c];have e:Lib.slowN n z m o t 4 128 143=(65533,1):=by
   unfold Lib.slowN;grind
  grind
theorem ayv(n m o t z:Nat)(M:1<=n)(G:m<256)(H:o<256)(I:t<256)(J:z<256):
 ac1 n m o t z=if(Lib.decodeN n m o t z).1=65533/\¬(2<n/\m=239/\o=191/\t=189)then 0 else(Lib.decodeN n m o t z).2:=by
 by_cases g:194<=m/\m<=244
 ·grind[bfm,bfn,bfp,bfo,bfq,bfs,bfr]
 ·by_cases a:m<128
  ·have e:Lib.firstT m=240:=by unfold Lib.firstT;rw[if_pos a]
   rw[Lib.ascii_eq n m o t z e];unfold ac1;grind
  ·have e:Lib.firstT m=241:=by
    unfold Lib.firstT;grind
   rw[Lib.bad_eq n m o t z G e,if_pos ⟨rfl,by omega⟩];unfold ac1;grind
def byteAt(s:Bn)(i:Nat):Nat:=(s.getD i 0).toNat
theorem acj(s:Bn)(i:Nat):byteAt s i<256:=(s.getD i 0).toNat_lt
def sizeAt(s:Bn)(i:Nat):Nat:=ac1 (s.length-i) (byteAt s i) (byteAt s (i+1)) (byteAt s (i+2)) (byteAt s (i+3))
def aao(s:Bn)(i:Nat):Nat×Nat:=Lib.decodeN (s.length-i) (byteAt s i) (byteAt s (i+1)) (byteAt s (i+2)) (byteAt s (i+3))
theorem aif(s:Bn)(i:Nat):Utf8.decode ⟨s.toArray⟩ i=aao s i:=by
 rw[Lib.decode_at];have m:∀j,((⟨s.toArray⟩:ByteArray).get! j).toNat=byteAt s j:=by intro j;show((s.toArray)[j]!).toNat=_;simp[byteAt,List.getD];rfl
 rw[m,m,m,m];rfl
theorem ahs(s:Bn)(i:Nat)(m:i<s.length):sizeAt s i=if(aao s i).1=65533/\¬(2<s.length-i/\byteAt s i=239/\byteAt s (i+1)=191/\byteAt s (i+2)=189)then 0 else(aao s i).2:=
 ayv _ _ _ _ _ (by omega) (acj _ _) (acj _ _) (acj _ _) (acj _ _)
theorem av7(n m o t z:Nat)(G:0<n):ac1 n m o t z<=n/\ac1 n m o t z<=4:=by grind[ac1]
theorem apx(n m o t z:Nat):1<=(Lib.decodeN n m o t z).2/\(Lib.decodeN n m o t z).2<=4:=by grind[Lib.decodeN]
theorem bh0(s:Bn)(i:Nat)(o:i<=s.length):(decide ((((s.take s.length).drop i).length:Int)>=3)&&((((s.take s.length).drop i).take 3)==([239,191,189]:Bn)))=decide (2<s.length-i/\byteAt s i=239/\byteAt s (i+1)=191/\byteAt s (i+2)=189):=by
 rw[List.take_length];rw[Bool.eq_iff_iff];simp only[Ai,Ax,beq_iff_eq,Bj,ge_iff_le];have m:∀(x:UInt8)(k:Nat),k<256->(x.toNat=k ↔ x=UInt8.ofNat k):=by
  intro x k t;constructor
  ·intro h;rw[<-h];exact UInt8.ofNat_toNat.symm
  grind[UInt8.toNat_ofNat']
 unfold byteAt;rw[m _ 239 (by omega),m _ 191 (by omega),m _ 189 (by omega)];grind[List.getD,List.getElem?_take_of_lt,aa2]
def badF:Nat->Bn->Nat->Int
 |0,_,_=>-1
 |n+1,s,i=>if i<s.length then(if sizeAt s i=0 then(i:Int)else badF n s (i+sizeAt s i))else -1
theorem azi:∀(n m:Nat)(s:Bn)(i:Nat),s.length-i<n->s.length-i<m->badF n s i=badF m s i:=by
 intro n;induction n with
 |zero=>grind
 |succ n t=>intro m s i h o;obtain⟨k,rfl⟩:∃k,m=k+1:=⟨m-1,by omega⟩;unfold badF;grind
def afa(s:Bn)(i:Nat):Int:=badF (s.length-i+1) s i
theorem ajb(s:Bn)(i:Nat):afa s i=if i<s.length then(if sizeAt s i=0 then(i:Int)else afa s (i+sizeAt s i))else -1:=by
 unfold afa;rw[badF];by_cases m:i<s.length
 ·simp only[m,A8];by_cases o:sizeAt s i=0
  ·grind
  ·simp only[o,A9];grind[azi]
 grind
def bad(s:Bn):Int:=afa s 0
def valid(s:Bn):Bool:=decide (bad s<0)
end Go.Ab
namespace Go.Ab
open Go
theorem enc1(r:Nat)(m:r<128):(Utf8.encode (r:Int)).data.toList=[UInt8.ofNat r]:=by
 have v:Utf8.valid (r:Int)=true:=by grind[Utf8.valid]
 simp[Utf8.encode,v,m]
theorem enc2(r:Nat)(m:¬r<128)(o:r<2048):(Utf8.encode (r:Int)).data.toList=[UInt8.ofNat (192+r / 64),UInt8.ofNat (128+r%64)]:=by
 have v:Utf8.valid (r:Int)=true:=by grind[Utf8.valid]
 simp[Utf8.encode,v,m,o]
theorem enc3(r:Nat)(o:¬r<2048)(t:r<65536)(z:r<55296\/57344<=r):(Utf8.encode (r:Int)).data.toList=[UInt8.ofNat (224+r / 4096),UInt8.ofNat (128+r / 64%64),UInt8.ofNat (128+r%64)]:=by
 have v:Utf8.valid (r:Int)=true:=by grind[Utf8.valid]
 have m:¬r<128:=by omega
 simp[Utf8.encode,v,m,o,t]
theorem enc4(r:Nat)(t:¬r<65536)(z:r<=1114111):(Utf8.encode (r:Int)).data.toList=[UInt8.ofNat (240+r / 262144),UInt8.ofNat (128+r / 4096%64),UInt8.ofNat (128+r / 64%64),UInt8.ofNat (128+r%64)]:=by
 have v:Utf8.valid (r:Int)=true:=by grind[Utf8.valid]
 have m:¬r<128:=by omega
 have o:¬r<2048:=by omega
 simp[Utf8.encode,v,m,o,t]
theorem aum{n m o t z:Nat}(h:m<128):Lib.decodeN n m o t z=(m,1):=by unfold Lib.decodeN;rw[if_pos h]
theorem aw8(n m o t z:Nat)(h:128<=m):128<=(Lib.decodeN n m o t z).1:=by unfold Lib.decodeN;grind
theorem a1h(n m o t z:Nat)(G:1<=n):ac1 n m o t z=0\/(ac1 n m o t z=1/\m<128)\/
 (ac1 n m o t z=2/\194<=m/\m<=223/\1<n/\128<=o/\o<=191)\/
 (ac1 n m o t z=3/\224<=m/\m<=239/\(m=224->160<=o)/\(m=237->o<=159)/\2<n/\128<=o/\o<=191/\128<=t/\t<=191)\/
 (ac1 n m o t z=4/\240<=m/\m<=244/\(m=240->144<=o)/\(m=244->o<=143)/\3<n/\128<=o/\o<=191/\128<=t/\t<=191/\128<=z/\z<=191):=by
 unfold ac1
 repeat' split
 all_goals omega
theorem azy{n m o t z:Nat}(h:194<=m/\m<=223/\1<n/\128<=o/\o<=191):Lib.decodeN n m o t z=(m%32*64+o%64,2):=by unfold Lib.decodeN;grind
theorem aun{n m o t z:Nat}(h:224<=m/\m<=239/\(m=224->160<=o)/\(m=237->o<=159)/\2<n/\128<=o/\o<=191/\128<=t/\t<=191):Lib.decodeN n m o t z=(m%16*4096+o%64*64+t%64,3):=by unfold Lib.decodeN;grind
theorem aw7{n m o t z:Nat}(h:240<=m/\m<=244/\(m=240->144<=o)/\(m=244->o<=143)/\3<n/\128<=o/\o<=191/\128<=t/\t<=191/\128<=z/\z<=191):Lib.decodeN n m o t z=(m%8*262144+o%64*4096+t%64*64+z%64,4):=by unfold Lib.decodeN;grind
theorem azx(n m o t z:Nat)(h:(Lib.decodeN n m o t z).1=65533)(G:¬(2<n/\m=239/\o=191/\t=189))(H:o<256)(I:t<256)(J:z<256)(q0:m<256):(Lib.decodeN n m o t z).2=1:=by grind[Lib.decodeN]
theorem ac7(s:Bn)(i:Nat){k:Nat}(h:k=byteAt s i):UInt8.ofNat k=s.getD i 0:=by subst h;simp[byteAt]
def ad7(s:Bn)(i:Nat):Nat:=if sizeAt s i=0 then 1 else sizeAt s i
theorem aht(s:Bn)(i:Nat):1<=ad7 s i:=by grind[ad7]
theorem arq(s:Bn)(i:Nat)(m:i<s.length):sizeAt s i<=s.length-i/\sizeAt s i<=4:=av7 _ _ _ _ _ (by omega)
theorem at3(s:Bn)(i:Nat)(m:i<s.length):ad7 s i<=s.length-i/\ad7 s i<=4:=by grind[arq,ad7]
theorem bgg(s:Bn)(i:Nat)(m:i<s.length):(aao s i).2=ad7 s i:=by
 unfold ad7;rw[ahs s i m];by_cases h:(aao s i).1=65533/\¬(2<s.length-i/\byteAt s i=239/\byteAt s (i+1)=191/\byteAt s (i+2)=189)
 ·rw[if_pos h,if_pos rfl];exact azx _ _ _ _ _ h.1 h.2 (acj _ _) (acj _ _) (acj _ _) (acj _ _)
 ·rw[if_neg h];have:=(apx (s.length-i) (byteAt s i) (byteAt s (i+1)) (byteAt s (i+2)) (byteAt s (i+3))).1;rw[if_neg (by grind[aao])]
theorem afq(s:Bn)(i:Nat)(h:byteAt s i<128):aao s i=(byteAt s i,1):=aum h
theorem apy(s:Bn)(i:Nat)(h:128<=byteAt s i):128<=(aao s i).1:=aw8 _ _ _ _ _ h
theorem ank(s:Bn)(i:Nat)(h:byteAt s i<128):sizeAt s i=1:=by unfold sizeAt ac1;rw[if_pos h]
theorem ale(s:Bn)(i:Nat)(m:i<s.length)(o:sizeAt s i≠0):(Utf8.encode ((aao s i).1:Int)).data.toList=(s.drop i).take (sizeAt s i):=by
 have t:=acj s (i+1);have z:=acj s (i+2);have G:=acj s (i+3);have H:byteAt s (i+1+1)=byteAt s (i+2):=rfl;have I:byteAt s (i+1+1+1)=byteAt s (i+3):=rfl;rcases a1h (s.length-i) (byteAt s i) (byteAt s (i+1)) (byteAt s (i+2)) (byteAt s (i+3)) (by omega)with h|⟨h,c⟩|⟨h,c⟩|⟨h,c⟩|⟨h,c⟩
 ·exact absurd h o
 ·rw[show sizeAt s i=1 from h,afq s i c,enc1 _ c,aa2 m 0];simp only[List.take_succ_cons,List.take_zero];rw[ac7 s i rfl]
 ·rw[show sizeAt s i=2 from h,show aao s i=_ from azy c,enc2 _ (by simp only;omega) (by simp only;omega),aa2 m 0,aa2 (i:=i+1) (by omega) 0];grind[ac7]
 ·rw[show sizeAt s i=3 from h,show aao s i=_ from aun c,enc3 _ (by simp only;omega) (by simp only;omega) (by simp only;omega),aa2 m 0,aa2 (i:=i+1) (by omega) 0,aa2 (i:=i+1+1) (by omega) 0];simp only[List.take_succ_cons,List.take_zero];rw[ac7 s i (by omega),ac7 s (i+1) (by omega),ac7 s (i+1+1) (by omega)]
 ·rw[show sizeAt s i=4 from h,show aao s i=_ from aw7 c,enc4 _ (by simp only;omega) (by simp only;omega),aa2 m 0,aa2 (i:=i+1) (by omega) 0,aa2 (i:=i+1+1) (by omega) 0,aa2 (i:=i+1+1+1) (by omega) 0];simp only[List.take_succ_cons,List.take_zero];rw[ac7 s i (by omega),ac7 s (i+1) (by omega),ac7 s (i+1+1) (by omega),ac7 s (i+1+1+1) (by omega)]
def hexd(n:Nat):UInt8:=([48,49,50,51,52,53,54,55,56,57,97,98,99,100,101,102]:Bn).getD n 0
def hex2(b:Nat):Bn:=[hexd (b / 16),hexd (b%16)]
def aka(s:Bn)(i:Nat):Bn:=
 if byteAt s i=34 then[92,34]else if byteAt s i=92 then[92,92]else if byteAt s i=10 then[92,110]else if byteAt s i=9 then[92,116]else if byteAt s i=13 then[92,114]
 else if byteAt s i<32\/byteAt s i=127\/sizeAt s i=0 then 92::120::hex2 (byteAt s i)else(s.drop i).take (sizeAt s i)
theorem aq0(s:Bn)(i:Nat)(m:i<s.length):(aka s i).length<=4:=by grind[arq,aka,hex2]
def acu(s:Bn)(i:Nat):Bn:=if i<s.length then aka s i++acu s (i+ad7 s i)else[]
termination_by s.length-i
decreasing_by
 grind[aht]
theorem aho(s:Bn):∀(m i:Nat),s.length-i<=m->(acu s i).length<=4*(s.length-i):=by
 intro m;induction m with
 |zero=>intro i t;rw[acu,if_neg (by omega)];simp
 |succ m H=>
  intro i t;rw[acu];by_cases o:i<s.length
  ·have z:=aq0 s i o;have G:=aht s i;grind
  grind
def akt(s:Bn):Bn:=34::(acu s 0++[34])
end Go.Ab
namespace Go.Ab
open Go
def hexN:Nat->Nat->Bn
 |0,_=>[]
 |n+1,u=>hexN n (u / 16)++[hexd (u%16)]
def hexF:Nat->Nat->Bn
 |0,_=>[]
 |f+1,u=>if u<16 then[hexd u]else hexF f (u / 16)++[hexd (u%16)]
theorem auy:∀n u,(hexN n u).length=n:=by
 intro n;induction n with
 |zero=>intro u;rfl
 |succ n m=>intro u;simp[hexN,m]
theorem a9u:∀n,hexN n 0=List.replicate n 48:=by
 intro n;induction n with
 |zero=>rfl
 |succ n m=>rw[hexN,Nat.zero_div,m,List.replicate_succ'];rfl
theorem bef:∀(n u:Nat),u<16^(n+1)->(hexF (n+1) u).length<=n+1/\List.replicate (n+1-(hexF (n+1) u).length) 48++hexF (n+1) u=hexN (n+1) u:=by
 intro n;induction n with
 |zero=>
  intro u m;have h:u<16:=by simpa using m
  simp only[hexF,if_pos h,hexN,List.length_singleton,Aw,Nat.mod_eq_of_lt h];exact⟨Nat.le_refl _,rfl⟩
 |succ n t=>
  intro u m;by_cases h:u<16
  ·rw[hexF,if_pos h,hexN,Nat.div_eq_of_lt h,Nat.mod_eq_of_lt h,a9u];exact⟨by simp,by simp⟩
  ·rw[hexF,if_neg h,hexN];obtain⟨z,o⟩:=t (u / 16) (by rw[Nat.pow_succ]at m;omega);rw[<-o];refine⟨by simp;omega,?_⟩;rw[<-Aq];congr 3;simp
theorem beg(n u:Nat):hexN (n+2) u=hexN n (u / 256)++hexN 2 (u%256):=by simp only[hexN,Aw];rw[show u / 16 / 16=u / 256 by omega,show u%256 / 16%16=u / 16%16 by omega,show u%256%16=u%16 by omega];simp
theorem ala(a b:Nat)(t:a<18446744073709551616)(z:b<18446744073709551616):aer .and .u64 (a:Int) (b:Int)=((a &&& b:Nat):Int):=by
 have G:a &&& b<2^64:=Nat.and_lt_two_pow _ (by omega);have m:(BitVec.ofInt 64 (a:Int)).toNat=a:=by rw[BitVec.ofInt_natCast,BitVec.toNat_ofNat];exact Nat.mod_eq_of_lt (by omega)
 have o:(BitVec.ofInt 64 (b:Int)).toNat=b:=by rw[BitVec.ofInt_natCast,BitVec.toNat_ofNat];exact Nat.mod_eq_of_lt (by omega)
 show IntKind.u64.wrap ((BitVec.ofInt 64 (a:Int) &&& BitVec.ofInt 64 (b:Int)).toNat:Int)=_;rw[BitVec.toNat_and,m,o,IntKind.wrap_u64];omega
theorem bc7(u:Nat):u &&& 4503599627370495=u%4503599627370496:=Nat.and_two_pow_sub_one_eq_mod u 52
theorem a7x(u m k:Nat):u &&& (m*2^k)=((u / 2^k) &&& m)*2^k:=by
 rw[<-Nat.shiftLeft_eq,<-Nat.shiftLeft_eq,<-Nat.shiftRight_eq_div_pow];apply Nat.eq_of_testBit_eq;intro i;simp only[Nat.testBit_and,Nat.testBit_shiftLeft,Nat.testBit_shiftRight];by_cases h:k<=i
 ·simp[h]
 ·simp[h]
theorem bc6(u:Nat):u &&& 9218868437227405312=(u / 4503599627370496%2048)*4503599627370496:=by have:=a7x u 2047 52;rw[show(2047*2^52:Nat)=9218868437227405312 from rfl,show(2^52:Nat)=4503599627370496 from rfl]at this;rw[this,Nat.and_two_pow_sub_one_eq_mod _ 11]
theorem bc9(u:Nat)(m:u<18446744073709551616):u &&& 9223372036854775808=(u / 9223372036854775808)*9223372036854775808:=by
 have:=a7x u 1 63;rw[show(1*2^63:Nat)=9223372036854775808 from rfl,show(2^63:Nat)=9223372036854775808 from rfl]at this;rw[this,Nat.and_two_pow_sub_one_eq_mod _ 1];have:u / 9223372036854775808%2^1=u / 9223372036854775808:=by omega
 rw[this]
def agc(u:Nat):Int:=
 if 9218868437227405312<u%9223372036854775808 then 0 else if u%9223372036854775808=9218868437227405312 then 1 else if u%9223372036854775808=0 then 2 else if u%9223372036854775808<4503599627370496 then 3 else 4
end Go.Ab
