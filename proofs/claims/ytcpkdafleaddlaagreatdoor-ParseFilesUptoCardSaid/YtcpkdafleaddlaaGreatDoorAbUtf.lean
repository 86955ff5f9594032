/- UTF-8: a sequence's size, by its bytes and by the model's decoding. -/
import Derived.Test.YtcpkdafleaddlaaGreatDoorAbPlain
import Derived.Lib.DecodeN
import Derived.Lib.DecodeNEq
set_option linter.unusedVariables false
set_option linter.unusedSimpArgs false
set_option linter.unnecessarySimpa false
namespace Go.Ab
open Go
def acr (n m d o z:Nat):Nat:=
 if m<128 then 1
 else if 194<=m/\m<=223/\(1<n/\128<=d/\d<=191) then 2
 else if m=224/\(1<n/\160<=d/\d<=191)/\(2<n/\128<=o/\o<=191) then 3
 else if m=237/\(1<n/\128<=d/\d<=159)/\(2<n/\128<=o/\o<=191) then 3
 else if 225<=m/\m<=239/\m≠237/\(1<n/\128<=d/\d<=191)/\(2<n/\128<=o/\o<=191) then 3
 else if m=240/\(1<n/\144<=d/\d<=191)/\(2<n/\128<=o/\o<=191)/\(3<n/\128<=z/\z<=191) then 4
 else if 241<=m/\m<=243/\(1<n/\128<=d/\d<=191)/\(2<n/\128<=o/\o<=191)/\(3<n/\128<=z/\z<=191) then 4
 else if m=244/\(1<n/\128<=d/\d<=143)/\(2<n/\128<=o/\o<=191)/\(3<n/\128<=z/\z<=191) then 4
 else 0
theorem bak (n d m o z:Nat) (h:194<=d/\d<224):acr n d m o z=if (1<n/\128<=m/\m<=191) then 2 else 0:=by unfold acr;grind
theorem bac (n m d o z:Nat) (U:1<=n) (H:d<256) (M:o<256) (O:z<256) (h:194<=m/\m<224):
 acr n m d o z=if (Lib.decodeN n m d o z).1=65533/\¬(2<n/\m=239/\d=191/\o=189) then 0 else (Lib.decodeN n m d o z).2:=by
 rw [bak n m d o z h,<-Lib.slow_C2 n m d o z U H M O h]
 by_cases c:(1<n/\128<=d/\d<=191)
 ·rw [if_pos c];have e:Lib.slowN n m d o z 2 128 191=(m%32*64+d%64,2):=by
   unfold Lib.slowN;grind
  grind
 ·rw [if_neg c];have e:Lib.slowN n m d o z 2 128 191=(65533,1):=by
   unfold Lib.slowN;grind
  grind
theorem bal (n o d m z:Nat) (h:o=224):acr n o d m z=if (1<n/\160<=d/\d<=191)/\(2<n/\128<=m/\m<=191) then 3 else 0:=by unfold acr;grind
theorem bae (n o d m z:Nat) (U:1<=n) (H:d<256) (M:m<256) (O:z<256) (h:o=224):
 acr n o d m z=if (Lib.decodeN n o d m z).1=65533/\¬(2<n/\o=239/\d=191/\m=189) then 0 else (Lib.decodeN n o d m z).2:=by
 rw [bal n o d m z h,<-Lib.slow_E0 n o d m z U H M O h]
 by_cases c:(1<n/\160<=d/\d<=191)/\(2<n/\128<=m/\m<=191)
 ·rw [if_pos c];have e:Lib.slowN n o d m z 3 160 191=(o%16*4096+d%64*64+m%64,3):=by
   unfold Lib.slowN;grind
  grind
 ·rw [if_neg c];have e:Lib.slowN n o d m z 3 160 191=(65533,1):=by
   unfold Lib.slowN;grind
  grind
theorem bam (n d m o z:Nat) (h:(225<=d/\d<237)\/(238<=d/\d<240)):acr n d m o z=if (1<n/\128<=m/\m<=191)/\(2<n/\128<=o/\o<=191) then 3 else 0:=by
 unfold acr;by_cases c:(1<n/\128<=m/\m<=191)/\(2<n/\128<=o/\o<=191)
 ·rw [if_neg (by omega),if_neg (by omega),if_neg (by omega),if_neg (by omega),if_pos (by omega),if_pos c]
 grind
theorem baf (n d m o z:Nat) (U:1<=n) (H:m<256) (M:o<256) (O:z<256) (h:(225<=d/\d<237)\/(238<=d/\d<240)):
 acr n d m o z=if (Lib.decodeN n d m o z).1=65533/\¬(2<n/\d=239/\m=191/\o=189) then 0 else (Lib.decodeN n d m o z).2:=by
 rw [bam n d m o z h,<-Lib.slow_E1 n d m o z U H M O h]
 by_cases c:(1<n/\128<=m/\m<=191)/\(2<n/\128<=o/\o<=191)
 ·rw [if_pos c];have e:Lib.slowN n d m o z 3 128 191=(d%16*4096+m%64*64+o%64,3):=by
   unfold Lib.slowN;grind
  grind
 ·rw [if_neg c];have e:Lib.slowN n d m o z 3 128 191=(65533,1):=by
   unfold Lib.slowN;grind
  grind
theorem ban (n o d m z:Nat) (h:o=237):acr n o d m z=if (1<n/\128<=d/\d<=159)/\(2<n/\128<=m/\m<=191) then 3 else 0:=by unfold acr;grind
theorem bag (n o d m z:Nat) (U:1<=n) (H:d<256) (M:m<256) (O:z<256) (h:o=237):
 acr n o d m z=if (Lib.decodeN n o d m z).1=65533/\¬(2<n/\o=239/\d=191/\m=189) then 0 else (Lib.decodeN n o d m z).2:=by
 rw [ban n o d m z h,<-Lib.slow_ED n o d m z U H M O h]
 by_cases c:(1<n/\128<=d/\d<=159)/\(2<n/\128<=m/\m<=191)
 ·rw [if_pos c];have e:Lib.slowN n o d m z 3 128 159=(o%16*4096+d%64*64+m%64,3):=by
   unfold Lib.slowN;grind
  grind
 ·rw [if_neg c];have e:Lib.slowN n o d m z 3 128 159=(65533,1):=by
   unfold Lib.slowN;grind
  grind
theorem bao (n z d m o:Nat) (h:z=240):acr n z d m o=if (1<n/\144<=d/\d<=191)/\(2<n/\128<=m/\m<=191)/\(3<n/\128<=o/\o<=191) then 4 else 0:=by unfold acr;grind
theorem bah (n z d m o:Nat) (U:1<=n) (H:d<256) (M:m<256) (O:o<256) (h:z=240):
 acr n z d m o=if (Lib.decodeN n z d m o).1=65533/\¬(2<n/\z=239/\d=191/\m=189) then 0 else (Lib.decodeN n z d m o).2:=by
 rw [bao n z d m o h,<-Lib.slow_F0 n z d m o U H M O h]
 by_cases c:(1<n/\144<=d/\d<=191)/\(2<n/\128<=m/\m<=191)/\(3<n/\128<=o/\o<=191)
 ·rw [if_pos c];have e:Lib.slowN n z d m o 4 144 191=(z%8*262144+d%64*4096+m%64*64+o%64,4):=by
   unfold Lib.slowN;grind
  grind
 ·rw [if_neg c];have e:Lib.slowN n z d m o 4 144 191=(65533,1):=by
   unfold Lib.slowN;grind
  grind
theorem bap (n d m o z:Nat) (h:241<=d/\d<244):acr n d m o z=if (1<n/\128<=m/\m<=191)/\(2<n/\128<=o/\o<=191)/\(3<n/\128<=z/\z<=191) then 4 else 0:=by unfold acr;grind
theorem bai (n o d m z:Nat) (U:1<=n) (H:d<256) (M:m<256) (O:z<256) (h:241<=o/\o<244):
 acr n o d m z=if (Lib.decodeN n o d m z).1=65533/\¬(2<n/\o=239/\d=191/\m=189) then 0 else (Lib.decodeN n o d m z).2:=by
 rw [bap n o d m z h,<-Lib.slow_F1 n o d m z U H M O h]
 by_cases c:(1<n/\128<=d/\d<=191)/\(2<n/\128<=m/\m<=191)/\(3<n/\128<=z/\z<=191)
 ·rw [if_pos c];have e:Lib.slowN n o d m z 4 128 191=(o%8*262144+d%64*4096+m%64*64+z%64,4):=by
   unfold Lib.slowN;grind
  grind
 ·rw [if_neg c];have e:Lib.slowN n o d m z 4 128 191=(65533,1):=by
   unfold Lib.slowN;grind
  grind
theorem baq (n z d m o:Nat) (h:z=244):acr n z d m o=if (1<n/\128<=d/\d<=143)/\(2<n/\128<=m/\m<=191)/\(3<n/\128<=o/\o<=191) then 4 else 0:=by unfold acr;grind
theorem baj (n z d m o:Nat) (U:1<=n) (H:d<256) (M:m<256) (O:o<256) (h:z=244):
 acr n z d m o=if (Lib.decodeN n z d m o).1=65533/\¬(2<n/\z=239/\d=191/\m=189) then 0 else (Lib.decodeN n z d m o).2:=by
 rw [baq n z d m o h,<-Lib.slow_F4 n z d m o U H M O h]
 by_cases c:(1<n/\128<=d/\d<=143)/\(2<n/\128<=m/\m<=191)/\(3<n/\128<=o/\o<=191)
 ·rw [if_pos c];have e:Lib.slowN n z d m o 4 128 143=(z%8*262144+d%64*4096+m%64*64+o%64,4):=by
   unfold Lib.slowN;grind
  grind
 ·rw [if_neg c];have e:Lib.slowN n z d m o 4 128 143=(65533,1):=by
   unfold Lib.slowN;grind
  grind
theorem avf (n d m o z:Nat) (V:1<=n) (H:d<256) (M:m<256) (O:o<256) (U:z<256):
 acr n d m o z=if (Lib.decodeN n d m o z).1=65533/\¬(2<n/\d=239/\m=191/\o=189) then 0 else (Lib.decodeN n d m o z).2:=by
 by_cases g:194<=d/\d<=244
 ·grind [bac,bae,bag,baf,bah,baj,bai]
 ·by_cases a:d<128
  ·have e:Lib.firstT d=240:=by unfold Lib.firstT;rw [if_pos a]
   rw [Lib.ascii_eq n d m o z e];unfold acr;grind
  ·have e:Lib.firstT d=241:=by
    unfold Lib.firstT;grind
   rw [Lib.bad_eq n d m o z H e,if_pos ⟨rfl,by omega⟩];unfold acr;grind
def byteAt (s:Bq) (i:Nat):Nat:=(s.getD i 0).toNat
theorem ab4 (s:Bq) (i:Nat):byteAt s i<256:=(s.getD i 0).toNat_lt
def sizeAt (s:Bq) (i:Nat):Nat:=acr (s.length-i) (byteAt s i) (byteAt s (i+1)) (byteAt s (i+2)) (byteAt s (i+3))
def aaq (s:Bq) (i:Nat):Nat×Nat:=Lib.decodeN (s.length-i) (byteAt s i) (byteAt s (i+1)) (byteAt s (i+2)) (byteAt s (i+3))
theorem ahu (s:Bq) (i:Nat):Utf8.decode ⟨s.toArray⟩ i=aaq s i:=by
 rw [Lib.decode_at];have d:∀ j,((⟨s.toArray⟩:ByteArray).get! j).toNat=byteAt s j:=by intro j;show ((s.toArray)[j]!).toNat=_;simp [byteAt,List.getD];rfl
 rw [d,d,d,d];rfl
theorem ag8 (s:Bq) (i:Nat) (d:i<s.length):sizeAt s i=if (aaq s i).1=65533/\¬(2<s.length-i/\byteAt s i=239/\byteAt s (i+1)=191/\byteAt s (i+2)=189) then 0 else (aaq s i).2:=
 avf _ _ _ _ _ (by omega) (ab4 _ _) (ab4 _ _) (ab4 _ _) (ab4 _ _)
theorem as0 (n d m o z:Nat) (H:0<n):acr n d m o z<=n/\acr n d m o z<=4:=by grind [acr]
theorem anv (n d m o z:Nat):1<=(Lib.decodeN n d m o z).2/\(Lib.decodeN n d m o z).2<=4:=by grind [Lib.decodeN]
theorem bck (s:Bq) (i:Nat) (m:i<=s.length):(decide ((((s.take s.length).drop i).length:Int)>=3)&&((((s.take s.length).drop i).take 3)==([239,191,189]:Bq)))=decide (2<s.length-i/\byteAt s i=239/\byteAt s (i+1)=191/\byteAt s (i+2)=189):=by
 rw [List.take_length];rw [Bool.eq_iff_iff];simp only [Ai,Ay,Bo,Ar,ge_iff_le];have d:∀ (x:UInt8) (k:Nat),k<256->(x.toNat=k ↔ x=UInt8.ofNat k):=by
  intro x k o;constructor
  ·intro h;rw [<-h];exact UInt8.ofNat_toNat.symm
  grind [UInt8.toNat_ofNat']
 unfold byteAt;rw [d _ 239 (by omega),d _ 191 (by omega),d _ 189 (by omega)];grind [List.getD,List.getElem?_take_of_lt,aaj]
def badF:Nat->Bq->Nat->Int
 | 0,_,_=>-1
 | n+1,s,i=>if i<s.length then (if sizeAt s i=0 then (i:Int) else badF n s (i+sizeAt s i)) else -1
theorem av5:∀ (n m:Nat) (s:Bq) (i:Nat),s.length-i<n->s.length-i<m->badF n s i=badF m s i:=by
 intro n;induction n with
 | zero=>grind
 | succ n o=>intro m s i h d;obtain ⟨k,rfl⟩:∃ k,m=k+1:=⟨m-1,by omega⟩;unfold badF;grind
def ae0 (s:Bq) (i:Nat):Int:=badF (s.length-i+1) s i
theorem afz (s:Bq) (i:Nat):ae0 s i=if i<s.length then (if sizeAt s i=0 then (i:Int) else ae0 s (i+sizeAt s i)) else -1:=by
 unfold ae0;rw [badF];by_cases d:i<s.length
 ·simp only [d,A6];by_cases m:sizeAt s i=0
  ·grind
  ·simp only [m,A7];grind [av5]
 grind
def bad (s:Bq):Int:=ae0 s 0
def valid (s:Bq):Bool:=decide (bad s<0)
end Go.Ab
namespace Go.Ab
open Go
theorem enc1 (r:Nat) (d:r<128):(Utf8.encode (r:Int)).data.toList=[UInt8.ofNat r]:=by
 have v:Utf8.valid (r:Int)=true:=by grind [Utf8.valid]
 simp [Utf8.encode,v,d]
theorem enc2 (r:Nat) (d:¬r<128) (m:r<2048):(Utf8.encode (r:Int)).data.toList=[UInt8.ofNat (192+r / 64),UInt8.ofNat (128+r%64)]:=by
 have v:Utf8.valid (r:Int)=true:=by grind [Utf8.valid]
 simp [Utf8.encode,v,d,m]
theorem enc3 (r:Nat) (m:¬r<2048) (o:r<65536) (z:r<55296\/57344<=r):(Utf8.encode (r:Int)).data.toList=[UInt8.ofNat (224+r / 4096),UInt8.ofNat (128+r / 64%64),UInt8.ofNat (128+r%64)]:=by
 have v:Utf8.valid (r:Int)=true:=by grind [Utf8.valid]
 have d:¬r<128:=by omega
 simp [Utf8.encode,v,d,m,o]
theorem enc4 (r:Nat) (o:¬r<65536) (z:r<=1114111):(Utf8.encode (r:Int)).data.toList=[UInt8.ofNat (240+r / 262144),UInt8.ofNat (128+r / 4096%64),UInt8.ofNat (128+r / 64%64),UInt8.ofNat (128+r%64)]:=by
 have v:Utf8.valid (r:Int)=true:=by grind [Utf8.valid]
 have d:¬r<128:=by omega
 have m:¬r<2048:=by omega
 simp [Utf8.encode,v,d,m,o]
theorem arf {n d m o z:Nat} (h:d<128):Lib.decodeN n d m o z=(d,1):=by unfold Lib.decodeN;rw [if_pos h]
theorem at5 (n d m o z:Nat) (h:128<=d):128<=(Lib.decodeN n d m o z).1:=by unfold Lib.decodeN;grind
theorem ajx (n d m o z:Nat) (H:1<=n):acr n d m o z=0\/(acr n d m o z=1/\d<128)\/
 (acr n d m o z=2/\194<=d/\d<=223/\1<n/\128<=m/\m<=191)\/
 (acr n d m o z=3/\224<=d/\d<=239/\(d=224->160<=m)/\(d=237->m<=159)/\2<n/\128<=m/\m<=191/\128<=o/\o<=191)\/
 (acr n d m o z=4/\240<=d/\d<=244/\(d=240->144<=m)/\(d=244->m<=143)/\3<n/\128<=m/\m<=191/\128<=o/\o<=191/\128<=z/\z<=191):=by
 unfold acr
 repeat' split
 all_goals omega
theorem awg {n d m o z:Nat} (h:194<=d/\d<=223/\1<n/\128<=m/\m<=191):Lib.decodeN n d m o z=(d%32*64+m%64,2):=by unfold Lib.decodeN;grind
theorem arh {n d m o z:Nat} (h:224<=d/\d<=239/\(d=224->160<=m)/\(d=237->m<=159)/\2<n/\128<=m/\m<=191/\128<=o/\o<=191):Lib.decodeN n d m o z=(d%16*4096+m%64*64+o%64,3):=by unfold Lib.decodeN;grind
theorem at4 {n d m o z:Nat} (h:240<=d/\d<=244/\(d=240->144<=m)/\(d=244->m<=143)/\3<n/\128<=m/\m<=191/\128<=o/\o<=191/\128<=z/\z<=191):Lib.decodeN n d m o z=(d%8*262144+m%64*4096+o%64*64+z%64,4):=by unfold Lib.decodeN;grind
theorem awf (n d m o z:Nat) (h:(Lib.decodeN n d m o z).1=65533) (H:¬(2<n/\d=239/\m=191/\o=189)) (M:m<256) (O:o<256) (U:z<256) (q0:d<256):(Lib.decodeN n d m o z).2=1:=by grind [Lib.decodeN]
theorem ac8 (s:Bq) (i:Nat) {k:Nat} (h:k=byteAt s i):UInt8.ofNat k=s.getD i 0:=by subst h;simp [byteAt]
def ab1 (s:Bq) (i:Nat):Nat:=if sizeAt s i=0 then 1 else sizeAt s i
theorem ad5 (s:Bq) (i:Nat):1<=ab1 s i:=by grind [ab1]
theorem aoz (s:Bq) (i:Nat) (d:i<s.length):sizeAt s i<=s.length-i/\sizeAt s i<=4:=as0 _ _ _ _ _ (by omega)
theorem aqx (s:Bq) (i:Nat) (d:i<s.length):ab1 s i<=s.length-i/\ab1 s i<=4:=by grind [aoz,ab1]
theorem ba8 (s:Bq) (i:Nat) (d:i<s.length):(aaq s i).2=ab1 s i:=by
 unfold ab1;rw [ag8 s i d];by_cases h:(aaq s i).1=65533/\¬(2<s.length-i/\byteAt s i=239/\byteAt s (i+1)=191/\byteAt s (i+2)=189)
 ·rw [if_pos h,if_pos rfl];exact awf _ _ _ _ _ h.1 h.2 (ab4 _ _) (ab4 _ _) (ab4 _ _) (ab4 _ _)
 ·rw [if_neg h];have:=(anv (s.length-i) (byteAt s i) (byteAt s (i+1)) (byteAt s (i+2)) (byteAt s (i+3))).1;rw [if_neg (by grind [aaq])]
theorem afe (s:Bq) (i:Nat) (h:byteAt s i<128):aaq s i=(byteAt s i,1):=arf h
theorem anw (s:Bq) (i:Nat) (h:128<=byteAt s i):128<=(aaq s i).1:=at5 _ _ _ _ _ h
theorem ai5 (s:Bq) (i:Nat) (h:byteAt s i<128):sizeAt s i=1:=by unfold sizeAt acr;rw [if_pos h]
theorem aj9 (s:Bq) (i:Nat) (d:i<s.length) (m:sizeAt s i≠0):(Utf8.encode ((aaq s i).1:Int)).data.toList=(s.drop i).take (sizeAt s i):=by
 have o:=ab4 s (i+1);have z:=ab4 s (i+2);have H:=ab4 s (i+3);have M:byteAt s (i+1+1)=byteAt s (i+2):=rfl;have O:byteAt s (i+1+1+1)=byteAt s (i+3):=rfl;rcases ajx (s.length-i) (byteAt s i) (byteAt s (i+1)) (byteAt s (i+2)) (byteAt s (i+3)) (by omega) with h | ⟨h,c⟩ | ⟨h,c⟩ | ⟨h,c⟩ | ⟨h,c⟩
 ·exact absurd h m
 ·rw [show sizeAt s i=1 from h,afe s i c,enc1 _ c,aaj d 0];simp only [List.take_succ_cons,List.take_zero];rw [ac8 s i rfl]
 ·rw [show sizeAt s i=2 from h,show aaq s i=_ from awg c,enc2 _ (by simp only;omega) (by simp only;omega),aaj d 0,aaj (i:=i+1) (by omega) 0];grind [ac8]
 ·rw [show sizeAt s i=3 from h,show aaq s i=_ from arh c,enc3 _ (by simp only;omega) (by simp only;omega) (by simp only;omega),aaj d 0,aaj (i:=i+1) (by omega) 0,aaj (i:=i+1+1) (by omega) 0];simp only [List.take_succ_cons,List.take_zero];rw [ac8 s i (by omega),ac8 s (i+1) (by omega),ac8 s (i+1+1) (by omega)]
 ·rw [show sizeAt s i=4 from h,show aaq s i=_ from at4 c,enc4 _ (by simp only;omega) (by simp only;omega),aaj d 0,aaj (i:=i+1) (by omega) 0,aaj (i:=i+1+1) (by omega) 0,aaj (i:=i+1+1+1) (by omega) 0];simp only [List.take_succ_cons,List.take_zero];rw [ac8 s i (by omega),ac8 s (i+1) (by omega),ac8 s (i+1+1) (by omega),ac8 s (i+1+1+1) (by omega)]
def hexd (n:Nat):UInt8:=([48,49,50,51,52,53,54,55,56,57,97,98,99,100,101,102]:Bq).getD n 0
def hex2 (b:Nat):Bq:=[hexd (b / 16),hexd (b%16)]
def ahj (s:Bq) (i:Nat):Bq:=
 if byteAt s i=34 then [92,34] else if byteAt s i=92 then [92,92] else if byteAt s i=10 then [92,110] else if byteAt s i=9 then [92,116] else if byteAt s i=13 then [92,114]
 else if byteAt s i<32\/byteAt s i=127\/sizeAt s i=0 then 92::120::hex2 (byteAt s i) else (s.drop i).take (sizeAt s i)
theorem aos (s:Bq) (i:Nat) (d:i<s.length):(ahj s i).length<=4:=by grind [aoz,ahj,hex2]
def aav (s:Bq) (i:Nat):Bq:=if i<s.length then ahj s i++aav s (i+ab1 s i) else []
termination_by s.length-i
decreasing_by
 grind [ad5]
theorem ag6 (s:Bq):∀ (m i:Nat),s.length-i<=m->(aav s i).length<=4*(s.length-i):=by
 intro m;induction m with
 | zero=>intro i o;rw [aav,if_neg (by omega)];simp
 | succ m M=>
  intro i o;rw [aav];by_cases d:i<s.length
  ·have z:=aos s i d;have H:=ad5 s i;grind
  grind
def aa4 (s:Bq):Bq:=34::(aav s 0++[34])
end Go.Ab
namespace Go.Ab
open Go
def hexN:Nat->Nat->Bq
 | 0,_=>[]
 | n+1,u=>hexN n (u / 16)++[hexd (u%16)]
def hexF:Nat->Nat->Bq
 | 0,_=>[]
 | f+1,u=>if u<16 then [hexd u] else hexF f (u / 16)++[hexd (u%16)]
theorem aru:∀ n u,(hexN n u).length=n:=by
 intro n;induction n with
 | zero=>intro u;rfl
 | succ n d=>grind [hexN]
theorem a4i:∀ n,hexN n 0=List.replicate n 48:=by
 intro n;induction n with
 | zero=>rfl
 | succ n d=>rw [hexN,Nat.zero_div,d,List.replicate_succ'];rfl
theorem a88:∀ (n:Nat) (u:Nat),u<16^(n+1)->(hexF (n+1) u).length<=n+1/\List.replicate (n+1-(hexF (n+1) u).length) 48++hexF (n+1) u=hexN (n+1) u:=by
 intro n;induction n with
 | zero=>
  intro u d;have h:u<16:=by simpa using d
  simp only [hexF,if_pos h,hexN,List.length_singleton,A3,Nat.mod_eq_of_lt h];grind
 | succ n m=>
  intro u d;by_cases h:u<16
  ·rw [hexF,if_pos h,hexN,Nat.div_eq_of_lt h,Nat.mod_eq_of_lt h,a4i];grind
  ·rw [hexF,if_neg h,hexN];grind
theorem a9b (n u:Nat):hexN (n+2) u=hexN n (u / 256)++hexN 2 (u%256):=by grind [hexN]
theorem aj5 (a b:Nat) (o:a<18446744073709551616) (z:b<18446744073709551616):af2 .and .u64 (a:Int) (b:Int)=((a &&& b:Nat):Int):=by
 have H:a &&& b<2^64:=Nat.and_lt_two_pow _ (by omega);have d:(BitVec.ofInt 64 (a:Int)).toNat=a:=by grind
 have m:(BitVec.ofInt 64 (b:Int)).toNat=b:=by grind
 show IntKind.u64.wrap ((BitVec.ofInt 64 (a:Int) &&& BitVec.ofInt 64 (b:Int)).toNat:Int)=_;grind [BitVec.toNat_and,IntKind.wrap_u64]
theorem a74 (u:Nat):u &&& 4503599627370495=u%4503599627370496:=Nat.and_two_pow_sub_one_eq_mod u 52
theorem a2w (u m k:Nat):u &&& (m*2^k)=((u / 2^k) &&& m)*2^k:=by rw [<-Nat.shiftLeft_eq,<-Nat.shiftLeft_eq,<-Nat.shiftRight_eq_div_pow];apply Nat.eq_of_testBit_eq;grind
theorem a73 (u:Nat):u &&& 9218868437227405312=(u / 4503599627370496%2048)*4503599627370496:=by have:=a2w u 2047 52;rw [show (2047*2^52:Nat)=9218868437227405312 from rfl,show (2^52:Nat)=4503599627370496 from rfl] at this;rw [this,Nat.and_two_pow_sub_one_eq_mod _ 11]
theorem a77 (u:Nat) (d:u<18446744073709551616):u &&& 9223372036854775808=(u / 9223372036854775808)*9223372036854775808:=by have:=a2w u 1 63;grind
def adu (u:Nat):Int:=
 if 9218868437227405312<u%9223372036854775808 then 0 else if u%9223372036854775808=9218868437227405312 then 1 else if u%9223372036854775808=0 then 2 else if u%9223372036854775808<4503599627370496 then 3 else 4
end Go.Ab
