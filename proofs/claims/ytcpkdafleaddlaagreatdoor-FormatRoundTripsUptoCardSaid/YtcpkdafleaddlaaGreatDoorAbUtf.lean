/- UTF-8: a sequence's size, by its bytes and by the model's decoding. -/
import Derived.Test.YtcpkdafleaddlaaGreatDoorAbPlain
import Derived.Lib.DecodeN
import Derived.Lib.DecodeNEq
set_option linter.unusedVariables false
set_option linter.unusedSimpArgs false
set_option linter.unnecessarySimpa false
namespace Go.Ab
open Go
def adb (n m d o z:Nat):Nat:=
 if m<128 then 1
 else if 194<=m/\m<=223/\(1<n/\128<=d/\d<=191) then 2
 else if m=224/\(1<n/\160<=d/\d<=191)/\(2<n/\128<=o/\o<=191) then 3
 else if m=237/\(1<n/\128<=d/\d<=159)/\(2<n/\128<=o/\o<=191) then 3
 else if 225<=m/\m<=239/\m≠237/\(1<n/\128<=d/\d<=191)/\(2<n/\128<=o/\o<=191) then 3
 else if m=240/\(1<n/\144<=d/\d<=191)/\(2<n/\128<=o/\o<=191)/\(3<n/\128<=z/\z<=191) then 4
 else if 241<=m/\m<=243/\(1<n/\128<=d/\d<=191)/\(2<n/\128<=o/\o<=191)/\(3<n/\128<=z/\z<=191) then 4
 else if m=244/\(1<n/\128<=d/\d<=143)/\(2<n/\128<=o/\o<=191)/\(3<n/\128<=z/\z<=191) then 4
 else 0
theorem bgv (n d m o z:Nat) (h:194<=d/\d<224):adb n d m o z=if (1<n/\128<=m/\m<=191) then 2 else 0:=by unfold adb;grind
theorem bgo (n m d o z:Nat) (U:1<=n) (H:d<256) (M:o<256) (O:z<256) (h:194<=m/\m<224):
 adb n m d o z=if (Lib.decodeN n m d o z).1=65533/\¬(2<n/\m=239/\d=191/\o=189) then 0 else (Lib.decodeN n m d o z).2:=by
 rw [bgv n m d o z h,<-Lib.slow_C2 n m d o z U H M O h]
 by_cases c:(1<n/\128<=d/\d<=191)
 ·rw [if_pos c];have e:Lib.slowN n m d o z 2 128 191=(m%32*64+d%64,2):=by
   unfold Lib.slowN;grind
  grind
 ·rw [if_neg c];have e:Lib.slowN n m d o z 2 128 191=(65533,1):=by
   unfold Lib.slowN;grind
  grind
theorem bgw (n o d m z:Nat) (h:o=224):adb n o d m z=if (1<n/\160<=d/\d<=191)/\(2<n/\128<=m/\m<=191) then 3 else 0:=by unfold adb;grind
theorem bgp (n o d m z:Nat) (U:1<=n) (H:d<256) (M:m<256) (O:z<256) (h:o=224):
 adb n o d m z=if (Lib.decodeN n o d m z).1=65533/\¬(2<n/\o=239/\d=191/\m=189) then 0 else (Lib.decodeN n o d m z).2:=by
 rw [bgw n o d m z h,<-Lib.slow_E0 n o d m z U H M O h]
 by_cases c:(1<n/\160<=d/\d<=191)/\(2<n/\128<=m/\m<=191)
 ·rw [if_pos c];have e:Lib.slowN n o d m z 3 160 191=(o%16*4096+d%64*64+m%64,3):=by
   unfold Lib.slowN;grind
  grind
 ·rw [if_neg c];have e:Lib.slowN n o d m z 3 160 191=(65533,1):=by
   unfold Lib.slowN;grind
  grind
theorem bgx (n d m o z:Nat) (h:(225<=d/\d<237)\/(238<=d/\d<240)):adb n d m o z=if (1<n/\128<=m/\m<=191)/\(2<n/\128<=o/\o<=191) then 3 else 0:=by
 unfold adb;by_cases c:(1<n/\128<=m/\m<=191)/\(2<n/\128<=o/\o<=191)
 ·rw [if_neg (by omega),if_neg (by omega),if_neg (by omega),if_neg (by omega),if_pos (by omega),if_pos c]
 grind
theorem bgq (n d m o z:Nat) (U:1<=n) (H:m<256) (M:o<256) (O:z<256) (h:(225<=d/\d<237)\/(238<=d/\d<240)):
 adb n d m o z=if (Lib.decodeN n d m o z).1=65533/\¬(2<n/\d=239/\m=191/\o=189) then 0 else (Lib.decodeN n d m o z).2:=by
 rw [bgx n d m o z h,<-Lib.slow_E1 n d m o z U H M O h]
 by_cases c:(1<n/\128<=m/\m<=191)/\(2<n/\128<=o/\o<=191)
 ·rw [if_pos c];have e:Lib.slowN n d m o z 3 128 191=(d%16*4096+m%64*64+o%64,3):=by
   unfold Lib.slowN;grind
  grind
 ·rw [if_neg c];have e:Lib.slowN n d m o z 3 128 191=(65533,1):=by
   unfold Lib.slowN;grind
  grind
theorem bgy (n o d m z:Nat) (h:o=237):adb n o d m z=if (1<n/\128<=d/\d<=159)/\(2<n/\128<=m/\m<=191) then 3 else 0:=by unfold adb;grind
theorem bgr (n o d m z:Nat) (U:1<=n) (H:d<256) (M:m<256) (O:z<256) (h:o=237):
 adb n o d m z=if (Lib.decodeN n o d m z).1=65533/\¬(2<n/\o=239/\d=191/\m=189) then 0 else (Lib.decodeN n o d m z).2:=by
 rw [bgy n o d m z h,<-Lib.slow_ED n o d m z U H M O h]
 by_cases c:(1<n/\128<=d/\d<=159)/\(2<n/\128<=m/\m<=191)
 ·rw [if_pos c];have e:Lib.slowN n o d m z 3 128 159=(o%16*4096+d%64*64+m%64,3):=by
   unfold Lib.slowN;grind
  grind
 ·rw [if_neg c];have e:Lib.slowN n o d m z 3 128 159=(65533,1):=by
   unfold Lib.slowN;grind
  grind
theorem bgz (n z d m o:Nat) (h:z=240):adb n z d m o=if (1<n/\144<=d/\d<=191)/\(2<n/\128<=m/\m<=191)/\(3<n/\128<=o/\o<=191) then 4 else 0:=by unfold adb;grind
theorem bgs (n z d m o:Nat) (U:1<=n) (H:d<256) (M:m<256) (O:o<256) (h:z=240):
 adb n z d m o=if (Lib.decodeN n z d m o).1=65533/\¬(2<n/\z=239/\d=191/\m=189) then 0 else (Lib.decodeN n z d m o).2:=by
 rw [bgz n z d m o h,<-Lib.slow_F0 n z d m o U H M O h]
 by_cases c:(1<n/\144<=d/\d<=191)/\(2<n/\128<=m/\m<=191)/\(3<n/\128<=o/\o<=191)
 ·rw [if_pos c];have e:Lib.slowN n z d m o 4 144 191=(z%8*262144+d%64*4096+m%64*64+o%64,4):=by
   unfold Lib.slowN;grind
  grind
 ·rw [if_neg c];have e:Lib.slowN n z d m o 4 144 191=(65533,1):=by
   unfold Lib.slowN;grind
  grind
theorem bg0 (n d m o z:Nat) (h:241<=d/\d<244):adb n d m o z=if (1<n/\128<=m/\m<=191)/\(2<n/\128<=o/\o<=191)/\(3<n/\128<=z/\z<=191) then 4 else 0:=by unfold adb;grind
theorem bgt (n o d m z:Nat) (U:1<=n) (H:d<256) (M:m<256) (O:z<256) (h:241<=o/\o<244):
 adb n o d m z=if (Lib.decodeN n o d m z).1=65533/\¬(2<n/\o=239/\d=191/\m=189) then 0 else (Lib.decodeN n o d m z).2:=by
 rw [bg0 n o d m z h,<-Lib.slow_F1 n o d m z U H M O h]
 by_cases c:(1<n/\128<=d/\d<=191)/\(2<n/\128<=m/\m<=191)/\(3<n/\128<=z/\z<=191)
 ·rw [if_pos c];have e:Lib.slowN n o d m z 4 128 191=(o%8*262144+d%64*4096+m%64*64+z%64,4):=by
   unfold Lib.slowN;grind
  grind
 ·rw [if_neg c];have e:Lib.slowN n o d m z 4 128 191=(65533,1):=by
   unfold Lib.slowN;grind
  grind
theorem bg1 (n z d m o:Nat) (h:z=244):adb n z d m o=if (1<n/\128<=d/\d<=143)/\(2<n/\128<=m/\m<=191)/\(3<n/\128<=o/\o<=191) then 4 else 0:=by unfold adb;grind
theorem bgu (n z d m o:Nat) (U:1<=n) (H:d<256) (M:m<256) (O:o<256) (h:z=244):
 adb n z d m o=if (Lib.decodeN n z d m o).1=65533/\¬(2<n/\z=239/\d=191/\m=189) then 0 else (Lib.decodeN n z d m o).2:=by
 rw [bg1 n z d m o h,<-Lib.slow_F4 n z d m o U H M O h]
 by_cases c:(1<n/\128<=d/\d<=143)/\(2<n/\128<=m/\m<=191)/\(3<n/\128<=o/\o<=191)
 ·rw [if_pos c];have e:Lib.slowN n z d m o 4 128 143=(z%8*262144+d%64*4096+m%64*64+o%64,4):=by
   unfold Lib.slowN;grind
  grind
 ·rw [if_neg c];have e:Lib.slowN n z d m o 4 128 143=(65533,1):=by
   unfold Lib.slowN;grind
  grind
theorem ayi (n d m o z:Nat) (V:1<=n) (H:d<256) (M:m<256) (O:o<256) (U:z<256):
 adb n d m o z=if (Lib.decodeN n d m o z).1=65533/\¬(2<n/\d=239/\m=191/\o=189) then 0 else (Lib.decodeN n d m o z).2:=by
 by_cases g:194<=d/\d<=244
 ·grind [bgo,bgp,bgr,bgq,bgs,bgu,bgt]
 ·by_cases a:d<128
  ·have e:Lib.firstT d=240:=by unfold Lib.firstT;rw [if_pos a]
   rw [Lib.ascii_eq n d m o z e];unfold adb;grind
  ·have e:Lib.firstT d=241:=by
    unfold Lib.firstT;grind
   rw [Lib.bad_eq n d m o z H e,if_pos ⟨rfl,by omega⟩];unfold adb;grind
def byteAt (s:Bo) (i:Nat):Nat:=(s.getD i 0).toNat
theorem acs (s:Bo) (i:Nat):byteAt s i<256:=(s.getD i 0).toNat_lt
def abj (s:Bo) (i:Nat):Nat:=adb (s.length-i) (byteAt s i) (byteAt s (i+1)) (byteAt s (i+2)) (byteAt s (i+3))
def aap (s:Bo) (i:Nat):Nat×Nat:=Lib.decodeN (s.length-i) (byteAt s i) (byteAt s (i+1)) (byteAt s (i+2)) (byteAt s (i+3))
theorem ail (s:Bo) (i:Nat):Utf8.decode ⟨s.toArray⟩ i=aap s i:=by
 rw [Lib.decode_at];have d:∀ j,((⟨s.toArray⟩:ByteArray).get! j).toNat=byteAt s j:=by intro j;show ((s.toArray)[j]!).toNat=_;simp [byteAt,List.getD];rfl
 rw [d,d,d,d];rfl
theorem ahx (s:Bo) (i:Nat) (d:i<s.length):abj s i=if (aap s i).1=65533/\¬(2<s.length-i/\byteAt s i=239/\byteAt s (i+1)=191/\byteAt s (i+2)=189) then 0 else (aap s i).2:=
 ayi _ _ _ _ _ (by omega) (acs _ _) (acs _ _) (acs _ _) (acs _ _)
theorem a3v (n d m o z:Nat) (H:0<n):adb n d m o z<=n/\adb n d m o z<=4:=by grind [adb]
theorem ap5 (n d m o z:Nat):1<=(Lib.decodeN n d m o z).2/\(Lib.decodeN n d m o z).2<=4:=by grind [Lib.decodeN]
theorem bjj (s:Bo) (i:Nat) (m:i<=s.length):(decide ((((s.take s.length).drop i).length:Int)>=3)&&((((s.take s.length).drop i).take 3)==([239,191,189]:Bo)))=decide (2<s.length-i/\byteAt s i=239/\byteAt s (i+1)=191/\byteAt s (i+2)=189):=by
 rw [List.take_length];rw [Bool.eq_iff_iff];simp only [Ag,Av,Bi,Bh,ge_iff_le];have d:∀ (x:UInt8) (k:Nat),k<256->(x.toNat=k ↔ x=UInt8.ofNat k):=by
  intro x k o;constructor
  ·intro h;rw [<-h];exact UInt8.ofNat_toNat.symm
  grind [UInt8.toNat_ofNat']
 unfold byteAt;rw [d _ 239 (by omega),d _ 191 (by omega),d _ 189 (by omega)];grind [List.getD,List.getElem?_take_of_lt,aa4]
def badF:Nat->Bo->Nat->Int
 | 0,_,_=>-1
 | n+1,s,i=>if i<s.length then (if abj s i=0 then (i:Int) else badF n s (i+abj s i)) else -1
theorem aze:∀ (n m:Nat) (s:Bo) (i:Nat),s.length-i<n->s.length-i<m->badF n s i=badF m s i:=by
 intro n;induction n with
 | zero=>grind
 | succ n o=>intro m s i h d;obtain ⟨k,rfl⟩:∃ k,m=k+1:=⟨m-1,by omega⟩;unfold badF;grind
def aie (s:Bo) (i:Nat):Int:=badF (s.length-i+1) s i
theorem ash (s:Bo) (i:Nat):aie s i=if i<s.length then (if abj s i=0 then (i:Int) else aie s (i+abj s i)) else -1:=by
 unfold aie;rw [badF];by_cases d:i<s.length
 ·simp only [d,A9];by_cases m:abj s i=0
  ·grind
  ·simp only [m,Ba];grind [aze]
 grind
def bad (s:Bo):Int:=aie s 0
def valid (s:Bo):Bool:=decide (bad s<0)
end Go.Ab
namespace Go.Ab
open Go
theorem enc1 (r:Nat) (d:r<128):(Utf8.encode (r:Int)).data.toList=[UInt8.ofNat r]:=by
 have v:Utf8.valid (r:Int)=true:=by grind [Utf8.valid]
 simp [Utf8.encode,v,d]
theorem enc2 (r:Nat) (d:¬r<128) (m:r<2048):(Utf8.encode (r:Int)).data.toList=[UInt8.ofNat (192+r / 64),UInt8.ofNat (128+r%64)]:=by
 have v:Utf8.valid (r:Int)=true:=by grind [Utf8.valid]
 simp [Utf8.encode,v,d,m]
theorem enc3 (r:Nat) (m:¬r<2048) (o:r<65536) (z:r<55296\/57344<=r):(Utf8.encode (r:Int)).data.toList=[UInt8.ofNat (224+r / 4096),UInt8.ofNat (128+r / 64%64),UInt8.ofNat (128+r%64)]:=by
 have v:Utf8.valid (r:Int)=true:=by grind [Utf8.valid]
 have d:¬r<128:=by omega
 simp [Utf8.encode,v,d,m,o]
theorem enc4 (r:Nat) (o:¬r<65536) (z:r<=1114111):(Utf8.encode (r:Int)).data.toList=[UInt8.ofNat (240+r / 262144),UInt8.ofNat (128+r / 4096%64),UInt8.ofNat (128+r / 64%64),UInt8.ofNat (128+r%64)]:=by
 have v:Utf8.valid (r:Int)=true:=by grind [Utf8.valid]
 have d:¬r<128:=by omega
 have m:¬r<2048:=by omega
 simp [Utf8.encode,v,d,m,o]
theorem at8 {n d m o z:Nat} (h:d<128):Lib.decodeN n d m o z=(d,1):=by unfold Lib.decodeN;rw [if_pos h]
theorem awy (n d m o z:Nat) (h:128<=d):128<=(Lib.decodeN n d m o z).1:=by unfold Lib.decodeN;grind
theorem arf (n d m o z:Nat) (H:1<=n):adb n d m o z=0\/(adb n d m o z=1/\d<128)\/
 (adb n d m o z=2/\194<=d/\d<=223/\1<n/\128<=m/\m<=191)\/
 (adb n d m o z=3/\224<=d/\d<=239/\(d=224->160<=m)/\(d=237->m<=159)/\2<n/\128<=m/\m<=191/\128<=o/\o<=191)\/
 (adb n d m o z=4/\240<=d/\d<=244/\(d=240->144<=m)/\(d=244->m<=143)/\3<n/\128<=m/\m<=191/\128<=o/\o<=191/\128<=z/\z<=191):=by
 unfold adb
 repeat' split
 all_goals omega
theorem azq {n d m o z:Nat} (h:194<=d/\d<=223/\1<n/\128<=m/\m<=191):Lib.decodeN n d m o z=(d%32*64+m%64,2):=by unfold Lib.decodeN;grind
theorem at9 {n d m o z:Nat} (h:224<=d/\d<=239/\(d=224->160<=m)/\(d=237->m<=159)/\2<n/\128<=m/\m<=191/\128<=o/\o<=191):Lib.decodeN n d m o z=(d%16*4096+m%64*64+o%64,3):=by unfold Lib.decodeN;grind
theorem awx {n d m o z:Nat} (h:240<=d/\d<=244/\(d=240->144<=m)/\(d=244->m<=143)/\3<n/\128<=m/\m<=191/\128<=o/\o<=191/\128<=z/\z<=191):Lib.decodeN n d m o z=(d%8*262144+m%64*4096+o%64*64+z%64,4):=by unfold Lib.decodeN;grind
theorem azp (n d m o z:Nat) (h:(Lib.decodeN n d m o z).1=65533) (H:¬(2<n/\d=239/\m=191/\o=189)) (M:m<256) (O:o<256) (U:z<256) (q0:d<256):(Lib.decodeN n d m o z).2=1:=by grind [Lib.decodeN]
theorem adi (s:Bo) (i:Nat) {k:Nat} (h:k=byteAt s i):UInt8.ofNat k=s.getD i 0:=by subst h;simp [byteAt]
def ado (s:Bo) (i:Nat):Nat:=if abj s i=0 then 1 else abj s i
theorem ahy (s:Bo) (i:Nat):1<=ado s i:=by grind [ado]
theorem ayh (s:Bo) (i:Nat) (d:i<s.length):abj s i<=s.length-i/\abj s i<=4:=a3v _ _ _ _ _ (by omega)
theorem a74 (s:Bo) (i:Nat) (d:i<s.length):ado s i<=s.length-i/\ado s i<=4:=by grind [ayh,ado]
theorem bhm (s:Bo) (i:Nat) (d:i<s.length):(aap s i).2=ado s i:=by
 unfold ado;rw [ahx s i d];by_cases h:(aap s i).1=65533/\¬(2<s.length-i/\byteAt s i=239/\byteAt s (i+1)=191/\byteAt s (i+2)=189)
 ·rw [if_pos h,if_pos rfl];exact azp _ _ _ _ _ h.1 h.2 (acs _ _) (acs _ _) (acs _ _) (acs _ _)
 ·rw [if_neg h];have:=(ap5 (s.length-i) (byteAt s i) (byteAt s (i+1)) (byteAt s (i+2)) (byteAt s (i+3))).1;rw [if_neg (by grind [aap])]
theorem agc (s:Bo) (i:Nat) (h:byteAt s i<128):aap s i=(byteAt s i,1):=at8 h
theorem ap6 (s:Bo) (i:Nat) (h:128<=byteAt s i):128<=(aap s i).1:=awy _ _ _ _ _ h
theorem aj0 (s:Bo) (i:Nat) (h:byteAt s i<128):abj s i=1:=by unfold abj adb;rw [if_pos h]
theorem ala (s:Bo) (i:Nat) (d:i<s.length) (m:abj s i≠0):(Utf8.encode ((aap s i).1:Int)).data.toList=(s.drop i).take (abj s i):=by
 have o:=acs s (i+1);have z:=acs s (i+2);have H:=acs s (i+3);have M:byteAt s (i+1+1)=byteAt s (i+2):=rfl;have O:byteAt s (i+1+1+1)=byteAt s (i+3):=rfl;rcases arf (s.length-i) (byteAt s i) (byteAt s (i+1)) (byteAt s (i+2)) (byteAt s (i+3)) (by omega) with h | ⟨h,c⟩ | ⟨h,c⟩ | ⟨h,c⟩ | ⟨h,c⟩
 ·exact absurd h m
 ·rw [show abj s i=1 from h,agc s i c,enc1 _ c,aa4 d 0];simp only [List.take_succ_cons,List.take_zero];rw [adi s i rfl]
 ·rw [show abj s i=2 from h,show aap s i=_ from azq c,enc2 _ (by simp only;omega) (by simp only;omega),aa4 d 0,aa4 (i:=i+1) (by omega) 0];grind [adi]
 ·rw [show abj s i=3 from h,show aap s i=_ from at9 c,enc3 _ (by simp only;omega) (by simp only;omega) (by simp only;omega),aa4 d 0,aa4 (i:=i+1) (by omega) 0,aa4 (i:=i+1+1) (by omega) 0];simp only [List.take_succ_cons,List.take_zero];rw [adi s i (by omega),adi s (i+1) (by omega),adi s (i+1+1) (by omega)]
 ·rw [show abj s i=4 from h,show aap s i=_ from awx c,enc4 _ (by simp only;omega) (by simp only;omega),aa4 d 0,aa4 (i:=i+1) (by omega) 0,aa4 (i:=i+1+1) (by omega) 0,aa4 (i:=i+1+1+1) (by omega) 0];simp only [List.take_succ_cons,List.take_zero];rw [adi s i (by omega),adi s (i+1) (by omega),adi s (i+1+1) (by omega),adi s (i+1+1+1) (by omega)]
def hexd (n:Nat):UInt8:=([48,49,50,51,52,53,54,55,56,57,97,98,99,100,101,102]:Bo).getD n 0
def hex2 (b:Nat):Bo:=[hexd (b / 16),hexd (b%16)]
def aoi (s:Bo) (i:Nat):Bo:=
 if byteAt s i=34 then [92,34] else if byteAt s i=92 then [92,92] else if byteAt s i=10 then [92,110] else if byteAt s i=9 then [92,116] else if byteAt s i=13 then [92,114]
 else if byteAt s i<32\/byteAt s i=127\/abj s i=0 then 92::120::hex2 (byteAt s i) else (s.drop i).take (abj s i)
theorem ax2 (s:Bo) (i:Nat) (d:i<s.length):(aoi s i).length<=4:=by grind [ayh,aoi,hex2]
def abe (s:Bo) (i:Nat):Bo:=if i<s.length then aoi s i++abe s (i+ado s i) else []
termination_by s.length-i
decreasing_by
 grind [ahy]
theorem amc (s:Bo):∀ (m i:Nat),s.length-i<=m->(abe s i).length<=4*(s.length-i):=by
 intro m;induction m with
 | zero=>intro i o;rw [abe,if_neg (by omega)];simp
 | succ m M=>
  intro i o;rw [abe];by_cases d:i<s.length
  ·have z:=ax2 s i d;have H:=ahy s i;grind
  grind
def abi (s:Bo):Bo:=34::(abe s 0++[34])
end Go.Ab
namespace Go.Ab
open Go
def hexN:Nat->Nat->Bo
 | 0,_=>[]
 | n+1,u=>hexN n (u / 16)++[hexd (u%16)]
def hexF:Nat->Nat->Bo
 | 0,_=>[]
 | f+1,u=>if u<16 then [hexd u] else hexF f (u / 16)++[hexd (u%16)]
theorem ali:∀ n u,(hexN n u).length=n:=by
 intro n;induction n with
 | zero=>intro u;rfl
 | succ n d=>grind [hexN]
theorem baq:∀ n,hexN n 0=List.replicate n 48:=by
 intro n;induction n with
 | zero=>rfl
 | succ n d=>rw [hexN,Nat.zero_div,d,List.replicate_succ'];rfl
theorem be5:∀ (n:Nat) (u:Nat),u<16^(n+1)->(hexF (n+1) u).length<=n+1/\List.replicate (n+1-(hexF (n+1) u).length) 48++hexF (n+1) u=hexN (n+1) u:=by
 intro n;induction n with
 | zero=>
  intro u d;have h:u<16:=by simpa using d
  simp only [hexF,if_pos h,hexN,List.length_singleton,At,Nat.mod_eq_of_lt h];grind
 | succ n m=>
  intro u d;by_cases h:u<16
  ·rw [hexF,if_pos h,hexN,Nat.div_eq_of_lt h,Nat.mod_eq_of_lt h,baq];grind
  ·rw [hexF,if_neg h,hexN];grind
theorem be8 (n u:Nat):hexN (n+2) u=hexN n (u / 256)++hexN 2 (u%256):=by grind [hexN]
theorem ak7 (a b:Nat) (o:a<18446744073709551616) (z:b<18446744073709551616):aez .and .u64 (a:Int) (b:Int)=((a &&& b:Nat):Int):=by
 have H:a &&& b<2^64:=Nat.and_lt_two_pow _ (by omega);have d:(BitVec.ofInt 64 (a:Int)).toNat=a:=by grind
 have m:(BitVec.ofInt 64 (b:Int)).toNat=b:=by grind
 show IntKind.u64.wrap ((BitVec.ofInt 64 (a:Int) &&& BitVec.ofInt 64 (b:Int)).toNat:Int)=_;grind [BitVec.toNat_and,IntKind.wrap_u64]
theorem bd3 (u:Nat):u &&& 4503599627370495=u%4503599627370496:=Nat.and_two_pow_sub_one_eq_mod u 52
theorem a8t (u m k:Nat):u &&& (m*2^k)=((u / 2^k) &&& m)*2^k:=by rw [<-Nat.shiftLeft_eq,<-Nat.shiftLeft_eq,<-Nat.shiftRight_eq_div_pow];apply Nat.eq_of_testBit_eq;grind
theorem bd2 (u:Nat):u &&& 9218868437227405312=(u / 4503599627370496%2048)*4503599627370496:=by have:=a8t u 2047 52;rw [show (2047*2^52:Nat)=9218868437227405312 from rfl,show (2^52:Nat)=4503599627370496 from rfl] at this;rw [this,Nat.and_two_pow_sub_one_eq_mod _ 11]
theorem bd4 (u:Nat) (d:u<18446744073709551616):u &&& 9223372036854775808=(u / 9223372036854775808)*9223372036854775808:=by have:=a8t u 1 63;grind
def ab8 (u:Nat):Int:=
 if 9218868437227405312<u%9223372036854775808 then 0 else if u%9223372036854775808=9218868437227405312 then 1 else if u%9223372036854775808=0 then 2 else if u%9223372036854775808<4503599627370496 then 3 else 4
end Go.Ab
