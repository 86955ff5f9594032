/- UTF-8: a sequence's size, by its bytes and by the model's decoding. -/
import Derived.Test.YtodichgnoiaanaaGreatDoorAbPlain
import Derived.Lib.DecodeN
import Derived.Lib.DecodeNEq
set_option linter.unusedVariables false
set_option linter.unusedSimpArgs false
set_option linter.unnecessarySimpa false
namespace Go.Ab
open Go
def acr (n o h z H:Nat):Nat:=
 if o<128 then 1
 else if 194<=o/\o<=223/\(1<n/\128<=h/\h<=191) then 2
 else if o=224/\(1<n/\160<=h/\h<=191)/\(2<n/\128<=z/\z<=191) then 3
 else if o=237/\(1<n/\128<=h/\h<=159)/\(2<n/\128<=z/\z<=191) then 3
 else if 225<=o/\o<=239/\o≠237/\(1<n/\128<=h/\h<=191)/\(2<n/\128<=z/\z<=191) then 3
 else if o=240/\(1<n/\144<=h/\h<=191)/\(2<n/\128<=z/\z<=191)/\(3<n/\128<=H/\H<=191) then 4
 else if 241<=o/\o<=243/\(1<n/\128<=h/\h<=191)/\(2<n/\128<=z/\z<=191)/\(3<n/\128<=H/\H<=191) then 4
 else if o=244/\(1<n/\128<=h/\h<=143)/\(2<n/\128<=z/\z<=191)/\(3<n/\128<=H/\H<=191) then 4
 else 0
theorem baa (n o z H I:Nat) (h:194<=o/\o<224):acr n o z H I=if (1<n/\128<=z/\z<=191) then 2 else 0:=by unfold acr;grind
theorem a9w (n z o H I:Nat) (Z:1<=n) (J:o<256) (M:H<256) (O:I<256) (h:194<=z/\z<224):
 acr n z o H I=if (Lib.decodeN n z o H I).1=65533/\¬(2<n/\z=239/\o=191/\H=189) then 0 else (Lib.decodeN n z o H I).2:=by
 rw [baa n z o H I h,<-Lib.slow_C2 n z o H I Z J M O h]
 by_cases c:(1<n/\128<=o/\o<=191)
 ·rw [if_pos c];have e:Lib.slowN n z o H I 2 128 191=(z%32*64+o%64,2):=by
   unfold Lib.slowN;grind
  grind
 ·rw [if_neg c];have e:Lib.slowN n z o H I 2 128 191=(65533,1):=by
   unfold Lib.slowN;grind
  grind
theorem bab (n H o z I:Nat) (h:H=224):acr n H o z I=if (1<n/\160<=o/\o<=191)/\(2<n/\128<=z/\z<=191) then 3 else 0:=by unfold acr;grind
theorem a9x (n H o z I:Nat) (Z:1<=n) (J:o<256) (M:z<256) (O:I<256) (h:H=224):
 acr n H o z I=if (Lib.decodeN n H o z I).1=65533/\¬(2<n/\H=239/\o=191/\z=189) then 0 else (Lib.decodeN n H o z I).2:=by
 rw [bab n H o z I h,<-Lib.slow_E0 n H o z I Z J M O h]
 by_cases c:(1<n/\160<=o/\o<=191)/\(2<n/\128<=z/\z<=191)
 ·rw [if_pos c];have e:Lib.slowN n H o z I 3 160 191=(H%16*4096+o%64*64+z%64,3):=by
   unfold Lib.slowN;grind
  grind
 ·rw [if_neg c];have e:Lib.slowN n H o z I 3 160 191=(65533,1):=by
   unfold Lib.slowN;grind
  grind
theorem bac (n o z H I:Nat) (h:(225<=o/\o<237)\/(238<=o/\o<240)):acr n o z H I=if (1<n/\128<=z/\z<=191)/\(2<n/\128<=H/\H<=191) then 3 else 0:=by
 unfold acr;by_cases c:(1<n/\128<=z/\z<=191)/\(2<n/\128<=H/\H<=191)
 ·rw [if_neg (by omega),if_neg (by omega),if_neg (by omega),if_neg (by omega),if_pos (by omega),if_pos c]
 grind
theorem a9y (n o z H I:Nat) (Z:1<=n) (J:z<256) (M:H<256) (O:I<256) (h:(225<=o/\o<237)\/(238<=o/\o<240)):
 acr n o z H I=if (Lib.decodeN n o z H I).1=65533/\¬(2<n/\o=239/\z=191/\H=189) then 0 else (Lib.decodeN n o z H I).2:=by
 rw [bac n o z H I h,<-Lib.slow_E1 n o z H I Z J M O h]
 by_cases c:(1<n/\128<=z/\z<=191)/\(2<n/\128<=H/\H<=191)
 ·rw [if_pos c];have e:Lib.slowN n o z H I 3 128 191=(o%16*4096+z%64*64+H%64,3):=by
   unfold Lib.slowN;grind
  grind
 ·rw [if_neg c];have e:Lib.slowN n o z H I 3 128 191=(65533,1):=by
   unfold Lib.slowN;grind
  grind
theorem bae (n H o z I:Nat) (h:H=237):acr n H o z I=if (1<n/\128<=o/\o<=159)/\(2<n/\128<=z/\z<=191) then 3 else 0:=by unfold acr;grind
theorem a9z (n H o z I:Nat) (Z:1<=n) (J:o<256) (M:z<256) (O:I<256) (h:H=237):
 acr n H o z I=if (Lib.decodeN n H o z I).1=65533/\¬(2<n/\H=239/\o=191/\z=189) then 0 else (Lib.decodeN n H o z I).2:=by
 rw [bae n H o z I h,<-Lib.slow_ED n H o z I Z J M O h]
 by_cases c:(1<n/\128<=o/\o<=159)/\(2<n/\128<=z/\z<=191)
 ·rw [if_pos c];have e:Lib.slowN n H o z I 3 128 159=(H%16*4096+o%64*64+z%64,3):=by
   unfold Lib.slowN;grind
  grind
 ·rw [if_neg c];have e:Lib.slowN n H o z I 3 128 159=(65533,1):=by
   unfold Lib.slowN;grind
  grind
theorem baf (n I o z H:Nat) (h:I=240):acr n I o z H=if (1<n/\144<=o/\o<=191)/\(2<n/\128<=z/\z<=191)/\(3<n/\128<=H/\H<=191) then 4 else 0:=by unfold acr;grind
theorem a97 (n I o z H:Nat) (Z:1<=n) (J:o<256) (M:z<256) (O:H<256) (h:I=240):
 acr n I o z H=if (Lib.decodeN n I o z H).1=65533/\¬(2<n/\I=239/\o=191/\z=189) then 0 else (Lib.decodeN n I o z H).2:=by
 rw [baf n I o z H h,<-Lib.slow_F0 n I o z H Z J M O h]
 by_cases c:(1<n/\144<=o/\o<=191)/\(2<n/\128<=z/\z<=191)/\(3<n/\128<=H/\H<=191)
 ·rw [if_pos c];have e:Lib.slowN n I o z H 4 144 191=(I%8*262144+o%64*4096+z%64*64+H%64,4):=by
   unfold Lib.slowN;grind
  grind
 ·rw [if_neg c];have e:Lib.slowN n I o z H 4 144 191=(65533,1):=by
   unfold Lib.slowN;grind
  grind
theorem bag (n o z H I:Nat) (h:241<=o/\o<244):acr n o z H I=if (1<n/\128<=z/\z<=191)/\(2<n/\128<=H/\H<=191)/\(3<n/\128<=I/\I<=191) then 4 else 0:=by unfold acr;grind
theorem a98 (n H o z I:Nat) (Z:1<=n) (J:o<256) (M:z<256) (O:I<256) (h:241<=H/\H<244):
 acr n H o z I=if (Lib.decodeN n H o z I).1=65533/\¬(2<n/\H=239/\o=191/\z=189) then 0 else (Lib.decodeN n H o z I).2:=by
 rw [bag n H o z I h,<-Lib.slow_F1 n H o z I Z J M O h]
 by_cases c:(1<n/\128<=o/\o<=191)/\(2<n/\128<=z/\z<=191)/\(3<n/\128<=I/\I<=191)
 ·rw [if_pos c];have e:Lib.slowN n H o z I 4 128 191=(H%8*262144+o%64*4096+z%64*64+I%64,4):=by
   unfold Lib.slowN;grind
  grind
 ·rw [if_neg c];have e:Lib.slowN n H o z I 4 128 191=(65533,1):=by
   unfold Lib.slowN;grind
  grind
theorem bah (n I o z H:Nat) (h:I=244):acr n I o z H=if (1<n/\128<=o/\o<=143)/\(2<n/\128<=z/\z<=191)/\(3<n/\128<=H/\H<=191) then 4 else 0:=by unfold acr;grind
theorem a99 (n I o z H:Nat) (Z:1<=n) (J:o<256) (M:z<256) (O:H<256) (h:I=244):
 acr n I o z H=if (Lib.decodeN n I o z H).1=65533/\¬(2<n/\I=239/\o=191/\z=189) then 0 else (Lib.decodeN n I o z H).2:=by
 rw [bah n I o z H h,<-Lib.slow_F4 n I o z H Z J M O h]
 by_cases c:(1<n/\128<=o/\o<=143)/\(2<n/\128<=z/\z<=191)/\(3<n/\128<=H/\H<=191)
 ·rw [if_pos c];have e:Lib.slowN n I o z H 4 128 143=(I%8*262144+o%64*4096+z%64*64+H%64,4):=by
   unfold Lib.slowN;grind
  grind
 ·rw [if_neg c];have e:Lib.slowN n I o z H 4 128 143=(65533,1):=by
   unfold Lib.slowN;grind
  grind
theorem au6 (n h o z H:Nat) (Z:1<=n) (I:h<256) (J:o<256) (M:z<256) (O:H<256):
 acr n h o z H=if (Lib.decodeN n h o z H).1=65533/\¬(2<n/\h=239/\o=191/\z=189) then 0 else (Lib.decodeN n h o z H).2:=by
 by_cases g:194<=h/\h<=244
 ·grind [a9w,a9x,a9z,a9y,a97,a99,a98]
 ·by_cases a:h<128
  ·have e:Lib.firstT h=240:=by unfold Lib.firstT;rw [if_pos a]
   rw [Lib.ascii_eq n h o z H e];unfold acr;grind
  ·have e:Lib.firstT h=241:=by
    unfold Lib.firstT;grind
   rw [Lib.bad_eq n h o z H I e,if_pos ⟨rfl,by omega⟩];unfold acr;grind
def byteAt (s:Bo) (i:Nat):Nat:=(s.getD i 0).toNat
theorem ab6 (s:Bo) (i:Nat):byteAt s i<256:=(s.getD i 0).toNat_lt
def sizeAt (s:Bo) (i:Nat):Nat:=acr (s.length-i) (byteAt s i) (byteAt s (i+1)) (byteAt s (i+2)) (byteAt s (i+3))
def aan (s:Bo) (i:Nat):Nat×Nat:=Lib.decodeN (s.length-i) (byteAt s i) (byteAt s (i+1)) (byteAt s (i+2)) (byteAt s (i+3))
theorem ahp (s:Bo) (i:Nat):Utf8.decode ⟨s.toArray⟩ i=aan s i:=by
 rw [Lib.decode_at];have h:∀ j,((⟨s.toArray⟩:ByteArray).get! j).toNat=byteAt s j:=by intro j;show ((s.toArray)[j]!).toNat=_;simp [byteAt,List.getD];rfl
 rw [h,h,h,h];rfl
theorem ag5 (s:Bo) (i:Nat) (h:i<s.length):sizeAt s i=if (aan s i).1=65533/\¬(2<s.length-i/\byteAt s i=239/\byteAt s (i+1)=191/\byteAt s (i+2)=189) then 0 else (aan s i).2:=
 au6 _ _ _ _ _ (by omega) (ab6 _ _) (ab6 _ _) (ab6 _ _) (ab6 _ _)
theorem asi (n h o z H:Nat) (I:0<n):acr n h o z H<=n/\acr n h o z H<=4:=by grind [acr]
theorem anv (n h o z H:Nat):1<=(Lib.decodeN n h o z H).2/\(Lib.decodeN n h o z H).2<=4:=by grind [Lib.decodeN]
theorem bb9 (s:Bo) (i:Nat) (z:i<=s.length):(decide ((((s.take s.length).drop i).length:Int)>=3)&&((((s.take s.length).drop i).take 3)==([239,191,189]:Bo)))=decide (2<s.length-i/\byteAt s i=239/\byteAt s (i+1)=191/\byteAt s (i+2)=189):=by
 rw [List.take_length];rw [Bool.eq_iff_iff];simp only [Aj,A4,beq_iff_eq,Bk,ge_iff_le];have o:∀ (x:UInt8) (k:Nat),k<256->(x.toNat=k ↔ x=UInt8.ofNat k):=by
  intro x k H;constructor
  ·intro h;rw [<-h];exact UInt8.ofNat_toNat.symm
  grind [UInt8.toNat_ofNat']
 unfold byteAt;rw [o _ 239 (by omega),o _ 191 (by omega),o _ 189 (by omega)];grind [List.getD,List.getElem?_take_of_lt,abg]
def badF:Nat->Bo->Nat->Int
 | 0,_,_=>-1
 | n+1,s,i=>if i<s.length then (if sizeAt s i=0 then (i:Int) else badF n s (i+sizeAt s i)) else -1
theorem avx:∀ (n m:Nat) (s:Bo) (i:Nat),s.length-i<n->s.length-i<m->badF n s i=badF m s i:=by
 intro n;induction n with
 | zero=>grind
 | succ n z=>intro m s i h o;obtain ⟨k,rfl⟩:∃ k,m=k+1:=⟨m-1,by omega⟩;unfold badF;grind
def ae0 (s:Bo) (i:Nat):Int:=badF (s.length-i+1) s i
theorem aid (s:Bo) (i:Nat):ae0 s i=if i<s.length then (if sizeAt s i=0 then (i:Int) else ae0 s (i+sizeAt s i)) else -1:=by
 unfold ae0;rw [badF];by_cases h:i<s.length
 ·simp only [h,A9];by_cases o:sizeAt s i=0
  ·grind
  ·simp only [o,Bb];grind [avx]
 grind
def bad (s:Bo):Int:=ae0 s 0
def valid (s:Bo):Bool:=decide (bad s<0)
end Go.Ab
namespace Go.Ab
open Go
theorem enc1 (r:Nat) (h:r<128):(Utf8.encode (r:Int)).data.toList=[UInt8.ofNat r]:=by
 have v:Utf8.valid (r:Int)=true:=by grind [Utf8.valid]
 simp [Utf8.encode,v,h]
theorem enc2 (r:Nat) (h:¬r<128) (o:r<2048):(Utf8.encode (r:Int)).data.toList=[UInt8.ofNat (192+r / 64),UInt8.ofNat (128+r%64)]:=by
 have v:Utf8.valid (r:Int)=true:=by grind [Utf8.valid]
 simp [Utf8.encode,v,h,o]
theorem enc3 (r:Nat) (o:¬r<2048) (z:r<65536) (H:r<55296\/57344<=r):(Utf8.encode (r:Int)).data.toList=[UInt8.ofNat (224+r / 4096),UInt8.ofNat (128+r / 64%64),UInt8.ofNat (128+r%64)]:=by
 have v:Utf8.valid (r:Int)=true:=by grind [Utf8.valid]
 have h:¬r<128:=by omega
 simp [Utf8.encode,v,h,o,z]
theorem enc4 (r:Nat) (z:¬r<65536) (H:r<=1114111):(Utf8.encode (r:Int)).data.toList=[UInt8.ofNat (240+r / 262144),UInt8.ofNat (128+r / 4096%64),UInt8.ofNat (128+r / 64%64),UInt8.ofNat (128+r%64)]:=by
 have v:Utf8.valid (r:Int)=true:=by grind [Utf8.valid]
 have h:¬r<128:=by omega
 have o:¬r<2048:=by omega
 simp [Utf8.encode,v,h,o,z]
theorem aq9 {n o z H I:Nat} (h:o<128):Lib.decodeN n o z H I=(o,1):=by unfold Lib.decodeN;rw [if_pos h]
theorem atm (n o z H I:Nat) (h:128<=o):128<=(Lib.decodeN n o z H I).1:=by unfold Lib.decodeN;grind
theorem axh (n h o z H:Nat) (I:1<=n):acr n h o z H=0\/(acr n h o z H=1/\h<128)\/
 (acr n h o z H=2/\194<=h/\h<=223/\1<n/\128<=o/\o<=191)\/
 (acr n h o z H=3/\224<=h/\h<=239/\(h=224->160<=o)/\(h=237->o<=159)/\2<n/\128<=o/\o<=191/\128<=z/\z<=191)\/
 (acr n h o z H=4/\240<=h/\h<=244/\(h=240->144<=o)/\(h=244->o<=143)/\3<n/\128<=o/\o<=191/\128<=z/\z<=191/\128<=H/\H<=191):=by
 unfold acr
 repeat' split
 all_goals omega
theorem awa {n o z H I:Nat} (h:194<=o/\o<=223/\1<n/\128<=z/\z<=191):Lib.decodeN n o z H I=(o%32*64+z%64,2):=by unfold Lib.decodeN;grind
theorem ara {n o z H I:Nat} (h:224<=o/\o<=239/\(o=224->160<=z)/\(o=237->z<=159)/\2<n/\128<=z/\z<=191/\128<=H/\H<=191):Lib.decodeN n o z H I=(o%16*4096+z%64*64+H%64,3):=by unfold Lib.decodeN;grind
theorem atl {n o z H I:Nat} (h:240<=o/\o<=244/\(o=240->144<=z)/\(o=244->z<=143)/\3<n/\128<=z/\z<=191/\128<=H/\H<=191/\128<=I/\I<=191):Lib.decodeN n o z H I=(o%8*262144+z%64*4096+H%64*64+I%64,4):=by unfold Lib.decodeN;grind
theorem av9 (n o z H I:Nat) (h:(Lib.decodeN n o z H I).1=65533) (J:¬(2<n/\o=239/\z=191/\H=189)) (M:z<256) (O:H<256) (Z:I<256) (q0:o<256):(Lib.decodeN n o z H I).2=1:=by grind [Lib.decodeN]
theorem ac2 (s:Bo) (i:Nat) {k:Nat} (h:k=byteAt s i):UInt8.ofNat k=s.getD i 0:=by subst h;simp [byteAt]
def ady (s:Bo) (i:Nat):Nat:=if sizeAt s i=0 then 1 else sizeAt s i
theorem ag6 (s:Bo) (i:Nat):1<=ady s i:=by grind [ady]
theorem ao2 (s:Bo) (i:Nat) (h:i<s.length):sizeAt s i<=s.length-i/\sizeAt s i<=4:=asi _ _ _ _ _ (by omega)
theorem aqp (s:Bo) (i:Nat) (h:i<s.length):ady s i<=s.length-i/\ady s i<=4:=by grind [ao2,ady]
theorem baz (s:Bo) (i:Nat) (o:i<s.length):(aan s i).2=ady s i:=by
 unfold ady;rw [ag5 s i o];by_cases h:(aan s i).1=65533/\¬(2<s.length-i/\byteAt s i=239/\byteAt s (i+1)=191/\byteAt s (i+2)=189)
 ·rw [if_pos h,if_pos rfl];exact av9 _ _ _ _ _ h.1 h.2 (ab6 _ _) (ab6 _ _) (ab6 _ _) (ab6 _ _)
 ·rw [if_neg h];have:=(anv (s.length-i) (byteAt s i) (byteAt s (i+1)) (byteAt s (i+2)) (byteAt s (i+3))).1;rw [if_neg (by grind [aan])]
theorem afh (s:Bo) (i:Nat) (h:byteAt s i<128):aan s i=(byteAt s i,1):=aq9 h
theorem anw (s:Bo) (i:Nat) (h:128<=byteAt s i):128<=(aan s i).1:=atm _ _ _ _ _ h
theorem als (s:Bo) (i:Nat) (h:byteAt s i<128):sizeAt s i=1:=by unfold sizeAt acr;rw [if_pos h]
theorem aj4 (s:Bo) (i:Nat) (o:i<s.length) (z:sizeAt s i≠0):(Utf8.encode ((aan s i).1:Int)).data.toList=(s.drop i).take (sizeAt s i):=by
 have H:=ab6 s (i+1);have I:=ab6 s (i+2);have J:=ab6 s (i+3);have M:byteAt s (i+1+1)=byteAt s (i+2):=rfl;have O:byteAt s (i+1+1+1)=byteAt s (i+3):=rfl;rcases axh (s.length-i) (byteAt s i) (byteAt s (i+1)) (byteAt s (i+2)) (byteAt s (i+3)) (by omega) with h | ⟨h,c⟩ | ⟨h,c⟩ | ⟨h,c⟩ | ⟨h,c⟩
 ·exact absurd h z
 ·rw [show sizeAt s i=1 from h,afh s i c,enc1 _ c,abg o 0];simp only [List.take_succ_cons,List.take_zero];rw [ac2 s i rfl]
 ·rw [show sizeAt s i=2 from h,show aan s i=_ from awa c,enc2 _ (by simp only;omega) (by simp only;omega),abg o 0,abg (i:=i+1) (by omega) 0];grind [ac2]
 ·rw [show sizeAt s i=3 from h,show aan s i=_ from ara c,enc3 _ (by simp only;omega) (by simp only;omega) (by simp only;omega),abg o 0,abg (i:=i+1) (by omega) 0,abg (i:=i+1+1) (by omega) 0];simp only [List.take_succ_cons,List.take_zero];rw [ac2 s i (by omega),ac2 s (i+1) (by omega),ac2 s (i+1+1) (by omega)]
 ·rw [show sizeAt s i=4 from h,show aan s i=_ from atl c,enc4 _ (by simp only;omega) (by simp only;omega),abg o 0,abg (i:=i+1) (by omega) 0,abg (i:=i+1+1) (by omega) 0,abg (i:=i+1+1+1) (by omega) 0];simp only [List.take_succ_cons,List.take_zero];rw [ac2 s i (by omega),ac2 s (i+1) (by omega),ac2 s (i+1+1) (by omega),ac2 s (i+1+1+1) (by omega)]
def hexd (n:Nat):UInt8:=([48,49,50,51,52,53,54,55,56,57,97,98,99,100,101,102]:Bo).getD n 0
def hex2 (b:Nat):Bo:=[hexd (b / 16),hexd (b%16)]
def aja (s:Bo) (i:Nat):Bo:=
 if byteAt s i=34 then [92,34] else if byteAt s i=92 then [92,92] else if byteAt s i=10 then [92,110] else if byteAt s i=9 then [92,116] else if byteAt s i=13 then [92,114]
 else if byteAt s i<32\/byteAt s i=127\/sizeAt s i=0 then 92::120::hex2 (byteAt s i) else (s.drop i).take (sizeAt s i)
theorem aon (s:Bo) (i:Nat) (h:i<s.length):(aja s i).length<=4:=by grind [ao2,aja,hex2]
def ack (s:Bo) (i:Nat):Bo:=if i<s.length then aja s i++ack s (i+ady s i) else []
termination_by s.length-i
decreasing_by
 grind [ag6]
theorem ag3 (s:Bo):∀ (m i:Nat),s.length-i<=m->(ack s i).length<=4*(s.length-i):=by
 intro m;induction m with
 | zero=>intro i o;rw [ack,if_neg (by omega)];simp
 | succ m I=>
  intro i o;rw [ack];by_cases h:i<s.length
  ·have z:=aon s i h;have H:=ag6 s i;grind
  grind
def aor (s:Bo):Bo:=34::(ack s 0++[34])
end Go.Ab
namespace Go.Ab
open Go
def hexN:Nat->Nat->Bo
 | 0,_=>[]
 | n+1,u=>hexN n (u / 16)++[hexd (u%16)]
def hexF:Nat->Nat->Bo
 | 0,_=>[]
 | f+1,u=>if u<16 then [hexd u] else hexF f (u / 16)++[hexd (u%16)]
theorem arl:∀ n u,(hexN n u).length=n:=by
 intro n;induction n with
 | zero=>intro u;rfl
 | succ n h=>intro u;simp [hexN,h]
theorem a3j:∀ n,hexN n 0=List.replicate n 48:=by
 intro n;induction n with
 | zero=>rfl
 | succ n h=>rw [hexN,Nat.zero_div,h,List.replicate_succ'];rfl
theorem a8m:∀ (n:Nat) (u:Nat),u<16^(n+1)->(hexF (n+1) u).length<=n+1/\List.replicate (n+1-(hexF (n+1) u).length) 48++hexF (n+1) u=hexN (n+1) u:=by
 intro n;induction n with
 | zero=>
  intro u o;have h:u<16:=by simpa using o
  simp only [hexF,if_pos h,hexN,List.length_singleton,A6,Nat.mod_eq_of_lt h];exact ⟨Nat.le_refl _,rfl⟩
 | succ n H=>
  intro u o;by_cases h:u<16
  ·rw [hexF,if_pos h,hexN,Nat.div_eq_of_lt h,Nat.mod_eq_of_lt h,a3j];exact ⟨by simp,by simp⟩
  ·rw [hexF,if_neg h,hexN];obtain ⟨I,z⟩:=H (u / 16) (by rw [Nat.pow_succ] at o;omega);rw [<-z];refine ⟨by simp;omega,?_⟩;rw [<-As];congr 3;simp
theorem a8n (n u:Nat):hexN (n+2) u=hexN n (u / 256)++hexN 2 (u%256):=by simp only [hexN,A6];rw [show u / 16 / 16=u / 256 by omega,show u%256 / 16%16=u / 16%16 by omega,show u%256%16=u%16 by omega];simp
theorem aj0 (a b:Nat) (z:a<18446744073709551616) (H:b<18446744073709551616):ahg .and .u64 (a:Int) (b:Int)=((a &&& b:Nat):Int):=by
 have I:a &&& b<2^64:=Nat.and_lt_two_pow _ (by omega);have h:(BitVec.ofInt 64 (a:Int)).toNat=a:=by rw [BitVec.ofInt_natCast,BitVec.toNat_ofNat];exact Nat.mod_eq_of_lt (by omega)
 have o:(BitVec.ofInt 64 (b:Int)).toNat=b:=by rw [BitVec.ofInt_natCast,BitVec.toNat_ofNat];exact Nat.mod_eq_of_lt (by omega)
 show IntKind.u64.wrap ((BitVec.ofInt 64 (a:Int) &&& BitVec.ofInt 64 (b:Int)).toNat:Int)=_;rw [BitVec.toNat_and,h,o,IntKind.wrap_u64];omega
theorem a7g (u:Nat):u &&& 4503599627370495=u%4503599627370496:=Nat.and_two_pow_sub_one_eq_mod u 52
theorem a1v (u m k:Nat):u &&& (m*2^k)=((u / 2^k) &&& m)*2^k:=by
 rw [<-Nat.shiftLeft_eq,<-Nat.shiftLeft_eq,<-Nat.shiftRight_eq_div_pow];apply Nat.eq_of_testBit_eq;intro i;simp only [Nat.testBit_and,Nat.testBit_shiftLeft,Nat.testBit_shiftRight];by_cases h:k<=i
 ·simp [h]
 ·simp [h]
theorem a7f (u:Nat):u &&& 9218868437227405312=(u / 4503599627370496%2048)*4503599627370496:=by have:=a1v u 2047 52;rw [show (2047*2^52:Nat)=9218868437227405312 from rfl,show (2^52:Nat)=4503599627370496 from rfl] at this;rw [this,Nat.and_two_pow_sub_one_eq_mod _ 11]
theorem a7h (u:Nat) (h:u<18446744073709551616):u &&& 9223372036854775808=(u / 9223372036854775808)*9223372036854775808:=by
 have:=a1v u 1 63;rw [show (1*2^63:Nat)=9223372036854775808 from rfl,show (2^63:Nat)=9223372036854775808 from rfl] at this;rw [this,Nat.and_two_pow_sub_one_eq_mod _ 1];have:u / 9223372036854775808%2^1=u / 9223372036854775808:=by omega
 rw [this]
def ai5 (u:Nat):Int:=
 if 9218868437227405312<u%9223372036854775808 then 0 else if u%9223372036854775808=9218868437227405312 then 1 else if u%9223372036854775808=0 then 2 else if u%9223372036854775808<4503599627370496 then 3 else 4
end Go.Ab
