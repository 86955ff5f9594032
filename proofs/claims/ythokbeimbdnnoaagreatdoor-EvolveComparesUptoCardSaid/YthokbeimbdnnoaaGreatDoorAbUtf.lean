/- UTF-8: a sequence's size, by its bytes and by the model's decoding. -/
import Derived.Test.YthokbeimbdnnoaaGreatDoorAbPlain
import Derived.Lib.DecodeN
import Derived.Lib.DecodeNEq
set_option linter.unusedVariables false
set_option linter.unusedSimpArgs false
set_option linter.unnecessarySimpa false
namespace Go.Ab
open Go
def acl (n o h z H:Nat):Nat:=
 if o<128 then 1
 else if 194<=o/\o<=223/\(1<n/\128<=h/\h<=191) then 2
 else if o=224/\(1<n/\160<=h/\h<=191)/\(2<n/\128<=z/\z<=191) then 3
 else if o=237/\(1<n/\128<=h/\h<=159)/\(2<n/\128<=z/\z<=191) then 3
 else if 225<=o/\o<=239/\o≠237/\(1<n/\128<=h/\h<=191)/\(2<n/\128<=z/\z<=191) then 3
 else if o=240/\(1<n/\144<=h/\h<=191)/\(2<n/\128<=z/\z<=191)/\(3<n/\128<=H/\H<=191) then 4
 else if 241<=o/\o<=243/\(1<n/\128<=h/\h<=191)/\(2<n/\128<=z/\z<=191)/\(3<n/\128<=H/\H<=191) then 4
 else if o=244/\(1<n/\128<=h/\h<=143)/\(2<n/\128<=z/\z<=191)/\(3<n/\128<=H/\H<=191) then 4
 else 0
theorem a2x (n z o H I:Nat) (h:194<=z/\z<224):acl n z o H I=if (1<n/\128<=o/\o<=191) then 2 else 0:=by
 unfold acl;by_cases c:(1<n/\128<=o/\o<=191)
 ·rw [if_neg (by omega),if_pos (by omega),if_pos c]
 ·rw [if_neg (by omega),if_neg (by omega),if_neg (by omega),if_neg (by omega),if_neg (by omega),if_neg (by omega),if_neg (by omega),if_neg (by omega),if_neg c]
theorem a2q (n z o H I:Nat) (hn:1<=n) (M:o<256) (O:H<256) (Z:I<256) (h:194<=z/\z<224):
 acl n z o H I=if (Lib.decodeN n z o H I).1=65533/\¬(2<n/\z=239/\o=191/\H=189) then 0 else (Lib.decodeN n z o H I).2:=by
 rw [a2x n z o H I h,<-Lib.slow_C2 n z o H I hn M O Z h]
 by_cases c:(1<n/\128<=o/\o<=191)
 ·rw [if_pos c];have e:Lib.slowN n z o H I 2 128 191=(z%32*64+o%64,2):=by
   unfold Lib.slowN;rw [if_neg (by omega),if_neg (by omega),if_pos (by omega)]
  rw [e,if_neg (by simp only;omega)]
 ·rw [if_neg c];have e:Lib.slowN n z o H I 2 128 191=(65533,1):=by
   unfold Lib.slowN;by_cases J:n<2
   ·rw [if_pos J]
   ·rw [if_neg J,if_pos (by omega)]
  rw [e,if_pos ⟨rfl,by omega⟩]
theorem a2y (n H o z I:Nat) (h:H=224):acl n H o z I=if (1<n/\160<=o/\o<=191)/\(2<n/\128<=z/\z<=191) then 3 else 0:=by
 unfold acl;by_cases c:(1<n/\160<=o/\o<=191)/\(2<n/\128<=z/\z<=191)
 ·rw [if_neg (by omega),if_neg (by omega),if_pos (by omega),if_pos c]
 ·rw [if_neg (by omega),if_neg (by omega),if_neg (by omega),if_neg (by omega),if_neg (by omega),if_neg (by omega),if_neg (by omega),if_neg (by omega),if_neg c]
theorem a2r (n H o z I:Nat) (hn:1<=n) (O:o<256) (Z:z<256) (h3:I<256) (h:H=224):
 acl n H o z I=if (Lib.decodeN n H o z I).1=65533/\¬(2<n/\H=239/\o=191/\z=189) then 0 else (Lib.decodeN n H o z I).2:=by
 rw [a2y n H o z I h,<-Lib.slow_E0 n H o z I hn O Z h3 h]
 by_cases c:(1<n/\160<=o/\o<=191)/\(2<n/\128<=z/\z<=191)
 ·rw [if_pos c];have e:Lib.slowN n H o z I 3 160 191=(H%16*4096+o%64*64+z%64,3):=by
   unfold Lib.slowN;rw [if_neg (by omega),if_neg (by omega),if_neg (by omega),if_neg (by omega),if_pos (by omega)]
  rw [e,if_neg (by simp only;omega)]
 ·rw [if_neg c];have e:Lib.slowN n H o z I 3 160 191=(65533,1):=by
   unfold Lib.slowN;by_cases J:n<3
   ·rw [if_pos J]
   ·by_cases M:o<160\/191<o
    ·rw [if_neg J,if_pos M]
    ·rw [if_neg J,if_neg M,if_neg (by omega),if_pos (by omega)]
  rw [e,if_pos ⟨rfl,by omega⟩]
theorem a2z (n o z H I:Nat) (h:(225<=o/\o<237)\/(238<=o/\o<240)):acl n o z H I=if (1<n/\128<=z/\z<=191)/\(2<n/\128<=H/\H<=191) then 3 else 0:=by
 unfold acl;by_cases c:(1<n/\128<=z/\z<=191)/\(2<n/\128<=H/\H<=191)
 ·rw [if_neg (by omega),if_neg (by omega),if_neg (by omega),if_neg (by omega),if_pos (by omega),if_pos c]
 ·rw [if_neg (by omega),if_neg (by omega),if_neg (by omega),if_neg (by omega),if_neg (by omega),if_neg (by omega),if_neg (by omega),if_neg (by omega),if_neg c]
theorem a2s (n z o H I:Nat) (hn:1<=n) (O:o<256) (Z:H<256) (h3:I<256) (h:(225<=z/\z<237)\/(238<=z/\z<240)):
 acl n z o H I=if (Lib.decodeN n z o H I).1=65533/\¬(2<n/\z=239/\o=191/\H=189) then 0 else (Lib.decodeN n z o H I).2:=by
 rw [a2z n z o H I h,<-Lib.slow_E1 n z o H I hn O Z h3 h]
 by_cases c:(1<n/\128<=o/\o<=191)/\(2<n/\128<=H/\H<=191)
 ·rw [if_pos c];have e:Lib.slowN n z o H I 3 128 191=(z%16*4096+o%64*64+H%64,3):=by
   unfold Lib.slowN;rw [if_neg (by omega),if_neg (by omega),if_neg (by omega),if_neg (by omega),if_pos (by omega)]
  rw [e,if_neg (by simp only;omega)]
 ·rw [if_neg c];have e:Lib.slowN n z o H I 3 128 191=(65533,1):=by
   unfold Lib.slowN;by_cases J:n<3
   ·rw [if_pos J]
   ·by_cases M:o<128\/191<o
    ·rw [if_neg J,if_pos M]
    ·rw [if_neg J,if_neg M,if_neg (by omega),if_pos (by omega)]
  rw [e,if_pos ⟨rfl,by omega⟩]
theorem a3a (n H o z I:Nat) (h:H=237):acl n H o z I=if (1<n/\128<=o/\o<=159)/\(2<n/\128<=z/\z<=191) then 3 else 0:=by
 unfold acl;by_cases c:(1<n/\128<=o/\o<=159)/\(2<n/\128<=z/\z<=191)
 ·rw [if_neg (by omega),if_neg (by omega),if_neg (by omega),if_pos (by omega),if_pos c]
 ·rw [if_neg (by omega),if_neg (by omega),if_neg (by omega),if_neg (by omega),if_neg (by omega),if_neg (by omega),if_neg (by omega),if_neg (by omega),if_neg c]
theorem a2t (n H o z I:Nat) (hn:1<=n) (O:o<256) (Z:z<256) (h3:I<256) (h:H=237):
 acl n H o z I=if (Lib.decodeN n H o z I).1=65533/\¬(2<n/\H=239/\o=191/\z=189) then 0 else (Lib.decodeN n H o z I).2:=by
 rw [a3a n H o z I h,<-Lib.slow_ED n H o z I hn O Z h3 h]
 by_cases c:(1<n/\128<=o/\o<=159)/\(2<n/\128<=z/\z<=191)
 ·rw [if_pos c];have e:Lib.slowN n H o z I 3 128 159=(H%16*4096+o%64*64+z%64,3):=by
   unfold Lib.slowN;rw [if_neg (by omega),if_neg (by omega),if_neg (by omega),if_neg (by omega),if_pos (by omega)]
  rw [e,if_neg (by simp only;omega)]
 ·rw [if_neg c];have e:Lib.slowN n H o z I 3 128 159=(65533,1):=by
   unfold Lib.slowN;by_cases J:n<3
   ·rw [if_pos J]
   ·by_cases M:o<128\/159<o
    ·rw [if_neg J,if_pos M]
    ·rw [if_neg J,if_neg M,if_neg (by omega),if_pos (by omega)]
  rw [e,if_pos ⟨rfl,by omega⟩]
theorem a3b (n I o z H:Nat) (h:I=240):acl n I o z H=if (1<n/\144<=o/\o<=191)/\(2<n/\128<=z/\z<=191)/\(3<n/\128<=H/\H<=191) then 4 else 0:=by
 unfold acl;by_cases c:(1<n/\144<=o/\o<=191)/\(2<n/\128<=z/\z<=191)/\(3<n/\128<=H/\H<=191)
 ·rw [if_neg (by omega),if_neg (by omega),if_neg (by omega),if_neg (by omega),if_neg (by omega),if_pos (by omega),if_pos c]
 ·rw [if_neg (by omega),if_neg (by omega),if_neg (by omega),if_neg (by omega),if_neg (by omega),if_neg (by omega),if_neg (by omega),if_neg (by omega),if_neg c]
theorem a2u (n I o z H:Nat) (hn:1<=n) (Z:o<256) (h2:z<256) (h3:H<256) (h:I=240):
 acl n I o z H=if (Lib.decodeN n I o z H).1=65533/\¬(2<n/\I=239/\o=191/\z=189) then 0 else (Lib.decodeN n I o z H).2:=by
 rw [a3b n I o z H h,<-Lib.slow_F0 n I o z H hn Z h2 h3 h]
 by_cases c:(1<n/\144<=o/\o<=191)/\(2<n/\128<=z/\z<=191)/\(3<n/\128<=H/\H<=191)
 ·rw [if_pos c];have e:Lib.slowN n I o z H 4 144 191=(I%8*262144+o%64*4096+z%64*64+H%64,4):=by
   unfold Lib.slowN;rw [if_neg (by omega),if_neg (by omega),if_neg (by omega),if_neg (by omega),if_neg (by omega),if_neg (by omega)]
  rw [e,if_neg (by simp only;omega)]
 ·rw [if_neg c];have e:Lib.slowN n I o z H 4 144 191=(65533,1):=by
   unfold Lib.slowN;by_cases J:n<4
   ·rw [if_pos J]
   ·by_cases M:o<144\/191<o
    ·rw [if_neg J,if_pos M]
    ·by_cases O:z<128\/191<z
     ·rw [if_neg J,if_neg M,if_neg (by omega),if_pos O]
     ·rw [if_neg J,if_neg M,if_neg (by omega),if_neg O,if_neg (by omega),if_pos (by omega)]
  rw [e,if_pos ⟨rfl,by omega⟩]
theorem a3c (n I o z H:Nat) (h:241<=I/\I<244):acl n I o z H=if (1<n/\128<=o/\o<=191)/\(2<n/\128<=z/\z<=191)/\(3<n/\128<=H/\H<=191) then 4 else 0:=by
 unfold acl;by_cases c:(1<n/\128<=o/\o<=191)/\(2<n/\128<=z/\z<=191)/\(3<n/\128<=H/\H<=191)
 ·rw [if_neg (by omega),if_neg (by omega),if_neg (by omega),if_neg (by omega),if_neg (by omega),if_neg (by omega),if_pos (by omega),if_pos c]
 ·rw [if_neg (by omega),if_neg (by omega),if_neg (by omega),if_neg (by omega),if_neg (by omega),if_neg (by omega),if_neg (by omega),if_neg (by omega),if_neg c]
theorem a2v (n H o z I:Nat) (hn:1<=n) (Z:o<256) (h2:z<256) (h3:I<256) (h:241<=H/\H<244):
 acl n H o z I=if (Lib.decodeN n H o z I).1=65533/\¬(2<n/\H=239/\o=191/\z=189) then 0 else (Lib.decodeN n H o z I).2:=by
 rw [a3c n H o z I h,<-Lib.slow_F1 n H o z I hn Z h2 h3 h]
 by_cases c:(1<n/\128<=o/\o<=191)/\(2<n/\128<=z/\z<=191)/\(3<n/\128<=I/\I<=191)
 ·rw [if_pos c];have e:Lib.slowN n H o z I 4 128 191=(H%8*262144+o%64*4096+z%64*64+I%64,4):=by
   unfold Lib.slowN;rw [if_neg (by omega),if_neg (by omega),if_neg (by omega),if_neg (by omega),if_neg (by omega),if_neg (by omega)]
  rw [e,if_neg (by simp only;omega)]
 ·rw [if_neg c];have e:Lib.slowN n H o z I 4 128 191=(65533,1):=by
   unfold Lib.slowN;by_cases J:n<4
   ·rw [if_pos J]
   ·by_cases M:o<128\/191<o
    ·rw [if_neg J,if_pos M]
    ·by_cases O:z<128\/191<z
     ·rw [if_neg J,if_neg M,if_neg (by omega),if_pos O]
     ·rw [if_neg J,if_neg M,if_neg (by omega),if_neg O,if_neg (by omega),if_pos (by omega)]
  rw [e,if_pos ⟨rfl,by omega⟩]
theorem a3d (n I o z H:Nat) (h:I=244):acl n I o z H=if (1<n/\128<=o/\o<=143)/\(2<n/\128<=z/\z<=191)/\(3<n/\128<=H/\H<=191) then 4 else 0:=by
 unfold acl;by_cases c:(1<n/\128<=o/\o<=143)/\(2<n/\128<=z/\z<=191)/\(3<n/\128<=H/\H<=191)
 ·rw [if_neg (by omega),if_neg (by omega),if_neg (by omega),if_neg (by omega),if_neg (by omega),if_neg (by omega),if_neg (by omega),if_pos (by omega),if_pos c]
 ·rw [if_neg (by omega),if_neg (by omega),if_neg (by omega),if_neg (by omega),if_neg (by omega),if_neg (by omega),if_neg (by omega),if_neg (by omega),if_neg c]
theorem a2w (n I o z H:Nat) (hn:1<=n) (Z:o<256) (h2:z<256) (h3:H<256) (h:I=244):
 acl n I o z H=if (Lib.decodeN n I o z H).1=65533/\¬(2<n/\I=239/\o=191/\z=189) then 0 else (Lib.decodeN n I o z H).2:=by
 rw [a3d n I o z H h,<-Lib.slow_F4 n I o z H hn Z h2 h3 h]
 by_cases c:(1<n/\128<=o/\o<=143)/\(2<n/\128<=z/\z<=191)/\(3<n/\128<=H/\H<=191)
 ·rw [if_pos c];have e:Lib.slowN n I o z H 4 128 143=(I%8*262144+o%64*4096+z%64*64+H%64,4):=by
   unfold Lib.slowN;rw [if_neg (by omega),if_neg (by omega),if_neg (by omega),if_neg (by omega),if_neg (by omega),if_neg (by omega)]
  rw [e,if_neg (by simp only;omega)]
 ·rw [if_neg c];have e:Lib.slowN n I o z H 4 128 143=(65533,1):=by
   unfold Lib.slowN;by_cases J:n<4
   ·rw [if_pos J]
   ·by_cases M:o<128\/143<o
    ·rw [if_neg J,if_pos M]
    ·by_cases O:z<128\/191<z
     ·rw [if_neg J,if_neg M,if_neg (by omega),if_pos O]
     ·rw [if_neg J,if_neg M,if_neg (by omega),if_neg O,if_neg (by omega),if_pos (by omega)]
  rw [e,if_pos ⟨rfl,by omega⟩]
theorem arj (n h o z H:Nat) (O:1<=n) (Z:h<256) (I:o<256) (J:z<256) (M:H<256):
 acl n h o z H=if (Lib.decodeN n h o z H).1=65533/\¬(2<n/\h=239/\o=191/\z=189) then 0 else (Lib.decodeN n h o z H).2:=by
 by_cases g:194<=h/\h<=244
 ·by_cases k1:h<224
  ·exact a2q n h o z H O I J M (by omega)
  by_cases k2:h=224
  ·exact a2r n h o z H O I J M k2
  by_cases k3:h=237
  ·exact a2t n h o z H O I J M k3
  by_cases k4:h<240
  ·exact a2s n h o z H O I J M (by omega)
  by_cases k5:h=240
  ·exact a2u n h o z H O I J M k5
  by_cases k6:h=244
  ·exact a2w n h o z H O I J M k6
  exact a2v n h o z H O I J M (by omega)
 ·by_cases a:h<128
  ·have e:Lib.firstT h=240:=by unfold Lib.firstT;rw [if_pos a]
   rw [Lib.ascii_eq n h o z H e];unfold acl;rw [if_pos a,if_neg (by simp only;omega)]
  ·have e:Lib.firstT h=241:=by
    unfold Lib.firstT;by_cases d:h<194
    ·rw [if_neg a,if_pos d]
    ·rw [if_neg a,if_neg d,if_neg (by omega),if_neg (by omega),if_neg (by omega),if_neg (by omega),if_neg (by omega),if_neg (by omega),if_neg (by omega),if_neg (by omega)]
   rw [Lib.bad_eq n h o z H Z e,if_pos ⟨rfl,by omega⟩];unfold acl;rw [if_neg (by omega),if_neg (by omega),if_neg (by omega),if_neg (by omega),if_neg (by omega),if_neg (by omega),if_neg (by omega),if_neg (by omega)]
def byteAt (s:Bq) (i:Nat):Nat:=(s.getD i 0).toNat
theorem abz (s:Bq) (i:Nat):byteAt s i<256:=(s.getD i 0).toNat_lt
def sizeAt (s:Bq) (i:Nat):Nat:=acl (s.length-i) (byteAt s i) (byteAt s (i+1)) (byteAt s (i+2)) (byteAt s (i+3))
def aap (s:Bq) (i:Nat):Nat×Nat:=Lib.decodeN (s.length-i) (byteAt s i) (byteAt s (i+1)) (byteAt s (i+2)) (byteAt s (i+3))
theorem agt (s:Bq) (i:Nat):Utf8.decode ⟨s.toArray⟩ i=aap s i:=by
 rw [Lib.decode_at];have h:∀ j,((⟨s.toArray⟩:ByteArray).get! j).toNat=byteAt s j:=by intro j;show ((s.toArray)[j]!).toNat=_;simp [byteAt,List.getD];rfl
 rw [h,h,h,h];rfl
theorem af4 (s:Bq) (i:Nat) (h:i<s.length):sizeAt s i=if (aap s i).1=65533/\¬(2<s.length-i/\byteAt s i=239/\byteAt s (i+1)=191/\byteAt s (i+2)=189) then 0 else (aap s i).2:=
 arj _ _ _ _ _ (by omega) (abz _ _) (abz _ _) (abz _ _) (abz _ _)
theorem apn (n h o z H:Nat) (I:0<n):acl n h o z H<=n/\acl n h o z H<=4:=by
 unfold acl;repeat' split
 all_goals omega
theorem alm (n h o z H:Nat):1<=(Lib.decodeN n h o z H).2/\(Lib.decodeN n h o z H).2<=4:=by
 unfold Lib.decodeN;repeat' split
 all_goals simp
theorem a5n (s:Bq) (i:Nat) (hi:i<=s.length):(decide ((((s.take s.length).drop i).length:Int)>=3)&&((((s.take s.length).drop i).take 3)==([239,191,189]:Bq)))=decide (2<s.length-i/\byteAt s i=239/\byteAt s (i+1)=191/\byteAt s (i+2)=189):=by
 rw [List.take_length];rw [Bool.eq_iff_iff];simp only [Ai,A6,beq_iff_eq,Be,ge_iff_le];have H:∀ (x:UInt8) (k:Nat),k<256->(x.toNat=k ↔ x=UInt8.ofNat k):=by
  intro x k hk;constructor
  ·intro h;rw [<-h];exact UInt8.ofNat_toNat.symm
  ·intro h;rw [h,UInt8.toNat_ofNat'];omega
 unfold byteAt;rw [H _ 239 (by omega),H _ 191 (by omega),H _ 189 (by omega)];constructor
 ·rintro ⟨O,o⟩;have z:2<s.length-i:=by omega
  have g:∀ j,j<3->s.getD (i+j) 0=(([239,191,189]:Bq)).getD j 0:=by intro j hj;rw [<-o];simp [List.getD,List.getElem?_take_of_lt hj,List.getElem?_drop]
  exact ⟨z,g 0 (by omega),g 1 (by omega),g 2 (by omega)⟩
 ·rintro ⟨O,o,z,Z⟩;refine ⟨by omega,?_⟩;have I:i<s.length:=by omega
  have J:i+1<s.length:=by omega
  have M:i+2<s.length:=by omega
  rw [abc I 0,abc J 0,abc M 0,o,z,Z];rfl
def badF:Nat->Bq->Nat->Int
 | 0,_,_=>-1
 | n+1,s,i=>if i<s.length then (if sizeAt s i=0 then (i:Int) else badF n s (i+sizeAt s i)) else -1
theorem ar4:∀ (n m:Nat) (s:Bq) (i:Nat),s.length-i<n->s.length-i<m->badF n s i=badF m s i:=by
 intro n;induction n with
 | zero=>intro m s i h;omega
 | succ n H=>
  intro m s i h I;obtain ⟨k,rfl⟩:∃ k,m=k+1:=⟨m-1,by omega⟩;unfold badF;by_cases o:i<s.length
  ·simp only [o,Ba];by_cases z:sizeAt s i=0
   ·simp only [z,Ba]
   ·simp only [z,A8];exact H k s _ (by omega) (by omega)
  ·simp only [o,A8]
def aed (s:Bq) (i:Nat):Int:=badF (s.length-i+1) s i
theorem ae3 (s:Bq) (i:Nat):aed s i=if i<s.length then (if sizeAt s i=0 then (i:Int) else aed s (i+sizeAt s i)) else -1:=by
 unfold aed;rw [badF];by_cases h:i<s.length
 ·simp only [h,Ba];by_cases o:sizeAt s i=0
  ·simp only [o,Ba]
  ·simp only [o,A8];exact ar4 _ _ s _ (by omega) (by omega)
 ·simp only [h,A8]
def bad (s:Bq):Int:=aed s 0
def valid (s:Bq):Bool:=decide (bad s<0)
end Go.Ab
namespace Go.Ab
open Go
theorem enc1 (r:Nat) (h:r<128):(Utf8.encode (r:Int)).data.toList=[UInt8.ofNat r]:=by
 have v:Utf8.valid (r:Int)=true:=by simp [Utf8.valid];omega
 simp [Utf8.encode,v,h]
theorem enc2 (r:Nat) (h:¬r<128) (o:r<2048):(Utf8.encode (r:Int)).data.toList=[UInt8.ofNat (192+r / 64),UInt8.ofNat (128+r%64)]:=by
 have v:Utf8.valid (r:Int)=true:=by simp [Utf8.valid];omega
 simp [Utf8.encode,v,h,o]
theorem enc3 (r:Nat) (o:¬r<2048) (z:r<65536) (H:r<55296\/57344<=r):(Utf8.encode (r:Int)).data.toList=[UInt8.ofNat (224+r / 4096),UInt8.ofNat (128+r / 64%64),UInt8.ofNat (128+r%64)]:=by
 have v:Utf8.valid (r:Int)=true:=by simp [Utf8.valid];omega
 have h:¬r<128:=by omega
 simp [Utf8.encode,v,h,o,z]
theorem enc4 (r:Nat) (z:¬r<65536) (H:r<=1114111):(Utf8.encode (r:Int)).data.toList=[UInt8.ofNat (240+r / 262144),UInt8.ofNat (128+r / 4096%64),UInt8.ofNat (128+r / 64%64),UInt8.ofNat (128+r%64)]:=by
 have v:Utf8.valid (r:Int)=true:=by simp [Utf8.valid];omega
 have h:¬r<128:=by omega
 have o:¬r<2048:=by omega
 simp [Utf8.encode,v,h,o,z]
theorem aol {n o z H I:Nat} (h:o<128):Lib.decodeN n o z H I=(o,1):=by unfold Lib.decodeN;rw [if_pos h]
theorem aqg (n o z H I:Nat) (h:128<=o):128<=(Lib.decodeN n o z H I).1:=by
 unfold Lib.decodeN;rw [if_neg (by omega)];repeat' split
 all_goals (simp only;omega)
theorem atj (n h o z H:Nat) (I:1<=n):acl n h o z H=0\/(acl n h o z H=1/\h<128)\/
 (acl n h o z H=2/\194<=h/\h<=223/\1<n/\128<=o/\o<=191)\/
 (acl n h o z H=3/\224<=h/\h<=239/\(h=224->160<=o)/\(h=237->o<=159)/\2<n/\128<=o/\o<=191/\128<=z/\z<=191)\/
 (acl n h o z H=4/\240<=h/\h<=244/\(h=240->144<=o)/\(h=244->o<=143)/\3<n/\128<=o/\o<=191/\128<=z/\z<=191/\128<=H/\H<=191):=by
 unfold acl
 repeat' split
 all_goals omega
theorem ash {n o z H I:Nat} (h:194<=o/\o<=223/\1<n/\128<=z/\z<=191):Lib.decodeN n o z H I=(o%32*64+z%64,2):=by unfold Lib.decodeN;rw [if_neg (by omega),if_pos (by omega),if_pos (by omega)]
theorem aom {n o z H I:Nat} (h:224<=o/\o<=239/\(o=224->160<=z)/\(o=237->z<=159)/\2<n/\128<=z/\z<=191/\128<=H/\H<=191):Lib.decodeN n o z H I=(o%16*4096+z%64*64+H%64,3):=by unfold Lib.decodeN;rw [if_neg (by omega),if_neg (by omega),if_pos (by omega),if_pos (by omega)]
theorem aqf {n o z H I:Nat} (h:240<=o/\o<=244/\(o=240->144<=z)/\(o=244->z<=143)/\3<n/\128<=z/\z<=191/\128<=H/\H<=191/\128<=I/\I<=191):Lib.decodeN n o z H I=(o%8*262144+z%64*4096+H%64*64+I%64,4):=by unfold Lib.decodeN;rw [if_neg (by omega),if_neg (by omega),if_neg (by omega),if_pos (by omega),if_pos (by omega)]
theorem asg (n o z H I:Nat) (h:(Lib.decodeN n o z H I).1=65533) (J:¬(2<n/\o=239/\z=191/\H=189)) (M:z<256) (O:H<256) (Z:I<256) (q0:o<256):(Lib.decodeN n o z H I).2=1:=by
 revert h;unfold Lib.decodeN;repeat' split
 all_goals (intro h;first | rfl | (exfalso;simp only at h;omega))
theorem acf (s:Bq) (i:Nat) {k:Nat} (h:k=byteAt s i):UInt8.ofNat k=s.getD i 0:=by subst h;simp [byteAt]
def ac1 (s:Bq) (i:Nat):Nat:=if sizeAt s i=0 then 1 else sizeAt s i
theorem af5 (s:Bq) (i:Nat):1<=ac1 s i:=by unfold ac1;split<;>omega
theorem amp (s:Bq) (i:Nat) (h:i<s.length):sizeAt s i<=s.length-i/\sizeAt s i<=4:=apn _ _ _ _ _ (by omega)
theorem aj4 (s:Bq) (i:Nat) (h:i<s.length):ac1 s i<=s.length-i/\ac1 s i<=4:=by have:=amp s i h;unfold ac1;split<;>omega
theorem a3q (s:Bq) (i:Nat) (o:i<s.length):(aap s i).2=ac1 s i:=by
 unfold ac1;rw [af4 s i o];by_cases h:(aap s i).1=65533/\¬(2<s.length-i/\byteAt s i=239/\byteAt s (i+1)=191/\byteAt s (i+2)=189)
 ·rw [if_pos h,if_pos rfl];exact asg _ _ _ _ _ h.1 h.2 (abz _ _) (abz _ _) (abz _ _) (abz _ _)
 ·rw [if_neg h];have:=(alm (s.length-i) (byteAt s i) (byteAt s (i+1)) (byteAt s (i+2)) (byteAt s (i+3))).1;rw [if_neg (by unfold aap;omega)]
theorem aep (s:Bq) (i:Nat) (h:byteAt s i<128):aap s i=(byteAt s i,1):=aol h
theorem aln (s:Bq) (i:Nat) (h:128<=byteAt s i):128<=(aap s i).1:=aqg _ _ _ _ _ h
theorem aj2 (s:Bq) (i:Nat) (h:byteAt s i<128):sizeAt s i=1:=by unfold sizeAt acl;rw [if_pos h]
theorem aio (s:Bq) (i:Nat) (o:i<s.length) (z:sizeAt s i≠0):(Utf8.encode ((aap s i).1:Int)).data.toList=(s.drop i).take (sizeAt s i):=by
 have H:=abz s (i+1);have I:=abz s (i+2);have J:=abz s (i+3);have M:byteAt s (i+1+1)=byteAt s (i+2):=rfl;have O:byteAt s (i+1+1+1)=byteAt s (i+3):=rfl;rcases atj (s.length-i) (byteAt s i) (byteAt s (i+1)) (byteAt s (i+2)) (byteAt s (i+3)) (by omega) with h | ⟨h,c⟩ | ⟨h,c⟩ | ⟨h,c⟩ | ⟨h,c⟩
 ·exact absurd h z
 ·rw [show sizeAt s i=1 from h,aep s i c,enc1 _ c,abc o 0];simp only [List.take_succ_cons,List.take_zero];rw [acf s i rfl]
 ·rw [show sizeAt s i=2 from h,show aap s i=_ from ash c,enc2 _ (by simp only;omega) (by simp only;omega),abc o 0,abc (i:=i+1) (by omega) 0];simp only [List.take_succ_cons,List.take_zero];rw [acf s i (by omega),acf s (i+1) (by omega)]
 ·rw [show sizeAt s i=3 from h,show aap s i=_ from aom c,enc3 _ (by simp only;omega) (by simp only;omega) (by simp only;omega),abc o 0,abc (i:=i+1) (by omega) 0,abc (i:=i+1+1) (by omega) 0];simp only [List.take_succ_cons,List.take_zero];rw [acf s i (by omega),acf s (i+1) (by omega),acf s (i+1+1) (by omega)]
 ·rw [show sizeAt s i=4 from h,show aap s i=_ from aqf c,enc4 _ (by simp only;omega) (by simp only;omega),abc o 0,abc (i:=i+1) (by omega) 0,abc (i:=i+1+1) (by omega) 0,abc (i:=i+1+1+1) (by omega) 0];simp only [List.take_succ_cons,List.take_zero];rw [acf s i (by omega),acf s (i+1) (by omega),acf s (i+1+1) (by omega),acf s (i+1+1+1) (by omega)]
def hexd (n:Nat):UInt8:=([48,49,50,51,52,53,54,55,56,57,97,98,99,100,101,102]:Bq).getD n 0
def hex2 (b:Nat):Bq:=[hexd (b / 16),hexd (b%16)]
def ah4 (s:Bq) (i:Nat):Bq:=
 if byteAt s i=34 then [92,34] else if byteAt s i=92 then [92,92] else if byteAt s i=10 then [92,110] else if byteAt s i=9 then [92,116] else if byteAt s i=13 then [92,114]
 else if byteAt s i<32\/byteAt s i=127\/sizeAt s i=0 then 92::120::hex2 (byteAt s i) else (s.drop i).take (sizeAt s i)
theorem amc (s:Bq) (i:Nat) (h:i<s.length):(ah4 s i).length<=4:=by
 have:=amp s i h;unfold ah4;repeat' split
 all_goals simp [hex2]
 omega
def abt (s:Bq) (i:Nat):Bq:=if i<s.length then ah4 s i++abt s (i+ac1 s i) else []
termination_by s.length-i
decreasing_by
 have:=af5 s i
 omega
theorem af2 (s:Bq):∀ (m i:Nat),s.length-i<=m->(abt s i).length<=4*(s.length-i):=by
 intro m;induction m with
 | zero=>intro i o;rw [abt,if_neg (by omega)];simp
 | succ m z=>
  intro i o;rw [abt];by_cases h:i<s.length
  ·have H:=amc s i h;have I:=af5 s i;have J:=aj4 s i h;have:=z (i+ac1 s i) (by omega);rw [if_pos h,Ak];omega
  ·rw [if_neg h];simp
def aj0 (s:Bq):Bq:=34::(abt s 0++[34])
end Go.Ab
namespace Go.Ab
open Go
def hexN:Nat->Nat->Bq
 | 0,_=>[]
 | n+1,u=>hexN n (u / 16)++[hexd (u%16)]
def hexF:Nat->Nat->Bq
 | 0,_=>[]
 | f+1,u=>if u<16 then [hexd u] else hexF f (u / 16)++[hexd (u%16)]
theorem aov:∀ n u,(hexN n u).length=n:=by
 intro n;induction n with
 | zero=>intro u;rfl
 | succ n h=>intro u;simp [hexN,h]
theorem ayb:∀ n,hexN n 0=List.replicate n 48:=by
 intro n;induction n with
 | zero=>rfl
 | succ n h=>rw [hexN,Nat.zero_div,h,List.replicate_succ'];rfl
theorem a1n:∀ (n:Nat) (u:Nat),u<16^(n+1)->(hexF (n+1) u).length<=n+1/\List.replicate (n+1-(hexF (n+1) u).length) 48++hexF (n+1) u=hexN (n+1) u:=by
 intro n;induction n with
 | zero=>
  intro u o;have h:u<16:=by simpa using o
  simp only [hexF,if_pos h,hexN,List.length_singleton,A9,Nat.mod_eq_of_lt h];exact ⟨Nat.le_refl _,rfl⟩
 | succ n H=>
  intro u o;by_cases h:u<16
  ·rw [hexF,if_pos h,hexN,Nat.div_eq_of_lt h,Nat.mod_eq_of_lt h,ayb];exact ⟨by simp,by simp⟩
  ·rw [hexF,if_neg h,hexN];obtain ⟨I,z⟩:=H (u / 16) (by rw [Nat.pow_succ] at o;omega);rw [<-z];refine ⟨by simp;omega,?_⟩;rw [<-Ap];congr 3;simp
theorem a1o (n u:Nat):hexN (n+2) u=hexN n (u / 256)++hexN 2 (u%256):=by simp only [hexN,A9];rw [show u / 16 / 16=u / 256 by omega,show u%256 / 16%16=u / 16%16 by omega,show u%256%16=u%16 by omega];simp
theorem aim (a b:Nat) (z:a<18446744073709551616) (H:b<18446744073709551616):agi .and .u64 (a:Int) (b:Int)=((a &&& b:Nat):Int):=by
 have I:a &&& b<2^64:=Nat.and_lt_two_pow _ (by omega);have h:(BitVec.ofInt 64 (a:Int)).toNat=a:=by rw [BitVec.ofInt_natCast,BitVec.toNat_ofNat];exact Nat.mod_eq_of_lt (by omega)
 have o:(BitVec.ofInt 64 (b:Int)).toNat=b:=by rw [BitVec.ofInt_natCast,BitVec.toNat_ofNat];exact Nat.mod_eq_of_lt (by omega)
 show IntKind.u64.wrap ((BitVec.ofInt 64 (a:Int) &&& BitVec.ofInt 64 (b:Int)).toNat:Int)=_;rw [BitVec.toNat_and,h,o,IntKind.wrap_u64];omega
theorem a0r (u:Nat):u &&& 4503599627370495=u%4503599627370496:=Nat.and_two_pow_sub_one_eq_mod u 52
theorem axe (u m k:Nat):u &&& (m*2^k)=((u / 2^k) &&& m)*2^k:=by
 rw [<-Nat.shiftLeft_eq,<-Nat.shiftLeft_eq,<-Nat.shiftRight_eq_div_pow];apply Nat.eq_of_testBit_eq;intro i;simp only [Nat.testBit_and,Nat.testBit_shiftLeft,Nat.testBit_shiftRight];by_cases h:k<=i
 ·simp [h]
 ·simp [h]
theorem a0q (u:Nat):u &&& 9218868437227405312=(u / 4503599627370496%2048)*4503599627370496:=by have:=axe u 2047 52;rw [show (2047*2^52:Nat)=9218868437227405312 from rfl,show (2^52:Nat)=4503599627370496 from rfl] at this;rw [this,Nat.and_two_pow_sub_one_eq_mod _ 11]
theorem a0s (u:Nat) (h:u<18446744073709551616):u &&& 9223372036854775808=(u / 9223372036854775808)*9223372036854775808:=by
 have:=axe u 1 63;rw [show (1*2^63:Nat)=9223372036854775808 from rfl,show (2^63:Nat)=9223372036854775808 from rfl] at this;rw [this,Nat.and_two_pow_sub_one_eq_mod _ 1];have:u / 9223372036854775808%2^1=u / 9223372036854775808:=by omega
 rw [this]
def aen (u:Nat):Int:=
 if 9218868437227405312<u%9223372036854775808 then 0 else if u%9223372036854775808=9218868437227405312 then 1 else if u%9223372036854775808=0 then 2 else if u%9223372036854775808<4503599627370496 then 3 else 4
end Go.Ab
