/- UTF-8: a sequence's size, by its bytes and by the model's decoding. -/
import Derived.Test.YtjogoleiodbfdaaGreatDoorAbPlain
import Derived.Lib.DecodeN
import Derived.Lib.DecodeNEq
set_option linter.unusedVariables false
set_option linter.unusedSimpArgs false
set_option linter.unnecessarySimpa false
namespace Go.Ab
open Go
def acp (n o h H I:Nat):Nat:=
 if o<128 then 1
 else if 194<=o/\o<=223/\(1<n/\128<=h/\h<=191) then 2
 else if o=224/\(1<n/\160<=h/\h<=191)/\(2<n/\128<=H/\H<=191) then 3
 else if o=237/\(1<n/\128<=h/\h<=159)/\(2<n/\128<=H/\H<=191) then 3
 else if 225<=o/\o<=239/\o≠237/\(1<n/\128<=h/\h<=191)/\(2<n/\128<=H/\H<=191) then 3
 else if o=240/\(1<n/\144<=h/\h<=191)/\(2<n/\128<=H/\H<=191)/\(3<n/\128<=I/\I<=191) then 4
 else if 241<=o/\o<=243/\(1<n/\128<=h/\h<=191)/\(2<n/\128<=H/\H<=191)/\(3<n/\128<=I/\I<=191) then 4
 else if o=244/\(1<n/\128<=h/\h<=143)/\(2<n/\128<=H/\H<=191)/\(3<n/\128<=I/\I<=191) then 4
 else 0
theorem a5t (n H o I J:Nat) (h:194<=H/\H<224):acp n H o I J=if (1<n/\128<=o/\o<=191) then 2 else 0:=by
 unfold acp;by_cases c:(1<n/\128<=o/\o<=191)
 ·rw [if_neg (by omega),if_pos (by omega),if_pos c]
 ·rw [if_neg (by omega),if_neg (by omega),if_neg (by omega),if_neg (by omega),if_neg (by omega),if_neg (by omega),if_neg (by omega),if_neg (by omega),if_neg c]
theorem a5m (n H o I J:Nat) (hn:1<=n) (O:o<256) (Z:I<256) (h3:J<256) (h:194<=H/\H<224):
 acp n H o I J=if (Lib.decodeN n H o I J).1=65533/\¬(2<n/\H=239/\o=191/\I=189) then 0 else (Lib.decodeN n H o I J).2:=by
 rw [a5t n H o I J h,<-Lib.slow_C2 n H o I J hn O Z h3 h]
 by_cases c:(1<n/\128<=o/\o<=191)
 ·rw [if_pos c];have e:Lib.slowN n H o I J 2 128 191=(H%32*64+o%64,2):=by
   unfold Lib.slowN;rw [if_neg (by omega),if_neg (by omega),if_pos (by omega)]
  rw [e,if_neg (by simp only;omega)]
 ·rw [if_neg c];have e:Lib.slowN n H o I J 2 128 191=(65533,1):=by
   unfold Lib.slowN;by_cases M:n<2
   ·rw [if_pos M]
   ·rw [if_neg M,if_pos (by omega)]
  rw [e,if_pos ⟨rfl,by omega⟩]
theorem a5u (n I o H J:Nat) (h:I=224):acp n I o H J=if (1<n/\160<=o/\o<=191)/\(2<n/\128<=H/\H<=191) then 3 else 0:=by
 unfold acp;by_cases c:(1<n/\160<=o/\o<=191)/\(2<n/\128<=H/\H<=191)
 ·rw [if_neg (by omega),if_neg (by omega),if_pos (by omega),if_pos c]
 ·rw [if_neg (by omega),if_neg (by omega),if_neg (by omega),if_neg (by omega),if_neg (by omega),if_neg (by omega),if_neg (by omega),if_neg (by omega),if_neg c]
theorem a5n (n I o H J:Nat) (hn:1<=n) (Z:o<256) (h2:H<256) (h3:J<256) (h:I=224):
 acp n I o H J=if (Lib.decodeN n I o H J).1=65533/\¬(2<n/\I=239/\o=191/\H=189) then 0 else (Lib.decodeN n I o H J).2:=by
 rw [a5u n I o H J h,<-Lib.slow_E0 n I o H J hn Z h2 h3 h]
 by_cases c:(1<n/\160<=o/\o<=191)/\(2<n/\128<=H/\H<=191)
 ·rw [if_pos c];have e:Lib.slowN n I o H J 3 160 191=(I%16*4096+o%64*64+H%64,3):=by
   unfold Lib.slowN;rw [if_neg (by omega),if_neg (by omega),if_neg (by omega),if_neg (by omega),if_pos (by omega)]
  rw [e,if_neg (by simp only;omega)]
 ·rw [if_neg c];have e:Lib.slowN n I o H J 3 160 191=(65533,1):=by
   unfold Lib.slowN;by_cases M:n<3
   ·rw [if_pos M]
   ·by_cases O:o<160\/191<o
    ·rw [if_neg M,if_pos O]
    ·rw [if_neg M,if_neg O,if_neg (by omega),if_pos (by omega)]
  rw [e,if_pos ⟨rfl,by omega⟩]
theorem a5v (n o H I J:Nat) (h:(225<=o/\o<237)\/(238<=o/\o<240)):acp n o H I J=if (1<n/\128<=H/\H<=191)/\(2<n/\128<=I/\I<=191) then 3 else 0:=by
 unfold acp;by_cases c:(1<n/\128<=H/\H<=191)/\(2<n/\128<=I/\I<=191)
 ·rw [if_neg (by omega),if_neg (by omega),if_neg (by omega),if_neg (by omega),if_pos (by omega),if_pos c]
 ·rw [if_neg (by omega),if_neg (by omega),if_neg (by omega),if_neg (by omega),if_neg (by omega),if_neg (by omega),if_neg (by omega),if_neg (by omega),if_neg c]
theorem a5o (n H o I J:Nat) (hn:1<=n) (Z:o<256) (h2:I<256) (h3:J<256) (h:(225<=H/\H<237)\/(238<=H/\H<240)):
 acp n H o I J=if (Lib.decodeN n H o I J).1=65533/\¬(2<n/\H=239/\o=191/\I=189) then 0 else (Lib.decodeN n H o I J).2:=by
 rw [a5v n H o I J h,<-Lib.slow_E1 n H o I J hn Z h2 h3 h]
 by_cases c:(1<n/\128<=o/\o<=191)/\(2<n/\128<=I/\I<=191)
 ·rw [if_pos c];have e:Lib.slowN n H o I J 3 128 191=(H%16*4096+o%64*64+I%64,3):=by
   unfold Lib.slowN;rw [if_neg (by omega),if_neg (by omega),if_neg (by omega),if_neg (by omega),if_pos (by omega)]
  rw [e,if_neg (by simp only;omega)]
 ·rw [if_neg c];have e:Lib.slowN n H o I J 3 128 191=(65533,1):=by
   unfold Lib.slowN;by_cases M:n<3
   ·rw [if_pos M]
   ·by_cases O:o<128\/191<o
    ·rw [if_neg M,if_pos O]
    ·rw [if_neg M,if_neg O,if_neg (by omega),if_pos (by omega)]
  rw [e,if_pos ⟨rfl,by omega⟩]
theorem a5w (n I o H J:Nat) (h:I=237):acp n I o H J=if (1<n/\128<=o/\o<=159)/\(2<n/\128<=H/\H<=191) then 3 else 0:=by
 unfold acp;by_cases c:(1<n/\128<=o/\o<=159)/\(2<n/\128<=H/\H<=191)
 ·rw [if_neg (by omega),if_neg (by omega),if_neg (by omega),if_pos (by omega),if_pos c]
 ·rw [if_neg (by omega),if_neg (by omega),if_neg (by omega),if_neg (by omega),if_neg (by omega),if_neg (by omega),if_neg (by omega),if_neg (by omega),if_neg c]
theorem a5p (n I o H J:Nat) (hn:1<=n) (Z:o<256) (h2:H<256) (h3:J<256) (h:I=237):
 acp n I o H J=if (Lib.decodeN n I o H J).1=65533/\¬(2<n/\I=239/\o=191/\H=189) then 0 else (Lib.decodeN n I o H J).2:=by
 rw [a5w n I o H J h,<-Lib.slow_ED n I o H J hn Z h2 h3 h]
 by_cases c:(1<n/\128<=o/\o<=159)/\(2<n/\128<=H/\H<=191)
 ·rw [if_pos c];have e:Lib.slowN n I o H J 3 128 159=(I%16*4096+o%64*64+H%64,3):=by
   unfold Lib.slowN;rw [if_neg (by omega),if_neg (by omega),if_neg (by omega),if_neg (by omega),if_pos (by omega)]
  rw [e,if_neg (by simp only;omega)]
 ·rw [if_neg c];have e:Lib.slowN n I o H J 3 128 159=(65533,1):=by
   unfold Lib.slowN;by_cases M:n<3
   ·rw [if_pos M]
   ·by_cases O:o<128\/159<o
    ·rw [if_neg M,if_pos O]
    ·rw [if_neg M,if_neg O,if_neg (by omega),if_pos (by omega)]
  rw [e,if_pos ⟨rfl,by omega⟩]
theorem a5x (n J o H I:Nat) (h:J=240):acp n J o H I=if (1<n/\144<=o/\o<=191)/\(2<n/\128<=H/\H<=191)/\(3<n/\128<=I/\I<=191) then 4 else 0:=by
 unfold acp;by_cases c:(1<n/\144<=o/\o<=191)/\(2<n/\128<=H/\H<=191)/\(3<n/\128<=I/\I<=191)
 ·rw [if_neg (by omega),if_neg (by omega),if_neg (by omega),if_neg (by omega),if_neg (by omega),if_pos (by omega),if_pos c]
 ·rw [if_neg (by omega),if_neg (by omega),if_neg (by omega),if_neg (by omega),if_neg (by omega),if_neg (by omega),if_neg (by omega),if_neg (by omega),if_neg c]
theorem a5q (n J o H I:Nat) (hn:1<=n) (h1:o<256) (h2:H<256) (h3:I<256) (h:J=240):
 acp n J o H I=if (Lib.decodeN n J o H I).1=65533/\¬(2<n/\J=239/\o=191/\H=189) then 0 else (Lib.decodeN n J o H I).2:=by
 rw [a5x n J o H I h,<-Lib.slow_F0 n J o H I hn h1 h2 h3 h]
 by_cases c:(1<n/\144<=o/\o<=191)/\(2<n/\128<=H/\H<=191)/\(3<n/\128<=I/\I<=191)
 ·rw [if_pos c];have e:Lib.slowN n J o H I 4 144 191=(J%8*262144+o%64*4096+H%64*64+I%64,4):=by
   unfold Lib.slowN;rw [if_neg (by omega),if_neg (by omega),if_neg (by omega),if_neg (by omega),if_neg (by omega),if_neg (by omega)]
  rw [e,if_neg (by simp only;omega)]
 ·rw [if_neg c];have e:Lib.slowN n J o H I 4 144 191=(65533,1):=by
   unfold Lib.slowN;by_cases M:n<4
   ·rw [if_pos M]
   ·by_cases O:o<144\/191<o
    ·rw [if_neg M,if_pos O]
    ·by_cases Z:H<128\/191<H
     ·rw [if_neg M,if_neg O,if_neg (by omega),if_pos Z]
     ·rw [if_neg M,if_neg O,if_neg (by omega),if_neg Z,if_neg (by omega),if_pos (by omega)]
  rw [e,if_pos ⟨rfl,by omega⟩]
theorem a5y (n J o H I:Nat) (h:241<=J/\J<244):acp n J o H I=if (1<n/\128<=o/\o<=191)/\(2<n/\128<=H/\H<=191)/\(3<n/\128<=I/\I<=191) then 4 else 0:=by
 unfold acp;by_cases c:(1<n/\128<=o/\o<=191)/\(2<n/\128<=H/\H<=191)/\(3<n/\128<=I/\I<=191)
 ·rw [if_neg (by omega),if_neg (by omega),if_neg (by omega),if_neg (by omega),if_neg (by omega),if_neg (by omega),if_pos (by omega),if_pos c]
 ·rw [if_neg (by omega),if_neg (by omega),if_neg (by omega),if_neg (by omega),if_neg (by omega),if_neg (by omega),if_neg (by omega),if_neg (by omega),if_neg c]
theorem a5r (n I o H J:Nat) (hn:1<=n) (h1:o<256) (h2:H<256) (h3:J<256) (h:241<=I/\I<244):
 acp n I o H J=if (Lib.decodeN n I o H J).1=65533/\¬(2<n/\I=239/\o=191/\H=189) then 0 else (Lib.decodeN n I o H J).2:=by
 rw [a5y n I o H J h,<-Lib.slow_F1 n I o H J hn h1 h2 h3 h]
 by_cases c:(1<n/\128<=o/\o<=191)/\(2<n/\128<=H/\H<=191)/\(3<n/\128<=J/\J<=191)
 ·rw [if_pos c];have e:Lib.slowN n I o H J 4 128 191=(I%8*262144+o%64*4096+H%64*64+J%64,4):=by
   unfold Lib.slowN;rw [if_neg (by omega),if_neg (by omega),if_neg (by omega),if_neg (by omega),if_neg (by omega),if_neg (by omega)]
  rw [e,if_neg (by simp only;omega)]
 ·rw [if_neg c];have e:Lib.slowN n I o H J 4 128 191=(65533,1):=by
   unfold Lib.slowN;by_cases M:n<4
   ·rw [if_pos M]
   ·by_cases O:o<128\/191<o
    ·rw [if_neg M,if_pos O]
    ·by_cases Z:H<128\/191<H
     ·rw [if_neg M,if_neg O,if_neg (by omega),if_pos Z]
     ·rw [if_neg M,if_neg O,if_neg (by omega),if_neg Z,if_neg (by omega),if_pos (by omega)]
  rw [e,if_pos ⟨rfl,by omega⟩]
theorem a5z (n J o H I:Nat) (h:J=244):acp n J o H I=if (1<n/\128<=o/\o<=143)/\(2<n/\128<=H/\H<=191)/\(3<n/\128<=I/\I<=191) then 4 else 0:=by
 unfold acp;by_cases c:(1<n/\128<=o/\o<=143)/\(2<n/\128<=H/\H<=191)/\(3<n/\128<=I/\I<=191)
 ·rw [if_neg (by omega),if_neg (by omega),if_neg (by omega),if_neg (by omega),if_neg (by omega),if_neg (by omega),if_neg (by omega),if_pos (by omega),if_pos c]
 ·rw [if_neg (by omega),if_neg (by omega),if_neg (by omega),if_neg (by omega),if_neg (by omega),if_neg (by omega),if_neg (by omega),if_neg (by omega),if_neg c]
theorem a5s (n J o H I:Nat) (hn:1<=n) (h1:o<256) (h2:H<256) (h3:I<256) (h:J=244):
 acp n J o H I=if (Lib.decodeN n J o H I).1=65533/\¬(2<n/\J=239/\o=191/\H=189) then 0 else (Lib.decodeN n J o H I).2:=by
 rw [a5z n J o H I h,<-Lib.slow_F4 n J o H I hn h1 h2 h3 h]
 by_cases c:(1<n/\128<=o/\o<=143)/\(2<n/\128<=H/\H<=191)/\(3<n/\128<=I/\I<=191)
 ·rw [if_pos c];have e:Lib.slowN n J o H I 4 128 143=(J%8*262144+o%64*4096+H%64*64+I%64,4):=by
   unfold Lib.slowN;rw [if_neg (by omega),if_neg (by omega),if_neg (by omega),if_neg (by omega),if_neg (by omega),if_neg (by omega)]
  rw [e,if_neg (by simp only;omega)]
 ·rw [if_neg c];have e:Lib.slowN n J o H I 4 128 143=(65533,1):=by
   unfold Lib.slowN;by_cases M:n<4
   ·rw [if_pos M]
   ·by_cases O:o<128\/143<o
    ·rw [if_neg M,if_pos O]
    ·by_cases Z:H<128\/191<H
     ·rw [if_neg M,if_neg O,if_neg (by omega),if_pos Z]
     ·rw [if_neg M,if_neg O,if_neg (by omega),if_neg Z,if_neg (by omega),if_pos (by omega)]
  rw [e,if_pos ⟨rfl,by omega⟩]
theorem ast (n h o H I:Nat) (Z:1<=n) (h0:h<256) (J:o<256) (M:H<256) (O:I<256):
 acp n h o H I=if (Lib.decodeN n h o H I).1=65533/\¬(2<n/\h=239/\o=191/\H=189) then 0 else (Lib.decodeN n h o H I).2:=by
 by_cases g:194<=h/\h<=244
 ·by_cases k1:h<224
  ·exact a5m n h o H I Z J M O (by omega)
  by_cases k2:h=224
  ·exact a5n n h o H I Z J M O k2
  by_cases k3:h=237
  ·exact a5p n h o H I Z J M O k3
  by_cases k4:h<240
  ·exact a5o n h o H I Z J M O (by omega)
  by_cases k5:h=240
  ·exact a5q n h o H I Z J M O k5
  by_cases k6:h=244
  ·exact a5s n h o H I Z J M O k6
  exact a5r n h o H I Z J M O (by omega)
 ·by_cases a:h<128
  ·have e:Lib.firstT h=240:=by unfold Lib.firstT;rw [if_pos a]
   rw [Lib.ascii_eq n h o H I e];unfold acp;rw [if_pos a,if_neg (by simp only;omega)]
  ·have e:Lib.firstT h=241:=by
    unfold Lib.firstT;by_cases d:h<194
    ·rw [if_neg a,if_pos d]
    ·rw [if_neg a,if_neg d,if_neg (by omega),if_neg (by omega),if_neg (by omega),if_neg (by omega),if_neg (by omega),if_neg (by omega),if_neg (by omega),if_neg (by omega)]
   rw [Lib.bad_eq n h o H I h0 e,if_pos ⟨rfl,by omega⟩];unfold acp;rw [if_neg (by omega),if_neg (by omega),if_neg (by omega),if_neg (by omega),if_neg (by omega),if_neg (by omega),if_neg (by omega),if_neg (by omega)]
def byteAt (s:Bt) (i:Nat):Nat:=(s.getD i 0).toNat
theorem ab5 (s:Bt) (i:Nat):byteAt s i<256:=(s.getD i 0).toNat_lt
def sizeAt (s:Bt) (i:Nat):Nat:=acp (s.length-i) (byteAt s i) (byteAt s (i+1)) (byteAt s (i+2)) (byteAt s (i+3))
def aap (s:Bt) (i:Nat):Nat×Nat:=Lib.decodeN (s.length-i) (byteAt s i) (byteAt s (i+1)) (byteAt s (i+2)) (byteAt s (i+3))
theorem ag3 (s:Bt) (i:Nat):Utf8.decode ⟨s.toArray⟩ i=aap s i:=by
 rw [Lib.decode_at];have h:∀ j,((⟨s.toArray⟩:ByteArray).get! j).toNat=byteAt s j:=by intro j;show ((s.toArray)[j]!).toNat=_;simp [byteAt,List.getD];rfl
 rw [h,h,h,h];rfl
theorem agj (s:Bt) (i:Nat) (h:i<s.length):sizeAt s i=if (aap s i).1=65533/\¬(2<s.length-i/\byteAt s i=239/\byteAt s (i+1)=191/\byteAt s (i+2)=189) then 0 else (aap s i).2:=
 ast _ _ _ _ _ (by omega) (ab5 _ _) (ab5 _ _) (ab5 _ _) (ab5 _ _)
theorem aqq (n h o H I:Nat) (J:0<n):acp n h o H I<=n/\acp n h o H I<=4:=by
 unfold acp;repeat' split
 all_goals omega
theorem amh (n h o H I:Nat):1<=(Lib.decodeN n h o H I).2/\(Lib.decodeN n h o H I).2<=4:=by
 unfold Lib.decodeN;repeat' split
 all_goals simp
theorem a8i (s:Bt) (i:Nat) (hi:i<=s.length):(decide ((((s.take s.length).drop i).length:Int)>=3)&&((((s.take s.length).drop i).take 3)==([239,191,189]:Bt)))=decide (2<s.length-i/\byteAt s i=239/\byteAt s (i+1)=191/\byteAt s (i+2)=189):=by
 rw [List.take_length];rw [Bool.eq_iff_iff];simp only [Aj,A5,beq_iff_eq,Be,ge_iff_le];have I:∀ (x:UInt8) (k:Nat),k<256->(x.toNat=k ↔ x=UInt8.ofNat k):=by
  intro x k hk;constructor
  ·intro h;rw [<-h];exact UInt8.ofNat_toNat.symm
  ·intro h;rw [h,UInt8.toNat_ofNat'];omega
 unfold byteAt;rw [I _ 239 (by omega),I _ 191 (by omega),I _ 189 (by omega)];constructor
 ·rintro ⟨Z,o⟩;have H:2<s.length-i:=by omega
  have g:∀ j,j<3->s.getD (i+j) 0=(([239,191,189]:Bt)).getD j 0:=by intro j hj;rw [<-o];simp [List.getD,List.getElem?_take_of_lt hj,List.getElem?_drop]
  exact ⟨H,g 0 (by omega),g 1 (by omega),g 2 (by omega)⟩
 ·rintro ⟨Z,o,H,h4⟩;refine ⟨by omega,?_⟩;have J:i<s.length:=by omega
  have M:i+1<s.length:=by omega
  have O:i+2<s.length:=by omega
  rw [aa8 J 0,aa8 M 0,aa8 O 0,o,H,h4];rfl
def badF:Nat->Bt->Nat->Int
 | 0,_,_=>-1
 | n+1,s,i=>if i<s.length then (if sizeAt s i=0 then (i:Int) else badF n s (i+sizeAt s i)) else -1
theorem atg:∀ (n m:Nat) (s:Bt) (i:Nat),s.length-i<n->s.length-i<m->badF n s i=badF m s i:=by
 intro n;induction n with
 | zero=>intro m s i h;omega
 | succ n I=>
  intro m s i h J;obtain ⟨k,rfl⟩:∃ k,m=k+1:=⟨m-1,by omega⟩;unfold badF;by_cases o:i<s.length
  ·simp only [o,A9];by_cases H:sizeAt s i=0
   ·simp only [H,A9]
   ·simp only [H,A8];exact I k s _ (by omega) (by omega)
  ·simp only [o,A8]
def aen (s:Bt) (i:Nat):Int:=badF (s.length-i+1) s i
theorem aff (s:Bt) (i:Nat):aen s i=if i<s.length then (if sizeAt s i=0 then (i:Int) else aen s (i+sizeAt s i)) else -1:=by
 unfold aen;rw [badF];by_cases h:i<s.length
 ·simp only [h,A9];by_cases o:sizeAt s i=0
  ·simp only [o,A9]
  ·simp only [o,A8];exact atg _ _ s _ (by omega) (by omega)
 ·simp only [h,A8]
def bad (s:Bt):Int:=aen s 0
def valid (s:Bt):Bool:=decide (bad s<0)
end Go.Ab
namespace Go.Ab
open Go
theorem enc1 (r:Nat) (h:r<128):(Utf8.encode (r:Int)).data.toList=[UInt8.ofNat r]:=by
 have v:Utf8.valid (r:Int)=true:=by simp [Utf8.valid];omega
 simp [Utf8.encode,v,h]
theorem enc2 (r:Nat) (h:¬r<128) (o:r<2048):(Utf8.encode (r:Int)).data.toList=[UInt8.ofNat (192+r / 64),UInt8.ofNat (128+r%64)]:=by
 have v:Utf8.valid (r:Int)=true:=by simp [Utf8.valid];omega
 simp [Utf8.encode,v,h,o]
theorem enc3 (r:Nat) (o:¬r<2048) (H:r<65536) (I:r<55296\/57344<=r):(Utf8.encode (r:Int)).data.toList=[UInt8.ofNat (224+r / 4096),UInt8.ofNat (128+r / 64%64),UInt8.ofNat (128+r%64)]:=by
 have v:Utf8.valid (r:Int)=true:=by simp [Utf8.valid];omega
 have h:¬r<128:=by omega
 simp [Utf8.encode,v,h,o,H]
theorem enc4 (r:Nat) (H:¬r<65536) (I:r<=1114111):(Utf8.encode (r:Int)).data.toList=[UInt8.ofNat (240+r / 262144),UInt8.ofNat (128+r / 4096%64),UInt8.ofNat (128+r / 64%64),UInt8.ofNat (128+r%64)]:=by
 have v:Utf8.valid (r:Int)=true:=by simp [Utf8.valid];omega
 have h:¬r<128:=by omega
 have o:¬r<2048:=by omega
 simp [Utf8.encode,v,h,o,H]
theorem apn {n o H I J:Nat} (h:o<128):Lib.decodeN n o H I J=(o,1):=by unfold Lib.decodeN;rw [if_pos h]
theorem ark (n o H I J:Nat) (h:128<=o):128<=(Lib.decodeN n o H I J).1:=by
 unfold Lib.decodeN;rw [if_neg (by omega)];repeat' split
 all_goals (simp only;omega)
theorem au1 (n h o H I:Nat) (J:1<=n):acp n h o H I=0\/(acp n h o H I=1/\h<128)\/
 (acp n h o H I=2/\194<=h/\h<=223/\1<n/\128<=o/\o<=191)\/
 (acp n h o H I=3/\224<=h/\h<=239/\(h=224->160<=o)/\(h=237->o<=159)/\2<n/\128<=o/\o<=191/\128<=H/\H<=191)\/
 (acp n h o H I=4/\240<=h/\h<=244/\(h=240->144<=o)/\(h=244->o<=143)/\3<n/\128<=o/\o<=191/\128<=H/\H<=191/\128<=I/\I<=191):=by
 unfold acp
 repeat' split
 all_goals omega
theorem att {n o H I J:Nat} (h:194<=o/\o<=223/\1<n/\128<=H/\H<=191):Lib.decodeN n o H I J=(o%32*64+H%64,2):=by unfold Lib.decodeN;rw [if_neg (by omega),if_pos (by omega),if_pos (by omega)]
theorem apo {n o H I J:Nat} (h:224<=o/\o<=239/\(o=224->160<=H)/\(o=237->H<=159)/\2<n/\128<=H/\H<=191/\128<=I/\I<=191):Lib.decodeN n o H I J=(o%16*4096+H%64*64+I%64,3):=by unfold Lib.decodeN;rw [if_neg (by omega),if_neg (by omega),if_pos (by omega),if_pos (by omega)]
theorem arj {n o H I J:Nat} (h:240<=o/\o<=244/\(o=240->144<=H)/\(o=244->H<=143)/\3<n/\128<=H/\H<=191/\128<=I/\I<=191/\128<=J/\J<=191):Lib.decodeN n o H I J=(o%8*262144+H%64*4096+I%64*64+J%64,4):=by unfold Lib.decodeN;rw [if_neg (by omega),if_neg (by omega),if_neg (by omega),if_pos (by omega),if_pos (by omega)]
theorem ats (n o H I J:Nat) (h:(Lib.decodeN n o H I J).1=65533) (M:¬(2<n/\o=239/\H=191/\I=189)) (O:H<256) (Z:I<256) (q3:J<256) (q0:o<256):(Lib.decodeN n o H I J).2=1:=by
 revert h;unfold Lib.decodeN;repeat' split
 all_goals (intro h;first | rfl | (exfalso;simp only at h;omega))
theorem acl (s:Bt) (i:Nat) {k:Nat} (h:k=byteAt s i):UInt8.ofNat k=s.getD i 0:=by subst h;simp [byteAt]
def adb (s:Bt) (i:Nat):Nat:=if sizeAt s i=0 then 1 else sizeAt s i
theorem agk (s:Bt) (i:Nat):1<=adb s i:=by unfold adb;split<;>omega
theorem anq (s:Bt) (i:Nat) (h:i<s.length):sizeAt s i<=s.length-i/\sizeAt s i<=4:=aqq _ _ _ _ _ (by omega)
theorem aky (s:Bt) (i:Nat) (h:i<s.length):adb s i<=s.length-i/\adb s i<=4:=by have:=anq s i h;unfold adb;split<;>omega
theorem a6l (s:Bt) (i:Nat) (o:i<s.length):(aap s i).2=adb s i:=by
 unfold adb;rw [agj s i o];by_cases h:(aap s i).1=65533/\¬(2<s.length-i/\byteAt s i=239/\byteAt s (i+1)=191/\byteAt s (i+2)=189)
 ·rw [if_pos h,if_pos rfl];exact ats _ _ _ _ _ h.1 h.2 (ab5 _ _) (ab5 _ _) (ab5 _ _) (ab5 _ _)
 ·rw [if_neg h];have:=(amh (s.length-i) (byteAt s i) (byteAt s (i+1)) (byteAt s (i+2)) (byteAt s (i+3))).1;rw [if_neg (by unfold aap;omega)]
theorem ae1 (s:Bt) (i:Nat) (h:byteAt s i<128):aap s i=(byteAt s i,1):=apn h
theorem ami (s:Bt) (i:Nat) (h:128<=byteAt s i):128<=(aap s i).1:=ark _ _ _ _ _ h
theorem akw (s:Bt) (i:Nat) (h:byteAt s i<128):sizeAt s i=1:=by unfold sizeAt acp;rw [if_pos h]
theorem ajd (s:Bt) (i:Nat) (o:i<s.length) (H:sizeAt s i≠0):(Utf8.encode ((aap s i).1:Int)).data.toList=(s.drop i).take (sizeAt s i):=by
 have I:=ab5 s (i+1);have J:=ab5 s (i+2);have M:=ab5 s (i+3);have O:byteAt s (i+1+1)=byteAt s (i+2):=rfl;have Z:byteAt s (i+1+1+1)=byteAt s (i+3):=rfl;rcases au1 (s.length-i) (byteAt s i) (byteAt s (i+1)) (byteAt s (i+2)) (byteAt s (i+3)) (by omega) with h | ⟨h,c⟩ | ⟨h,c⟩ | ⟨h,c⟩ | ⟨h,c⟩
 ·exact absurd h H
 ·rw [show sizeAt s i=1 from h,ae1 s i c,enc1 _ c,aa8 o 0];simp only [List.take_succ_cons,List.take_zero];rw [acl s i rfl]
 ·rw [show sizeAt s i=2 from h,show aap s i=_ from att c,enc2 _ (by simp only;omega) (by simp only;omega),aa8 o 0,aa8 (i:=i+1) (by omega) 0];simp only [List.take_succ_cons,List.take_zero];rw [acl s i (by omega),acl s (i+1) (by omega)]
 ·rw [show sizeAt s i=3 from h,show aap s i=_ from apo c,enc3 _ (by simp only;omega) (by simp only;omega) (by simp only;omega),aa8 o 0,aa8 (i:=i+1) (by omega) 0,aa8 (i:=i+1+1) (by omega) 0];simp only [List.take_succ_cons,List.take_zero];rw [acl s i (by omega),acl s (i+1) (by omega),acl s (i+1+1) (by omega)]
 ·rw [show sizeAt s i=4 from h,show aap s i=_ from arj c,enc4 _ (by simp only;omega) (by simp only;omega),aa8 o 0,aa8 (i:=i+1) (by omega) 0,aa8 (i:=i+1+1) (by omega) 0,aa8 (i:=i+1+1+1) (by omega) 0];simp only [List.take_succ_cons,List.take_zero];rw [acl s i (by omega),acl s (i+1) (by omega),acl s (i+1+1) (by omega),acl s (i+1+1+1) (by omega)]
def hexd (n:Nat):UInt8:=([48,49,50,51,52,53,54,55,56,57,97,98,99,100,101,102]:Bt).getD n 0
def hex2 (b:Nat):Bt:=[hexd (b / 16),hexd (b%16)]
def ain (s:Bt) (i:Nat):Bt:=
 if byteAt s i=34 then [92,34] else if byteAt s i=92 then [92,92] else if byteAt s i=10 then [92,110] else if byteAt s i=9 then [92,116] else if byteAt s i=13 then [92,114]
 else if byteAt s i<32\/byteAt s i=127\/sizeAt s i=0 then 92::120::hex2 (byteAt s i) else (s.drop i).take (sizeAt s i)
theorem ana (s:Bt) (i:Nat) (h:i<s.length):(ain s i).length<=4:=by
 have:=anq s i h;unfold ain;repeat' split
 all_goals simp [hex2]
 omega
def abz (s:Bt) (i:Nat):Bt:=if i<s.length then ain s i++abz s (i+adb s i) else []
termination_by s.length-i
decreasing_by
 have:=agk s i
 omega
theorem agh (s:Bt):∀ (m i:Nat),s.length-i<=m->(abz s i).length<=4*(s.length-i):=by
 intro m;induction m with
 | zero=>intro i o;rw [abz,if_neg (by omega)];simp
 | succ m H=>
  intro i o;rw [abz];by_cases h:i<s.length
  ·have I:=ana s i h;have J:=agk s i;have M:=aky s i h;have:=H (i+adb s i) (by omega);rw [if_pos h,Ak];omega
  ·rw [if_neg h];simp
def aku (s:Bt):Bt:=34::(abz s 0++[34])
end Go.Ab
namespace Go.Ab
open Go
def hexN:Nat->Nat->Bt
 | 0,_=>[]
 | n+1,u=>hexN n (u / 16)++[hexd (u%16)]
def hexF:Nat->Nat->Bt
 | 0,_=>[]
 | f+1,u=>if u<16 then [hexd u] else hexF f (u / 16)++[hexd (u%16)]
theorem apy:∀ n u,(hexN n u).length=n:=by
 intro n;induction n with
 | zero=>intro u;rfl
 | succ n h=>intro u;simp [hexN,h]
theorem a0b:∀ n,hexN n 0=List.replicate n 48:=by
 intro n;induction n with
 | zero=>rfl
 | succ n h=>rw [hexN,Nat.zero_div,h,List.replicate_succ'];rfl
theorem a4k:∀ (n:Nat) (u:Nat),u<16^(n+1)->(hexF (n+1) u).length<=n+1/\List.replicate (n+1-(hexF (n+1) u).length) 48++hexF (n+1) u=hexN (n+1) u:=by
 intro n;induction n with
 | zero=>
  intro u o;have h:u<16:=by simpa using o
  simp only [hexF,if_pos h,hexN,List.length_singleton,Ba,Nat.mod_eq_of_lt h];exact ⟨Nat.le_refl _,rfl⟩
 | succ n I=>
  intro u o;by_cases h:u<16
  ·rw [hexF,if_pos h,hexN,Nat.div_eq_of_lt h,Nat.mod_eq_of_lt h,a0b];exact ⟨by simp,by simp⟩
  ·rw [hexF,if_neg h,hexN];obtain ⟨J,H⟩:=I (u / 16) (by rw [Nat.pow_succ] at o;omega);rw [<-H];refine ⟨by simp;omega,?_⟩;rw [<-Ar];congr 3;simp
theorem a4l (n u:Nat):hexN (n+2) u=hexN n (u / 256)++hexN 2 (u%256):=by simp only [hexN,Ba];rw [show u / 16 / 16=u / 256 by omega,show u%256 / 16%16=u / 16%16 by omega,show u%256%16=u%16 by omega];simp
theorem aja (a b:Nat) (H:a<18446744073709551616) (I:b<18446744073709551616):agw .and .u64 (a:Int) (b:Int)=((a &&& b:Nat):Int):=by
 have J:a &&& b<2^64:=Nat.and_lt_two_pow _ (by omega);have h:(BitVec.ofInt 64 (a:Int)).toNat=a:=by rw [BitVec.ofInt_natCast,BitVec.toNat_ofNat];exact Nat.mod_eq_of_lt (by omega)
 have o:(BitVec.ofInt 64 (b:Int)).toNat=b:=by rw [BitVec.ofInt_natCast,BitVec.toNat_ofNat];exact Nat.mod_eq_of_lt (by omega)
 show IntKind.u64.wrap ((BitVec.ofInt 64 (a:Int) &&& BitVec.ofInt 64 (b:Int)).toNat:Int)=_;rw [BitVec.toNat_and,h,o,IntKind.wrap_u64];omega
theorem a3f (u:Nat):u &&& 4503599627370495=u%4503599627370496:=Nat.and_two_pow_sub_one_eq_mod u 52
theorem azc (u m k:Nat):u &&& (m*2^k)=((u / 2^k) &&& m)*2^k:=by
 rw [<-Nat.shiftLeft_eq,<-Nat.shiftLeft_eq,<-Nat.shiftRight_eq_div_pow];apply Nat.eq_of_testBit_eq;intro i;simp only [Nat.testBit_and,Nat.testBit_shiftLeft,Nat.testBit_shiftRight];by_cases h:k<=i
 ·simp [h]
 ·simp [h]
theorem a3e (u:Nat):u &&& 9218868437227405312=(u / 4503599627370496%2048)*4503599627370496:=by have:=azc u 2047 52;rw [show (2047*2^52:Nat)=9218868437227405312 from rfl,show (2^52:Nat)=4503599627370496 from rfl] at this;rw [this,Nat.and_two_pow_sub_one_eq_mod _ 11]
theorem a3g (u:Nat) (h:u<18446744073709551616):u &&& 9223372036854775808=(u / 9223372036854775808)*9223372036854775808:=by
 have:=azc u 1 63;rw [show (1*2^63:Nat)=9223372036854775808 from rfl,show (2^63:Nat)=9223372036854775808 from rfl] at this;rw [this,Nat.and_two_pow_sub_one_eq_mod _ 1];have:u / 9223372036854775808%2^1=u / 9223372036854775808:=by omega
 rw [this]
def aez (u:Nat):Int:=
 if 9218868437227405312<u%9223372036854775808 then 0 else if u%9223372036854775808=9218868437227405312 then 1 else if u%9223372036854775808=0 then 2 else if u%9223372036854775808<4503599627370496 then 3 else 4
end Go.Ab
