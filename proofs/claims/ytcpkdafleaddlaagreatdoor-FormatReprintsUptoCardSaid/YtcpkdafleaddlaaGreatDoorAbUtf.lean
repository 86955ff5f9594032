/- UTF-8: a sequence's size, by its bytes and by the model's decoding. -/
import Derived.Test.YtcpkdafleaddlaaGreatDoorAbPlain
import Derived.Lib.DecodeN
import Derived.Lib.DecodeNEq
set_option linter.unusedVariables false
set_option linter.unusedSimpArgs false
set_option linter.unnecessarySimpa false
namespace Go.Ab
open Go
def adj (n m d o z:Nat):Nat:=
 if m<128 then 1
 else if 194<=m/\m<=223/\(1<n/\128<=d/\d<=191) then 2
 else if m=224/\(1<n/\160<=d/\d<=191)/\(2<n/\128<=o/\o<=191) then 3
 else if m=237/\(1<n/\128<=d/\d<=159)/\(2<n/\128<=o/\o<=191) then 3
 else if 225<=m/\m<=239/\m≠237/\(1<n/\128<=d/\d<=191)/\(2<n/\128<=o/\o<=191) then 3
 else if m=240/\(1<n/\144<=d/\d<=191)/\(2<n/\128<=o/\o<=191)/\(3<n/\128<=z/\z<=191) then 4
 else if 241<=m/\m<=243/\(1<n/\128<=d/\d<=191)/\(2<n/\128<=o/\o<=191)/\(3<n/\128<=z/\z<=191) then 4
 else if m=244/\(1<n/\128<=d/\d<=143)/\(2<n/\128<=o/\o<=191)/\(3<n/\128<=z/\z<=191) then 4
 else 0
theorem bib (n d m o z:Nat) (h:194<=d/\d<224):adj n d m o z=if (1<n/\128<=m/\m<=191) then 2 else 0:=by unfold adj;grind
theorem bh4 (n m d o z:Nat) (U:1<=n) (H:d<256) (M:o<256) (O:z<256) (h:194<=m/\m<224):
 adj n m d o z=if (Lib.decodeN n m d o z).1=65533/\¬(2<n/\m=239/\d=191/\o=189) then 0 else (Lib.decodeN n m d o z).2:=by
 rw [bib n m d o z h,<-Lib.slow_C2 n m d o z U H M O h]
 by_cases c:(1<n/\128<=d/\d<=191)
 ·rw [if_pos c];have e:Lib.slowN n m d o z 2 128 191=(m%32*64+d%64,2):=by
   unfold Lib.slowN;grind
  grind
 ·rw [if_neg c];have e:Lib.slowN n m d o z 2 128 191=(65533,1):=by
   unfold Lib.slowN;grind
  grind
theorem bic (n o d m z:Nat) (h:o=224):adj n o d m z=if (1<n/\160<=d/\d<=191)/\(2<n/\128<=m/\m<=191) then 3 else 0:=by unfold adj;grind
theorem bh5 (n o d m z:Nat) (U:1<=n) (H:d<256) (M:m<256) (O:z<256) (h:o=224):
 adj n o d m z=if (Lib.decodeN n o d m z).1=65533/\¬(2<n/\o=239/\d=191/\m=189) then 0 else (Lib.decodeN n o d m z).2:=by
 rw [bic n o d m z h,<-Lib.slow_E0 n o d m z U H M O h]
 by_cases c:(1<n/\160<=d/\d<=191)/\(2<n/\128<=m/\m<=191)
 ·rw [if_pos c];have e:Lib.slowN n o d m z 3 160 191=(o%16*4096+d%64*64+m%64,3):=by
   unfold Lib.slowN;grind
  grind
 ·rw [if_neg c];have e:Lib.slowN n o d m z 3 160 191=(65533,1):=by
   unfold Lib.slowN;grind
  grind
theorem bid (n d m o z:Nat) (h:(225<=d/\d<237)\/(238<=d/\d<240)):adj n d m o z=if (1<n/\128<=m/\m<=191)/\(2<n/\128<=o/\o<=191) then 3 else 0:=by
 unfold adj;by_cases c:(1<n/\128<=m/\m<=191)/\(2<n/\128<=o/\o<=191)
 ·rw [if_neg (by omega),if_neg (by omega),if_neg (by omega),if_neg (by omega),if_pos (by omega),if_pos c]
 grind
theorem bh6 (n d m o z:Nat) (U:1<=n) (H:m<256) (M:o<256) (O:z<256) (h:(225<=d/\d<237)\/(238<=d/\d<240)):
 adj n d m o z=if (Lib.decodeN n d m o z).1=65533/\¬(2<n/\d=239/\m=191/\o=189) then 0 else (Lib.decodeN n d m o z).2:=by
 rw [bid n d m o z h,<-Lib.slow_E1 n d m o z U H M O h]
 by_cases c:(1<n/\128<=m/\m<=191)/\(2<n/\128<=o/\o<=191)
 ·rw [if_pos c];have e:Lib.slowN n d m o z 3 128 191=(d%16*4096+m%64*64+o%64,3):=by
   unfold Lib.slowN;grind
  grind
 ·rw [if_neg c];have e:Lib.slowN n d m o z 3 128 191=(65533,1):=by
   unfold Lib.slowN;grind
  grind
theorem bie (n o d m z:Nat) (h:o=237):adj n o d m z=if (1<n/\128<=d/\d<=159)/\(2<n/\128<=m/\m<=191) then 3 else 0:=by unfold adj;grind
theorem bh7 (n o d m z:Nat) (U:1<=n) (H:d<256) (M:m<256) (O:z<256) (h:o=237):
 adj n o d m z=if (Lib.decodeN n o d m z).1=65533/\¬(2<n/\o=239/\d=191/\m=189) then 0 else (Lib.decodeN n o d m z).2:=by
 rw [bie n o d m z h,<-Lib.slow_ED n o d m z U H M O h]
 by_cases c:(1<n/\128<=d/\d<=159)/\(2<n/\128<=m/\m<=191)
 ·rw [if_pos c];have e:Lib.slowN n o d m z 3 128 159=(o%16*4096+d%64*64+m%64,3):=by
   unfold Lib.slowN;grind
  grind
 ·rw [if_neg c];have e:Lib.slowN n o d m z 3 128 159=(65533,1):=by
   unfold Lib.slowN;grind
  grind
theorem bih (n z d m o:Nat) (h:z=240):adj n z d m o=if (1<n/\144<=d/\d<=191)/\(2<n/\128<=m/\m<=191)/\(3<n/\128<=o/\o<=191) then 4 else 0:=by unfold adj;grind
theorem bh8 (n z d m o:Nat) (U:1<=n) (H:d<256) (M:m<256) (O:o<256) (h:z=240):
 adj n z d m o=if (Lib.decodeN n z d m o).1=65533/\¬(2<n/\z=239/\d=191/\m=189) then 0 else (Lib.decodeN n z d m o).2:=by
 rw [bih n z d m o h,<-Lib.slow_F0 n z d m o U H M O h]
 by_cases c:(1<n/\144<=d/\d<=191)/\(2<n/\128<=m/\m<=191)/\(3<n/\128<=o/\o<=191)
 ·rw [if_pos c];have e:Lib.slowN n z d m o 4 144 191=(z%8*262144+d%64*4096+m%64*64+o%64,4):=by
   unfold Lib.slowN;grind
  grind
 ·rw [if_neg c];have e:Lib.slowN n z d m o 4 144 191=(65533,1):=by
   unfold Lib.slowN;grind
  grind
theorem bii (n d m o z:Nat) (h:241<=d/\d<244):adj n d m o z=if (1<n/\128<=m/\m<=191)/\(2<n/\128<=o/\o<=191)/\(3<n/\128<=z/\z<=191) then 4 else 0:=by unfold adj;grind
theorem bh9 (n o d m z:Nat) (U:1<=n) (H:d<256) (M:m<256) (O:z<256) (h:241<=o/\o<244):
 adj n o d m z=if (Lib.decodeN n o d m z).1=65533/\¬(2<n/\o=239/\d=191/\m=189) then 0 else (Lib.decodeN n o d m z).2:=by
 rw [bii n o d m z h,<-Lib.slow_F1 n o d m z U H M O h]
 by_cases c:(1<n/\128<=d/\d<=191)/\(2<n/\128<=m/\m<=191)/\(3<n/\128<=z/\z<=191)
 ·rw [if_pos c];have e:Lib.slowN n o d m z 4 128 191=(o%8*262144+d%64*4096+m%64*64+z%64,4):=by
   unfold Lib.slowN;grind
  grind
 ·rw [if_neg c];have e:Lib.slowN n o d m z 4 128 191=(65533,1):=by
   unfold Lib.slowN;grind
  grind
theorem bij (n z d m o:Nat) (h:z=244):adj n z d m o=if (1<n/\128<=d/\d<=143)/\(2<n/\128<=m/\m<=191)/\(3<n/\128<=o/\o<=191) then 4 else 0:=by unfold adj;grind
theorem bia (n z d m o:Nat) (U:1<=n) (H:d<256) (M:m<256) (O:o<256) (h:z=244):
 adj n z d m o=if (Lib.decodeN n z d m o).1=65533/\¬(2<n/\z=239/\d=191/\m=189) then 0 else (Lib.decodeN n z d m o).2:=by
 rw [bij n z d m o h,<-Lib.slow_F4 n z d m o U H M O h]
 by_cases c:(1<n/\128<=d/\d<=143)/\(2<n/\128<=m/\m<=191)/\(3<n/\128<=o/\o<=191)
 ·rw [if_pos c];have e:Lib.slowN n z d m o 4 128 143=(z%8*262144+d%64*4096+m%64*64+o%64,4):=by
   unfold Lib.slowN;grind
  grind
 ·rw [if_neg c];have e:Lib.slowN n z d m o 4 128 143=(65533,1):=by
   unfold Lib.slowN;grind
  grind
theorem azd (n d m o z:Nat) (V:1<=n) (H:d<256) (M:m<256) (O:o<256) (U:z<256):
 adj n d m o z=if (Lib.decodeN n d m o z).1=65533/\¬(2<n/\d=239/\m=191/\o=189) then 0 else (Lib.decodeN n d m o z).2:=by
 by_cases g:194<=d/\d<=244
 ·grind [bh4,bh5,bh7,bh6,bh8,bia,bh9]
 ·by_cases a:d<128
  ·have e:Lib.firstT d=240:=by unfold Lib.firstT;rw [if_pos a]
   rw [Lib.ascii_eq n d m o z e];unfold adj;grind
  ·have e:Lib.firstT d=241:=by
    unfold Lib.firstT;grind
   rw [Lib.bad_eq n d m o z H e,if_pos ⟨rfl,by omega⟩];unfold adj;grind
def byteAt (s:Bo) (i:Nat):Nat:=(s.getD i 0).toNat
theorem acw (s:Bo) (i:Nat):byteAt s i<256:=(s.getD i 0).toNat_lt
def abj (s:Bo) (i:Nat):Nat:=adj (s.length-i) (byteAt s i) (byteAt s (i+1)) (byteAt s (i+2)) (byteAt s (i+3))
def aas (s:Bo) (i:Nat):Nat×Nat:=Lib.decodeN (s.length-i) (byteAt s i) (byteAt s (i+1)) (byteAt s (i+2)) (byteAt s (i+3))
theorem aix (s:Bo) (i:Nat):Utf8.decode ⟨s.toArray⟩ i=aas s i:=by
 rw [Lib.decode_at];have d:∀ j,((⟨s.toArray⟩:ByteArray).get! j).toNat=byteAt s j:=by intro j;show ((s.toArray)[j]!).toNat=_;simp [byteAt,List.getD];rfl
 rw [d,d,d,d];rfl
theorem aib (s:Bo) (i:Nat) (d:i<s.length):abj s i=if (aas s i).1=65533/\¬(2<s.length-i/\byteAt s i=239/\byteAt s (i+1)=191/\byteAt s (i+2)=189) then 0 else (aas s i).2:=
 azd _ _ _ _ _ (by omega) (acw _ _) (acw _ _) (acw _ _) (acw _ _)
theorem a5c (n d m o z:Nat) (H:0<n):adj n d m o z<=n/\adj n d m o z<=4:=by grind [adj]
theorem aqw (n d m o z:Nat):1<=(Lib.decodeN n d m o z).2/\(Lib.decodeN n d m o z).2<=4:=by grind [Lib.decodeN]
theorem bk6 (s:Bo) (i:Nat) (m:i<=s.length):(decide ((((s.take s.length).drop i).length:Int)>=3)&&((((s.take s.length).drop i).take 3)==([239,191,189]:Bo)))=decide (2<s.length-i/\byteAt s i=239/\byteAt s (i+1)=191/\byteAt s (i+2)=189):=by
 rw [List.take_length];rw [Bool.eq_iff_iff];simp only [Ag,Aw,Bh,A4,ge_iff_le];have d:∀ (x:UInt8) (k:Nat),k<256->(x.toNat=k ↔ x=UInt8.ofNat k):=by
  intro x k o;constructor
  ·intro h;rw [<-h];exact UInt8.ofNat_toNat.symm
  grind [UInt8.toNat_ofNat']
 unfold byteAt;rw [d _ 239 (by omega),d _ 191 (by omega),d _ 189 (by omega)];grind [List.getD,List.getElem?_take_of_lt,aa1]
def badF:Nat->Bo->Nat->Int
 | 0,_,_=>-1
 | n+1,s,i=>if i<s.length then (if abj s i=0 then (i:Int) else badF n s (i+abj s i)) else -1
theorem az8:∀ (n m:Nat) (s:Bo) (i:Nat),s.length-i<n->s.length-i<m->badF n s i=badF m s i:=by
 intro n;induction n with
 | zero=>grind
 | succ n o=>intro m s i h d;obtain ⟨k,rfl⟩:∃ k,m=k+1:=⟨m-1,by omega⟩;unfold badF;grind
def ais (s:Bo) (i:Nat):Int:=badF (s.length-i+1) s i
theorem atb (s:Bo) (i:Nat):ais s i=if i<s.length then (if abj s i=0 then (i:Int) else ais s (i+abj s i)) else -1:=by
 unfold ais;rw [badF];by_cases d:i<s.length
 ·simp only [d,Ba];by_cases m:abj s i=0
  ·grind
  ·simp only [m,Bb];grind [az8]
 grind
def bad (s:Bo):Int:=ais s 0
def valid (s:Bo):Bool:=decide (bad s<0)
end Go.Ab
namespace Go.Ab
open Go
theorem enc1 (r:Nat) (d:r<128):(Utf8.encode (r:Int)).data.toList=[UInt8.ofNat r]:=by
 have v:Utf8.valid (r:Int)=true:=by grind [Utf8.valid]
 simp [Utf8.encode,v,d]
theorem enc2 (r:Nat) (d:¬r<128) (m:r<2048):(Utf8.encode (r:Int)).data.toList=[UInt8.ofNat (192+r / 64),UInt8.ofNat (128+r%64)]:=by
 have v:Utf8.valid (r:Int)=true:=by grind [Utf8.valid]
 simp [Utf8.encode,v,d,m]
theorem enc3 (r:Nat) (m:¬r<2048) (o:r<65536) (z:r<55296\/57344<=r):(Utf8.encode (r:Int)).data.toList=[UInt8.ofNat (224+r / 4096),UInt8.ofNat (128+r / 64%64),UInt8.ofNat (128+r%64)]:=by
 have v:Utf8.valid (r:Int)=true:=by grind [Utf8.valid]
 have d:¬r<128:=by omega
 simp [Utf8.encode,v,d,m,o]
theorem enc4 (r:Nat) (o:¬r<65536) (z:r<=1114111):(Utf8.encode (r:Int)).data.toList=[UInt8.ofNat (240+r / 262144),UInt8.ofNat (128+r / 4096%64),UInt8.ofNat (128+r / 64%64),UInt8.ofNat (128+r%64)]:=by
 have v:Utf8.valid (r:Int)=true:=by grind [Utf8.valid]
 have d:¬r<128:=by omega
 have m:¬r<2048:=by omega
 simp [Utf8.encode,v,d,m,o]
theorem au2 {n d m o z:Nat} (h:d<128):Lib.decodeN n d m o z=(d,1):=by unfold Lib.decodeN;rw [if_pos h]
theorem axq (n d m o z:Nat) (h:128<=d):128<=(Lib.decodeN n d m o z).1:=by unfold Lib.decodeN;grind
theorem ar7 (n d m o z:Nat) (H:1<=n):adj n d m o z=0\/(adj n d m o z=1/\d<128)\/
 (adj n d m o z=2/\194<=d/\d<=223/\1<n/\128<=m/\m<=191)\/
 (adj n d m o z=3/\224<=d/\d<=239/\(d=224->160<=m)/\(d=237->m<=159)/\2<n/\128<=m/\m<=191/\128<=o/\o<=191)\/
 (adj n d m o z=4/\240<=d/\d<=244/\(d=240->144<=m)/\(d=244->m<=143)/\3<n/\128<=m/\m<=191/\128<=o/\o<=191/\128<=z/\z<=191):=by
 unfold adj
 repeat' split
 all_goals omega
theorem a0k {n d m o z:Nat} (h:194<=d/\d<=223/\1<n/\128<=m/\m<=191):Lib.decodeN n d m o z=(d%32*64+m%64,2):=by unfold Lib.decodeN;grind
theorem au3 {n d m o z:Nat} (h:224<=d/\d<=239/\(d=224->160<=m)/\(d=237->m<=159)/\2<n/\128<=m/\m<=191/\128<=o/\o<=191):Lib.decodeN n d m o z=(d%16*4096+m%64*64+o%64,3):=by unfold Lib.decodeN;grind
theorem axp {n d m o z:Nat} (h:240<=d/\d<=244/\(d=240->144<=m)/\(d=244->m<=143)/\3<n/\128<=m/\m<=191/\128<=o/\o<=191/\128<=z/\z<=191):Lib.decodeN n d m o z=(d%8*262144+m%64*4096+o%64*64+z%64,4):=by unfold Lib.decodeN;grind
theorem a0j (n d m o z:Nat) (h:(Lib.decodeN n d m o z).1=65533) (H:¬(2<n/\d=239/\m=191/\o=189)) (M:m<256) (O:o<256) (U:z<256) (q0:d<256):(Lib.decodeN n d m o z).2=1:=by grind [Lib.decodeN]
theorem adp (s:Bo) (i:Nat) {k:Nat} (h:k=byteAt s i):UInt8.ofNat k=s.getD i 0:=by subst h;simp [byteAt]
def adw (s:Bo) (i:Nat):Nat:=if abj s i=0 then 1 else abj s i
theorem aic (s:Bo) (i:Nat):1<=adw s i:=by grind [adw]
theorem azc (s:Bo) (i:Nat) (d:i<s.length):abj s i<=s.length-i/\abj s i<=4:=a5c _ _ _ _ _ (by omega)
theorem a9f (s:Bo) (i:Nat) (d:i<s.length):adw s i<=s.length-i/\adw s i<=4:=by grind [azc,adw]
theorem bi9 (s:Bo) (i:Nat) (d:i<s.length):(aas s i).2=adw s i:=by
 unfold adw;rw [aib s i d];by_cases h:(aas s i).1=65533/\¬(2<s.length-i/\byteAt s i=239/\byteAt s (i+1)=191/\byteAt s (i+2)=189)
 ·rw [if_pos h,if_pos rfl];exact a0j _ _ _ _ _ h.1 h.2 (acw _ _) (acw _ _) (acw _ _) (acw _ _)
 ·rw [if_neg h];have:=(aqw (s.length-i) (byteAt s i) (byteAt s (i+1)) (byteAt s (i+2)) (byteAt s (i+3))).1;rw [if_neg (by grind [aas])]
theorem agh (s:Bo) (i:Nat) (h:byteAt s i<128):aas s i=(byteAt s i,1):=au2 h
theorem aqx (s:Bo) (i:Nat) (h:128<=byteAt s i):128<=(aas s i).1:=axq _ _ _ _ _ h
theorem akj (s:Bo) (i:Nat) (h:byteAt s i<128):abj s i=1:=by unfold abj adj;rw [if_pos h]
theorem al1 (s:Bo) (i:Nat) (d:i<s.length) (m:abj s i≠0):(Utf8.encode ((aas s i).1:Int)).data.toList=(s.drop i).take (abj s i):=by
 have o:=acw s (i+1);have z:=acw s (i+2);have H:=acw s (i+3);have M:byteAt s (i+1+1)=byteAt s (i+2):=rfl;have O:byteAt s (i+1+1+1)=byteAt s (i+3):=rfl;rcases ar7 (s.length-i) (byteAt s i) (byteAt s (i+1)) (byteAt s (i+2)) (byteAt s (i+3)) (by omega) with h | ⟨h,c⟩ | ⟨h,c⟩ | ⟨h,c⟩ | ⟨h,c⟩
 ·exact absurd h m
 ·rw [show abj s i=1 from h,agh s i c,enc1 _ c,aa1 d 0];simp only [List.take_succ_cons,List.take_zero];rw [adp s i rfl]
 ·rw [show abj s i=2 from h,show aas s i=_ from a0k c,enc2 _ (by simp only;omega) (by simp only;omega),aa1 d 0,aa1 (i:=i+1) (by omega) 0];grind [adp]
 ·rw [show abj s i=3 from h,show aas s i=_ from au3 c,enc3 _ (by simp only;omega) (by simp only;omega) (by simp only;omega),aa1 d 0,aa1 (i:=i+1) (by omega) 0,aa1 (i:=i+1+1) (by omega) 0];simp only [List.take_succ_cons,List.take_zero];rw [adp s i (by omega),adp s (i+1) (by omega),adp s (i+1+1) (by omega)]
 ·rw [show abj s i=4 from h,show aas s i=_ from axp c,enc4 _ (by simp only;omega) (by simp only;omega),aa1 d 0,aa1 (i:=i+1) (by omega) 0,aa1 (i:=i+1+1) (by omega) 0,aa1 (i:=i+1+1+1) (by omega) 0];simp only [List.take_succ_cons,List.take_zero];rw [adp s i (by omega),adp s (i+1) (by omega),adp s (i+1+1) (by omega),adp s (i+1+1+1) (by omega)]
def hexd (n:Nat):UInt8:=([48,49,50,51,52,53,54,55,56,57,97,98,99,100,101,102]:Bo).getD n 0
def hex2 (b:Nat):Bo:=[hexd (b / 16),hexd (b%16)]
def ao3 (s:Bo) (i:Nat):Bo:=
 if byteAt s i=34 then [92,34] else if byteAt s i=92 then [92,92] else if byteAt s i=10 then [92,110] else if byteAt s i=9 then [92,116] else if byteAt s i=13 then [92,114]
 else if byteAt s i<32\/byteAt s i=127\/abj s i=0 then 92::120::hex2 (byteAt s i) else (s.drop i).take (abj s i)
theorem ayu (s:Bo) (i:Nat) (d:i<s.length):(ao3 s i).length<=4:=by grind [azc,ao3,hex2]
def abe (s:Bo) (i:Nat):Bo:=if i<s.length then ao3 s i++abe s (i+adw s i) else []
termination_by s.length-i
decreasing_by
 grind [aic]
theorem amw (s:Bo):∀ (m i:Nat),s.length-i<=m->(abe s i).length<=4*(s.length-i):=by
 intro m;induction m with
 | zero=>intro i o;rw [abe,if_neg (by omega)];simp
 | succ m M=>
  intro i o;rw [abe];by_cases d:i<s.length
  ·have z:=ayu s i d;have H:=aic s i;grind
  grind
def abd (s:Bo):Bo:=34::(abe s 0++[34])
end Go.Ab
namespace Go.Ab
open Go
def hexN:Nat->Nat->Bo
 | 0,_=>[]
 | n+1,u=>hexN n (u / 16)++[hexd (u%16)]
def hexF:Nat->Nat->Bo
 | 0,_=>[]
 | f+1,u=>if u<16 then [hexd u] else hexF f (u / 16)++[hexd (u%16)]
theorem al6:∀ n u,(hexN n u).length=n:=by
 intro n;induction n with
 | zero=>intro u;rfl
 | succ n d=>grind [hexN]
theorem bbn:∀ n,hexN n 0=List.replicate n 48:=by
 intro n;induction n with
 | zero=>rfl
 | succ n d=>rw [hexN,Nat.zero_div,d,List.replicate_succ'];rfl
theorem bge:∀ (n:Nat) (u:Nat),u<16^(n+1)->(hexF (n+1) u).length<=n+1/\List.replicate (n+1-(hexF (n+1) u).length) 48++hexF (n+1) u=hexN (n+1) u:=by
 intro n;induction n with
 | zero=>
  intro u d;have h:u<16:=by simpa using d
  simp only [hexF,if_pos h,hexN,List.length_singleton,Au,Nat.mod_eq_of_lt h];grind
 | succ n m=>
  intro u d;by_cases h:u<16
  ·rw [hexF,if_pos h,hexN,Nat.div_eq_of_lt h,Nat.mod_eq_of_lt h,bbn];grind
  ·rw [hexF,if_neg h,hexN];grind
theorem bgh (n u:Nat):hexN (n+2) u=hexN n (u / 256)++hexN 2 (u%256):=by grind [hexN]
theorem aly (a b:Nat) (o:a<18446744073709551616) (z:b<18446744073709551616):ae2 .and .u64 (a:Int) (b:Int)=((a &&& b:Nat):Int):=by
 have H:a &&& b<2^64:=Nat.and_lt_two_pow _ (by omega);have d:(BitVec.ofInt 64 (a:Int)).toNat=a:=by grind
 have m:(BitVec.ofInt 64 (b:Int)).toNat=b:=by grind
 show IntKind.u64.wrap ((BitVec.ofInt 64 (a:Int) &&& BitVec.ofInt 64 (b:Int)).toNat:Int)=_;grind [BitVec.toNat_and,IntKind.wrap_u64]
theorem be7 (u:Nat):u &&& 4503599627370495=u%4503599627370496:=Nat.and_two_pow_sub_one_eq_mod u 52
theorem a9y (u m k:Nat):u &&& (m*2^k)=((u / 2^k) &&& m)*2^k:=by rw [<-Nat.shiftLeft_eq,<-Nat.shiftLeft_eq,<-Nat.shiftRight_eq_div_pow];apply Nat.eq_of_testBit_eq;grind
theorem be6 (u:Nat):u &&& 9218868437227405312=(u / 4503599627370496%2048)*4503599627370496:=by have:=a9y u 2047 52;rw [show (2047*2^52:Nat)=9218868437227405312 from rfl,show (2^52:Nat)=4503599627370496 from rfl] at this;rw [this,Nat.and_two_pow_sub_one_eq_mod _ 11]
theorem be8 (u:Nat) (d:u<18446744073709551616):u &&& 9223372036854775808=(u / 9223372036854775808)*9223372036854775808:=by have:=a9y u 1 63;grind
def ab9 (u:Nat):Int:=
 if 9218868437227405312<u%9223372036854775808 then 0 else if u%9223372036854775808=9218868437227405312 then 1 else if u%9223372036854775808=0 then 2 else if u%9223372036854775808<4503599627370496 then 3 else 4
end Go.Ab
