/- UTF-8: a sequence's size, by its bytes and by the model's decoding. -/
import Derived.Test.YtodichgnoiaanaaGreatAbPlain
import Derived.Lib.DecodeN
import Derived.Lib.DecodeNEq
set_option linter.unusedVariables false
set_option linter.unusedSimpArgs false
set_option linter.unnecessarySimpa false
namespace Go.Ab
open Go
def a1b (n b0 b1 b2 b3:Nat):Nat:=
 if b0<128 then 1
 else if 194<=b0/\b0<=223/\(1<n/\128<=b1/\b1<=191) then 2
 else if b0=224/\(1<n/\160<=b1/\b1<=191)/\(2<n/\128<=b2/\b2<=191) then 3
 else if b0=237/\(1<n/\128<=b1/\b1<=159)/\(2<n/\128<=b2/\b2<=191) then 3
 else if 225<=b0/\b0<=239/\b0≠237/\(1<n/\128<=b1/\b1<=191)/\(2<n/\128<=b2/\b2<=191) then 3
 else if b0=240/\(1<n/\144<=b1/\b1<=191)/\(2<n/\128<=b2/\b2<=191)/\(3<n/\128<=b3/\b3<=191) then 4
 else if 241<=b0/\b0<=243/\(1<n/\128<=b1/\b1<=191)/\(2<n/\128<=b2/\b2<=191)/\(3<n/\128<=b3/\b3<=191) then 4
 else if b0=244/\(1<n/\128<=b1/\b1<=143)/\(2<n/\128<=b2/\b2<=191)/\(3<n/\128<=b3/\b3<=191) then 4
 else 0
def byteAt (s:List UInt8) (i:Nat):Nat:=(s.getD i 0).toNat
theorem ayr (s:List UInt8) (i:Nat):byteAt s i<256:=(s.getD i 0).toNat_lt
def sizeAt (s:List UInt8) (i:Nat):Nat:=a1b (s.length-i) (byteAt s i) (byteAt s (i+1)) (byteAt s (i+2)) (byteAt s (i+3))
theorem awa (n b0 b1 b2 b3:Nat) (hn:0<n):a1b n b0 b1 b2 b3<=n/\a1b n b0 b1 b2 b3<=4:=by
 unfold a1b
 repeat' split
 all_goals omega
def badF:Nat->List UInt8->Nat->Int
 | 0,_,_=>-1
 | n+1,s,i=>if i<s.length then (if sizeAt s i=0 then (i:Int) else badF n s (i+sizeAt s i)) else -1
theorem as0:∀ (n m:Nat) (s:List UInt8) (i:Nat),s.length-i<n->s.length-i<m->badF n s i=badF m s i:=by
 intro n
 induction n with
 | zero=>intro m s i h;omega
 | succ n ih=>
  intro m s i h h2
  obtain ⟨k,rfl⟩:∃ k,m=k+1:=⟨m-1,by omega⟩
  unfold badF
  by_cases hi:i<s.length
  ·simp only [hi,if_true]
   by_cases hz:sizeAt s i=0
   ·simp only [hz,if_true]
   ·simp only [hz,if_false]
    exact ih k s _ (by omega) (by omega)
  ·simp only [hi,if_false]
def ah1 (s:List UInt8) (i:Nat):Int:=badF (s.length-i+1) s i
theorem ajy (s:List UInt8) (i:Nat):ah1 s i=if i<s.length then (if sizeAt s i=0 then (i:Int) else ah1 s (i+sizeAt s i)) else -1:=by
 unfold ah1
 rw [badF]
 by_cases hi:i<s.length
 ·simp only [hi,if_true]
  by_cases hz:sizeAt s i=0
  ·simp only [hz,if_true]
  ·simp only [hz,if_false]
   exact as0 _ _ s _ (by omega) (by omega)
 ·simp only [hi,if_false]
def bad (s:List UInt8):Int:=ah1 s 0
def aqh (s:List UInt8):Bool:=decide (bad s<0)
end Go.Ab
namespace Go.Ab
open Go
def adr (s:List UInt8) (i:Nat):Nat:=if sizeAt s i=0 then 1 else sizeAt s i
theorem aik (s:List UInt8) (i:Nat):1<=adr s i:=by unfold adr;split<;>omega
theorem am0 (s:List UInt8) (i:Nat) (hi:i<s.length):sizeAt s i<=s.length-i/\sizeAt s i<=4:=awa _ _ _ _ _ (by omega)
theorem aoq (s:List UInt8) (i:Nat) (hi:i<s.length):adr s i<=s.length-i/\adr s i<=4:=by
 have:=am0 s i hi
 unfold adr;split<;>omega
def hexd (n:Nat):UInt8:=([48,49,50,51,52,53,54,55,56,57,97,98,99,100,101,102]:List UInt8).getD n 0
def hex2 (b:Nat):List UInt8:=[hexd (b / 16),hexd (b%16)]
def aoj (s:List UInt8) (i:Nat):List UInt8:=
 if byteAt s i=34 then [92,34] else if byteAt s i=92 then [92,92] else if byteAt s i=10 then [92,110] else if byteAt s i=9 then [92,116] else if byteAt s i=13 then [92,114]
 else if byteAt s i<32∨byteAt s i=127∨sizeAt s i=0 then 92::120::hex2 (byteAt s i) else (s.drop i).take (sizeAt s i)
theorem aru (s:List UInt8) (i:Nat) (hi:i<s.length):(aoj s i).length<=4:=by
 have:=am0 s i hi
 unfold aoj
 repeat' split
 all_goals simp [hex2]
 omega
def ac9 (s:List UInt8) (i:Nat):List UInt8:=if i<s.length then aoj s i++ac9 s (i+adr s i) else []
termination_by s.length-i
decreasing_by
 have:=aik s i
 omega
theorem ajd (s:List UInt8):∀ (m i:Nat),s.length-i<=m->(ac9 s i).length<=4*(s.length-i):=by
 intro m
 induction m with
 | zero=>
  intro i hm
  rw [ac9,if_neg (by omega)];simp
 | succ m ih=>
  intro i hm
  rw [ac9]
  by_cases hi:i<s.length
  ·have h1:=aru s i hi
   have h2:=aik s i
   have h3:=aoq s i hi
   have:=ih (i+adr s i) (by omega)
   rw [if_pos hi,List.length_append]
   omega
  ·rw [if_neg hi];simp
def ak1 (s:List UInt8):List UInt8:=34::(ac9 s 0++[34])
end Go.Ab
namespace Go.Ab
open Go
def hexN:Nat->Nat->List UInt8
 | 0,_=>[]
 | n+1,u=>hexN n (u / 16)++[hexd (u%16)]
theorem apf:∀ n u,(hexN n u).length=n:=by
 intro n
 induction n with
 | zero=>intro u;rfl
 | succ n ih=>intro u;simp [hexN,ih]
theorem a2t (n u:Nat):hexN (n+2) u=hexN n (u / 256)++hexN 2 (u%256):=by
 simp only [hexN,List.nil_append]
 rw [show u / 16 / 16=u / 256 by omega,show u%256 / 16%16=u / 16%16 by omega,show u%256%16=u%16 by omega]
 simp
def af2 (u:Nat):Int:=
 if 9218868437227405312<u%9223372036854775808 then 0 else if u%9223372036854775808=9218868437227405312 then 1 else if u%9223372036854775808=0 then 2 else if u%9223372036854775808<4503599627370496 then 3 else 4
end Go.Ab
