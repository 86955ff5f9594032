/- UTF-8: a sequence's size, by its bytes and by the model's decoding. -/
import Derived.Test.YtjogoleiodbfdaaGreatAbPlain
import Derived.Lib.DecodeN
import Derived.Lib.DecodeNEq
set_option linter.unusedVariables false
set_option linter.unusedSimpArgs false
set_option linter.unnecessarySimpa false
namespace Go.Ab
open Go
def axy (n b0 b1 b2 b3:Nat):Nat:=
 if b0<128 then 1
 else if 194<=b0/\b0<=223/\(1<n/\128<=b1/\b1<=191) then 2
 else if b0=224/\(1<n/\160<=b1/\b1<=191)/\(2<n/\128<=b2/\b2<=191) then 3
 else if b0=237/\(1<n/\128<=b1/\b1<=159)/\(2<n/\128<=b2/\b2<=191) then 3
 else if 225<=b0/\b0<=239/\b0≠237/\(1<n/\128<=b1/\b1<=191)/\(2<n/\128<=b2/\b2<=191) then 3
 else if b0=240/\(1<n/\144<=b1/\b1<=191)/\(2<n/\128<=b2/\b2<=191)/\(3<n/\128<=b3/\b3<=191) then 4
 else if 241<=b0/\b0<=243/\(1<n/\128<=b1/\b1<=191)/\(2<n/\128<=b2/\b2<=191)/\(3<n/\128<=b3/\b3<=191) then 4
 else if b0=244/\(1<n/\128<=b1/\b1<=143)/\(2<n/\128<=b2/\b2<=191)/\(3<n/\128<=b3/\b3<=191) then 4
 else 0
def byteAt (s:List UInt8) (i:Nat):Nat:=(s.getD i 0).toNat
def sizeAt (s:List UInt8) (i:Nat):Nat:=axy (s.length-i) (byteAt s i) (byteAt s (i+1)) (byteAt s (i+2)) (byteAt s (i+3))
theorem azh (n b0 b1 b2 b3:Nat) (hn:0<n):axy n b0 b1 b2 b3<=n/\axy n b0 b1 b2 b3<=4:=by
 unfold axy
 repeat' split
 all_goals omega
def badF:Nat->List UInt8->Nat->Int
 | 0,_,_=>-1
 | n+1,s,i=>if i<s.length then (if sizeAt s i=0 then (i:Int) else badF n s (i+sizeAt s i)) else -1
theorem aqz:∀ (n m:Nat) (s:List UInt8) (i:Nat),s.length-i<n->s.length-i<m->badF n s i=badF m s i:=by
 intro n
 induction n with
 | zero=>intro m s i h;omega
 | succ n ih=>
  intro m s i h h2
  obtain ⟨k,rfl⟩:∃ k,m=k+1:=⟨m-1,by omega⟩
  unfold badF
  by_cases hi:i<s.length
  ·simp only [hi,if_true]
   by_cases hz:sizeAt s i=0
   ·simp only [hz,if_true]
   ·simp only [hz,if_false]
    exact ih k s _ (by omega) (by omega)
  ·simp only [hi,if_false]
def ahc (s:List UInt8) (i:Nat):Int:=badF (s.length-i+1) s i
theorem aiv (s:List UInt8) (i:Nat):ahc s i=if i<s.length then (if sizeAt s i=0 then (i:Int) else ahc s (i+sizeAt s i)) else -1:=by
 unfold ahc
 rw [badF]
 by_cases hi:i<s.length
 ·simp only [hi,if_true]
  by_cases hz:sizeAt s i=0
  ·simp only [hz,if_true]
  ·simp only [hz,if_false]
   exact aqz _ _ s _ (by omega) (by omega)
 ·simp only [hi,if_false]
def bad (s:List UInt8):Int:=ahc s 0
def azn (s:List UInt8):Bool:=decide (bad s<0)
end Go.Ab
namespace Go.Ab
open Go
end Go.Ab
namespace Go.Ab
open Go
def av9 (u:Nat):Int:=
 if 9218868437227405312<u%9223372036854775808 then 0 else if u%9223372036854775808=9218868437227405312 then 1 else if u%9223372036854775808=0 then 2 else if u%9223372036854775808<4503599627370496 then 3 else 4
end Go.Ab
