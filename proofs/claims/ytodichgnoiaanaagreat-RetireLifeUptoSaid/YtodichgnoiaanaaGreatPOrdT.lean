/- Changes in order: the program's Less is the specification's. -/
import Derived.Test.YtodichgnoiaanaaGreatGenZ
import Derived.Test.YtodichgnoiaanaaGreatAbPlain
import Derived.Test.YtodichgnoiaanaaGreatAbSpl
import Derived.Sort.Walk0
set_option linter.unusedVariables false
set_option linter.unusedSimpArgs false
set_option linter.unnecessarySimpa false
namespace Go.Ab
open Go
set_option maxRecDepth 100000
def cI (x y:Int):Int:=if x<y then -1 else if y<x then 1 else 0
def cB (x y:List UInt8):Int:=if x<y then -1 else if y<x then 1 else 0
def or2 (x y:Int):Int:=if x=0 then y else x
def orL:List Int->Int
 | []=>0
 | x::r=>or2 x (orL r)
def chK (a:PV):Int:=(a.fld 0).asInt
def chD (a:PV):List UInt8:=(a.fld 1).asStr
def chN (a:PV):Int:=(a.fld 2).asInt
def chO (a:PV):List UInt8:=(a.fld 3).asStr
def chW (a:PV):List UInt8:=(a.fld 4).asStr
def grp (k:Int):Int:=if 1<=k/\k<=10 then 1 else if 11<=k/\k<=16 then 2 else 3
def mth (a:PV):List UInt8:=if chK a=19 then chO a else if chK a=20 then chW a else if chK a=21∨chK a=22 then (Lib.cut (chO a) [58,32]).1 else []
def cmpC (a b:PV):Int:=orL [cI (grp (chK a)) (grp (chK b)),cB (chD a) (chD b),cI (chN a) (chN b),cB (mth a) (mth b),cI (chK a) (chK b),cB (chO a) (chO b),cB (chW a) (chW b)]
theorem a7b {x y:List UInt8} (h:x<y):x≠y:=fun e=>by subst e;exact absurd h (List.lt_irrefl x)
theorem triB (x y:List UInt8):x<y∨x=y∨y<x:=by
 by_cases h:x<y
 ·exact Or.inl h
 ·by_cases h':y<x
  ·exact Or.inr (Or.inr h')
  ·exact Or.inr (Or.inl (List.le_antisymm (List.not_lt.1 h') (List.not_lt.1 h)))
structure Lin {α:Type} (c:α->α->Int):Prop where
 sgn:∀ x y,c x y=-1∨c x y=0∨c x y=1
 anti:∀ x y,c y x=- c x y
 tr:∀ x y z,c x y<=0->c y z<=0->c x z<=0/\(c x z=0->c x y=0/\c y z=0)
theorem Lin.cI:Lin Ab.cI:=by
 refine ⟨fun x y=>?_,fun x y=>?_,fun x y z h1 h2=>?_⟩
 ·unfold Ab.cI;split<;>(try split)<;>simp
 ·unfold Ab.cI;split<;>split<;>(try split)<;>omega
 ·unfold Ab.cI at*
  refine ⟨?_,fun h=>?_⟩
  ·split at h1<;>split at h2<;>(try split at h1)<;>(try split at h2)<;>split<;>(try split)<;>omega
  ·have e:x=z:=by
    split at h
    ·omega
    ·split at h<;>omega
   have e1:¬y<x:=by
    intro q
    rw [if_neg (by omega),if_pos q] at h1
    omega
   have e2:¬z<y:=by
    intro q
    rw [if_neg (by omega),if_pos q] at h2
    omega
   exact ⟨by rw [if_neg (by omega),if_neg e1],by rw [if_neg (by omega),if_neg e2]⟩
theorem cB_le {x y:List UInt8}:cB x y<=0 ↔ ¬y<x:=by
 unfold cB
 by_cases h:x<y
 ·simp [h,List.lt_asymm h]
 ·by_cases h':y<x<;>simp [h,h']
theorem cB_zero {x y:List UInt8}:cB x y=0 ↔ x=y:=by
 unfold cB
 by_cases h:x<y
 ·simp [h,a7b h]
 ·by_cases h':y<x
  ·simp [h,h',(a7b h').symm]
  ·rcases triB x y with q | q | q
   ·exact absurd q h
   ·subst q;simp [List.lt_irrefl]
   ·exact absurd q h'
theorem Lin.cB:Lin Ab.cB:=by
 refine ⟨fun x y=>?_,fun x y=>?_,fun x y z h1 h2=>?_⟩
 ·unfold Ab.cB;split<;>(try split)<;>simp
 ·unfold Ab.cB
  by_cases h:x<y
  ·simp [h,List.lt_asymm h]
  ·by_cases h':y<x<;>simp [h,h']
 ·rw [cB_le] at h1 h2
  have a1:=List.not_lt.1 h1;have a2:=List.not_lt.1 h2
  refine ⟨cB_le.2 (List.not_lt.2 (List.le_trans a1 a2)),fun h=>?_⟩
  rw [cB_zero] at h
  subst h
  have:=List.le_antisymm a1 a2
  subst this
  exact ⟨cB_zero.2 rfl,cB_zero.2 rfl⟩
theorem Lin.comap {α β:Type}{c:β->β->Int} (h:Lin c) (f:α->β):Lin (fun x y=>c (f x) (f y)):=⟨fun x y=>h.sgn _ _,fun x y=>h.anti _ _,fun x y z=>h.tr _ _ _⟩
theorem Lin.lex {α:Type}{c d:α->α->Int} (h:Lin c) (k:Lin d):Lin (fun x y=>or2 (c x y) (d x y)):=by
 refine ⟨fun x y=>?_,fun x y=>?_,fun x y z h1 h2=>?_⟩
 ·unfold or2;split
  ·exact k.sgn x y
  ·exact h.sgn x y
 ·have:=h.anti x y;have:=k.anti x y
  unfold or2;split<;>split<;>omega
 ·have s1:=h.sgn x y;have s2:=h.sgn y z;have s3:=h.sgn x z
  have q1:c x y<=0:=by unfold or2 at h1;split at h1<;>omega
  have q2:c y z<=0:=by unfold or2 at h2;split at h2<;>omega
  obtain ⟨t1,t2⟩:=h.tr x y z q1 q2
  unfold or2 at h1 h2 ⊢
  by_cases e:c x z=0
  ·obtain ⟨e1,e2⟩:=t2 e
   rw [if_pos e1] at h1 ⊢;rw [if_pos e2] at h2 ⊢;rw [if_pos e]
   exact k.tr x y z h1 h2
  ·rw [if_neg e]
   exact ⟨t1,fun h=>absurd h e⟩
theorem Lin.one {α:Type}:Lin (fun _ _:α=>(0:Int)):=⟨fun _ _=>Or.inr (Or.inl rfl),fun _ _=>rfl,fun _ _ _ _ _=>⟨Int.le_refl _,fun _=>⟨rfl,rfl⟩⟩⟩
theorem Lin.cmpC:Lin Ab.cmpC:=
 (Lin.cI.comap fun a=>grp (chK a)).lex<|(Lin.cB.comap chD).lex<|(Lin.cI.comap chN).lex<|(Lin.cB.comap mth).lex<|(Lin.cI.comap chK).lex<|(Lin.cB.comap chO).lex<|(Lin.cB.comap chW).lex Lin.one
theorem cB_lt (x y:List UInt8):decide (cB x y<0)=Op.bytesLess x y:=by rw [Go.Proofs.bytesLess_eq];unfold cB;by_cases h:x<y<;>by_cases h':y<x<;>simp [h,h']
end Go.Ab
namespace Go.Ab
open Go
set_option maxRecDepth 100000
abbrev leC (x y:PV):Prop:=cmpC x y<=0
abbrev Srt (xs:List PV):Prop:=xs.Pairwise leC
end Go.Ab
namespace Go.Ab
open Go
set_option maxRecDepth 100000
end Go.Ab
namespace Go.Ab
open Go
set_option maxRecDepth 100000
end Go.Ab
namespace Go.Ab
open Go
set_option maxRecDepth 100000
end Go.Ab
namespace Go.Ab
open Go
set_option maxRecDepth 100000
inductive Ch (s:Nat):List PV->Prop
 | last {S:List PV}:S.length<=s->Srt S->Ch s S
 | cons {S R:List PV}:S.length=s->Srt S->Ch s R->Ch s (S++R)
theorem Ch.split {s:Nat}{R:List PV} (h:Ch s R) (hs:s<=R.length):∃ S R2,R=S++R2/\S.length=s/\Srt S/\Ch s R2:=by
 cases h with
 | last h1 h2=>exact ⟨R,[],by simp,by omega,h2,.last (by simp) List.Pairwise.nil⟩
 | cons h1 h2 h3=>exact ⟨_,_,rfl,h1,h2,h3⟩
end Go.Ab
namespace Go.Ab
open Go
set_option maxRecDepth 100000
theorem foldl_map {α β:Type} (g:α->β):∀ (l:List α) (acc:List β),l.foldl (fun a x=>a++[g x]) acc=acc++l.map g:=by
 intro l
 induction l with
 | nil=>intro acc;simp
 | cons x l ih=>intro acc;rw [List.foldl_cons,ih];simp
end Go.Ab
