/- Changes in order: the program's Less is the specification's. -/
import Derived.Test.YthokbeimbdnnoaaGreatDoorGenEf
import Derived.Test.YthokbeimbdnnoaaGreatDoorAbPlain
import Derived.Sort.Walk0
set_option linter.unusedVariables false
set_option linter.unusedSimpArgs false
set_option linter.unnecessarySimpa false
namespace Go.Ab
open Go
set_option maxRecDepth 100000
def cI (x y:Int):Int:=if x<y then -1 else if y<x then 1 else 0
def cB (x y:List UInt8):Int:=if x<y then -1 else if y<x then 1 else 0
def or2 (x y:Int):Int:=if x=0 then y else x
def orL:List Int->Int
 | []=>0
 | x::r=>or2 x (orL r)
def chK (a:PV):Int:=(a.fld 0).asInt
def chD (a:PV):List UInt8:=(a.fld 1).asStr
def chN (a:PV):Int:=(a.fld 2).asInt
def chO (a:PV):List UInt8:=(a.fld 3).asStr
def chW (a:PV):List UInt8:=(a.fld 4).asStr
def grp (k:Int):Int:=if 1<=k/\k<=10 then 1 else if 11<=k/\k<=16 then 2 else 3
def mth (a:PV):List UInt8:=if chK a=19 then chO a else if chK a=20 then chW a else if chK a=21∨chK a=22 then (Lib.cut (chO a) [58,32]).1 else []
def cmpC (a b:PV):Int:=orL [cI (grp (chK a)) (grp (chK b)),cB (chD a) (chD b),cI (chN a) (chN b),cB (mth a) (mth b),cI (chK a) (chK b),cB (chO a) (chO b),cB (chW a) (chW b)]
theorem a2q (x y:Int):F124 0 x y=some (cI x y):=by
 have h1:F189 0 x=some false:=by simp [F189]
 have h2:F189 0 y=some false:=by simp [F189]
 simp only [F124,h1,h2,Option.bind_some,cond_false,cI]
 by_cases h:x<y
 ·simp [h]
 ·by_cases h':y<x
  ·simp [h,h']
  ·simp [h,h']
theorem a5i {x y:List UInt8} (h:x<y):x≠y:=fun e=>by subst e;exact absurd h (List.lt_irrefl x)
theorem triB (x y:List UInt8):x<y∨x=y∨y<x:=by
 by_cases h:x<y
 ·exact Or.inl h
 ·by_cases h':y<x
  ·exact Or.inr (Or.inr h')
  ·exact Or.inr (Or.inl (List.le_antisymm (List.not_lt.1 h') (List.not_lt.1 h)))
theorem a2r (x y:List UInt8):F126 0 x y=some (cB x y):=by
 have h1:F190 0 x=some false:=by simp [F190]
 have h2:F190 0 y=some false:=by simp [F190]
 simp only [F126,h1,h2,Option.bind_some,cond_false,cB,Go.Proofs.bytesLess_eq]
 by_cases h:x<y
 ·simp [h]
 ·by_cases h':x=y
  ·subst h';simp [List.lt_irrefl]
  ·have:y<x:=by
    rcases triB x y with q | q | q
    ·exact absurd q h
    ·exact absurd q h'
    ·exact q
   have hb:(x==y)=false:=by simpa using h'
   simp [h,hb,this]
theorem az9 (k:Int):F125 0 k=some (grp k):=by
 simp only [F125,grp,ge_iff_le]
 by_cases h1:1<=k<;>by_cases h2:k<=10<;>by_cases h3:11<=k<;>by_cases h4:k<=16<;>simp [h1,h2,h3,h4]
theorem a3p:∀ (r pre:List PV),(pre++r).length<=100000000->∃ z,aba (S123_4step 0) ((0:Int),pre++r,((pre++r).length:Int),(pre.length:Int))=some z/\(z=.inl (orL (r.map PV.asInt))∨z=.inr (orL (r.map PV.asInt))):=by
 intro r
 induction r with
 | nil=>
  intro pre hl
  refine ⟨.inr 0,aag ?_,Or.inr rfl⟩
  simp [S123_4step,S123_4]
 | cons x r ih=>
  intro pre hl
  have hlt:pre.length<(pre++x::r).length:=by simp
  have hd:decide ((pre.length:Int)<((pre++x::r).length:Int))=true:=decide_eq_true (by omega)
  have hg:(pre++x::r).getD ((pre.length:Int)).toNat .bad=x:=by simp
  by_cases hx:x.asInt=0
  ·obtain ⟨z,h1,h2⟩:=ih (pre++[x]) (by simpa using hl)
   refine ⟨z,?_,?_⟩
   ·rw [aas (x1:=((0:Int),pre++x::r,((pre++x::r).length:Int),((pre++[x]).length:Int)))]
    ·simpa using h1
    ·simp only [S123_4step,S123_4,hd,cond_true,aab,decide_eq_true hlt,hg,hx,bne_self_eq_false,cond_false]
     rw [aa7 pre.length (by omega)]
     simp
   ·have e:orL ((x::r).map PV.asInt)=orL (r.map PV.asInt):=by simp [orL,or2,hx]
    rw [e];exact h2
  ·refine ⟨.inl x.asInt,aag ?_,Or.inl ?_⟩
   ·have hb:(x.asInt != 0)=true:=by simpa using hx
    simp only [S123_4step,S123_4,hd,cond_true,aab,decide_eq_true hlt,hg,hb]
   ·simp [orL,or2,hx]
theorem or_eq (l:List PV) (h:l.length<=100000000):F123 0 l=some (orL (l.map PV.asInt)):=by
 obtain ⟨z,h1,h2⟩:=a3p l [] (by simpa using h)
 simp only [List.nil_append,List.length_nil,Int.ofNat_zero] at h1
 unfold F123
 show (aba _ _).bind _=_
 have h1:aba (S123_4step 0) ((0:Int),l,(l.length:Int),(0:Int))=some z:=h1
 rw [h1]
 rcases h2 with rfl | rfl<;>rfl
theorem aps (a:PV) (h:(chO a).length<=100000000):F127 0 a=some (mth a):=by
 have hc:Lcut 0 (chO a) [58,32]=some (Lib.cut (chO a) [58,32]):=by
  unfold Lcut;rw [decide_eq_true (by omega)];rfl
 unfold chO at hc
 simp only [F127,mth,chK,chO,chW,hc,Option.bind_some]
 by_cases h1:(a.fld 0).asInt=19
 ·simp [h1]
 ·by_cases h2:(a.fld 0).asInt=20
  ·simp [h2]
  ·by_cases h3:(a.fld 0).asInt=21
   ·simp [h3]
   ·have b1:((a.fld 0).asInt==19)=false:=by simpa using h1
    have b2:((a.fld 0).asInt==20)=false:=by simpa using h2
    have b3:((a.fld 0).asInt==21)=false:=by simpa using h3
    by_cases h4:(a.fld 0).asInt=22
    ·simp [h4]
    ·have b4:((a.fld 0).asInt==22)=false:=by simpa using h4
     simp [b1,b2,b3,b4,h1,h2,h3,h4]
theorem auf (a b:PV) (ha:(chO a).length<=100000000) (hb:(chO b).length<=100000000):F65 0 a b=some (cmpC a b):=by
 simp only [F65,az9,a2q,a2r,aps a ha,aps b hb,Option.bind_some]
 rw [or_eq _ (by simp)]
 rfl
structure Lin {α:Type} (c:α->α->Int):Prop where
 sgn:∀ x y,c x y=-1∨c x y=0∨c x y=1
 anti:∀ x y,c y x=- c x y
 tr:∀ x y z,c x y<=0->c y z<=0->c x z<=0/\(c x z=0->c x y=0/\c y z=0)
theorem Lin.cI:Lin Ab.cI:=by
 refine ⟨fun x y=>?_,fun x y=>?_,fun x y z h1 h2=>?_⟩
 ·unfold Ab.cI;split<;>(try split)<;>simp
 ·unfold Ab.cI;split<;>split<;>(try split)<;>omega
 ·unfold Ab.cI at*
  refine ⟨?_,fun h=>?_⟩
  ·split at h1<;>split at h2<;>(try split at h1)<;>(try split at h2)<;>split<;>(try split)<;>omega
  ·have e:x=z:=by
    split at h
    ·omega
    ·split at h<;>omega
   have e1:¬y<x:=by
    intro q
    rw [if_neg (by omega),if_pos q] at h1
    omega
   have e2:¬z<y:=by
    intro q
    rw [if_neg (by omega),if_pos q] at h2
    omega
   exact ⟨by rw [if_neg (by omega),if_neg e1],by rw [if_neg (by omega),if_neg e2]⟩
theorem cB_le {x y:List UInt8}:cB x y<=0 ↔ ¬y<x:=by
 unfold cB
 by_cases h:x<y
 ·simp [h,List.lt_asymm h]
 ·by_cases h':y<x<;>simp [h,h']
theorem cB_zero {x y:List UInt8}:cB x y=0 ↔ x=y:=by
 unfold cB
 by_cases h:x<y
 ·simp [h,a5i h]
 ·by_cases h':y<x
  ·simp [h,h',(a5i h').symm]
  ·rcases triB x y with q | q | q
   ·exact absurd q h
   ·subst q;simp [List.lt_irrefl]
   ·exact absurd q h'
theorem Lin.cB:Lin Ab.cB:=by
 refine ⟨fun x y=>?_,fun x y=>?_,fun x y z h1 h2=>?_⟩
 ·unfold Ab.cB;split<;>(try split)<;>simp
 ·unfold Ab.cB
  by_cases h:x<y
  ·simp [h,List.lt_asymm h]
  ·by_cases h':y<x<;>simp [h,h']
 ·rw [cB_le] at h1 h2
  have a1:=List.not_lt.1 h1;have a2:=List.not_lt.1 h2
  refine ⟨cB_le.2 (List.not_lt.2 (List.le_trans a1 a2)),fun h=>?_⟩
  rw [cB_zero] at h
  subst h
  have:=List.le_antisymm a1 a2
  subst this
  exact ⟨cB_zero.2 rfl,cB_zero.2 rfl⟩
theorem Lin.comap {α β:Type}{c:β->β->Int} (h:Lin c) (f:α->β):Lin (fun x y=>c (f x) (f y)):=⟨fun x y=>h.sgn _ _,fun x y=>h.anti _ _,fun x y z=>h.tr _ _ _⟩
theorem Lin.lex {α:Type}{c d:α->α->Int} (h:Lin c) (k:Lin d):Lin (fun x y=>or2 (c x y) (d x y)):=by
 refine ⟨fun x y=>?_,fun x y=>?_,fun x y z h1 h2=>?_⟩
 ·unfold or2;split
  ·exact k.sgn x y
  ·exact h.sgn x y
 ·have:=h.anti x y;have:=k.anti x y
  unfold or2;split<;>split<;>omega
 ·have s1:=h.sgn x y;have s2:=h.sgn y z;have s3:=h.sgn x z
  have q1:c x y<=0:=by unfold or2 at h1;split at h1<;>omega
  have q2:c y z<=0:=by unfold or2 at h2;split at h2<;>omega
  obtain ⟨t1,t2⟩:=h.tr x y z q1 q2
  unfold or2 at h1 h2 ⊢
  by_cases e:c x z=0
  ·obtain ⟨e1,e2⟩:=t2 e
   rw [if_pos e1] at h1 ⊢;rw [if_pos e2] at h2 ⊢;rw [if_pos e]
   exact k.tr x y z h1 h2
  ·rw [if_neg e]
   exact ⟨t1,fun h=>absurd h e⟩
theorem Lin.one {α:Type}:Lin (fun _ _:α=>(0:Int)):=⟨fun _ _=>Or.inr (Or.inl rfl),fun _ _=>rfl,fun _ _ _ _ _=>⟨Int.le_refl _,fun _=>⟨rfl,rfl⟩⟩⟩
theorem Lin.cmpC:Lin Ab.cmpC:=
 (Lin.cI.comap fun a=>grp (chK a)).lex<|(Lin.cB.comap chD).lex<|(Lin.cI.comap chN).lex<|(Lin.cB.comap mth).lex<|(Lin.cI.comap chK).lex<|(Lin.cB.comap chO).lex<|(Lin.cB.comap chW).lex Lin.one
theorem a2o {x y:Int}:cI x y=0 ↔ x=y:=by
 unfold cI;split
 ·simp;omega
 ·split
  ·simp;omega
  ·simp;omega
theorem a4n (x y:List UInt8):decide (cB x y<0)=Op.bytesLess x y:=by rw [Go.Proofs.bytesLess_eq];unfold cB;by_cases h:x<y<;>by_cases h':y<x<;>simp [h,h']
end Go.Ab
namespace Go.Ab
open Go
set_option maxRecDepth 100000
theorem aee {U V:List PV}{x d:PV}{i:Nat} (h:i=U.length):(U++x::V).getD i d=x:=by subst h;simp [List.getD]
theorem aoj {U V:List PV}{x y:PV}{i:Nat} (h:i=U.length):(U++x::V).set i y=U++y::V:=by subst h;simp
def swp (xs:List PV) (i j:Nat):List PV:=(xs.set j (xs.getD i .bad)).set i (xs.getD j .bad)
theorem ays {U V W:List PV}{x y:PV}{i j:Nat} (hi:i=U.length) (hj:j=U.length+1+V.length):swp (U++x::(V++y::W)) i j=U++y::(V++x::W):=by
 have e:∀ z:PV,U++x::(V++z::W)=(U++x::V)++z::W:=fun z=>by simp
 have hl:j=(U++x::V).length:=by simp<;>omega
 unfold swp
 rw [aee hi,e y,aee hl,aoj hl,<-e x,aoj hi]
theorem atx {U V W:List PV}{x y:PV}{i j:Nat} (hi:i=U.length) (hj:j=U.length+1+V.length):swp (U++x::(V++y::W)) j i=U++y::(V++x::W):=by
 have e:∀ w z:PV,U++w::(V++z::W)=(U++w::V)++z::W:=fun w z=>by simp
 have hl:∀ w:PV,j=(U++w::V).length:=fun w=>by simp<;>omega
 unfold swp
 rw [aee hi,e x y,aee (hl x),<-e x y,aoj hi,e y y,aoj (hl y),<-e y x]
abbrev leC (x y:PV):Prop:=cmpC x y<=0
abbrev Srt (xs:List PV):Prop:=xs.Pairwise leC
def OkL (xs:List PV):Prop:=xs.length<=100000000/\∀ x,x∈xs->(chO x).length<=100000000
theorem OkL.perm {xs ys:List PV} (h:OkL xs) (p:ys.Perm xs):OkL ys:=⟨by rw [p.length_eq];exact h.1,fun x hx=>h.2 x (p.mem_iff.1 hx)⟩
theorem acz {x y z:PV} (h1:leC x y) (h2:leC y z):leC x z:=(Lin.cmpC.tr x y z h1 h2).1
theorem ae2 {x y:PV} (h:¬cmpC x y<0):leC y x:=by have:=Lin.cmpC.anti x y;unfold leC;omega
theorem OkL.get {xs:List PV} (h:OkL xs) {i:Nat} (hi:i<xs.length):(chO (xs.getD i .bad)).length<=100000000:=by
 rw [aac hi];exact h.2 _ (List.getElem_mem hi)
theorem as6 {xs:List PV} (h:OkL xs) {i j:Nat} (hi:i<xs.length) (hj:j<xs.length):F65 0 (xs.getD i .bad) (xs.getD j .bad)=some (cmpC (xs.getD i .bad) (xs.getD j .bad)):=auf _ _ (h.get hi) (h.get hj)
theorem aw4 (c:Bool):imp false c=true:=by cases c<;>rfl
theorem a0c (c:Bool):imp true c=c:=by cases c<;>rfl
theorem ay8 {j:Nat} (h:1<=j) (h2:j<=9223372036854775807):IntKind.wrap .i64 ((j:Int)-1)=((j-1:Nat):Int):=by
 rw [show (j:Int)-1=((j-1:Nat):Int) by omega];exact aa5 (by omega)
theorem anw {a b i j:Nat}{xs:List PV} (ok:OkL xs) (hj:j<xs.length):S216_5step 0 ((),(a:Int),(b:Int),(),(i:Int),(j:Int),xs)=
 some (if a<j/\cmpC (xs.getD j .bad) (xs.getD (j-1) .bad)<0 then .inl ((),(a:Int),(b:Int),(),(i:Int),((j-1:Nat):Int),swp xs (j-1) j) else .inr ((),(a:Int),(b:Int),(),(i:Int),xs)):=by
 have hl:=ok.1
 simp only [S216_5step,S216_5]
 by_cases haj:a<j
 ·have hd:decide ((j:Int)>(a:Int))=true:=decide_eq_true (by omega)
  have hj1:j-1<xs.length:=by omega
  simp only [hd,ay8 (show 1<=j by omega) (by omega),aab,Int.toNat_natCast,decide_eq_true hj,decide_eq_true hj1,a0c,cond_true,as6 ok hj hj1,Option.bind_some,List.length_set,haj,true_and]
  by_cases hc:cmpC (xs.getD j .bad) (xs.getD (j-1) .bad)<0
  ·rw [if_pos hc,decide_eq_true hc];rfl
  ·rw [if_neg hc,decide_eq_false hc];rfl
 ·have hd:decide ((j:Int)>(a:Int))=false:=decide_eq_false (by omega)
  rw [if_neg (fun h=>haj h.1)]
  simp only [hd,aw4,cond_true,cond_false,Option.bind_some]
theorem aw6 {a b i:Nat}{U:List PV}{x:PV} (ha:a=U.length):∀ (R B:List PV),Srt R.reverse->OkL (U++(R.reverse++x::B))->
 ∃ A1 A2,R.reverse=A1++A2/\(∀ y,y∈A1->leC y x)/\(∀ y,y∈A2->leC x y)/\
  aba (S216_5step 0) ((),(a:Int),(b:Int),(),(i:Int),((U.length+R.length:Nat):Int),U++(R.reverse++x::B))=some ((),(a:Int),(b:Int),(),(i:Int),U++(A1++x::(A2++B))):=by
 intro R
 induction R with
 | nil=>
  intro B _ ok
  refine ⟨[],[],rfl,by simp,by simp,aag ?_⟩
  rw [anw ok (by simp),if_neg (fun h=>by simp at h;omega)]
  try rfl
 | cons y R ih=>
  intro B hs ok
  have e:U++((y::R).reverse++x::B)=(U++R.reverse)++y::([]++x::B):=by simp
  have hj:U.length+(y::R).length=(U++R.reverse).length+1+([]:List PV).length:=by simp<;>omega
  have hjl:U.length+(y::R).length<(U++((y::R).reverse++x::B)).length:=by simp<;>omega
  have hx:(U++((y::R).reverse++x::B)).getD (U.length+(y::R).length) .bad=x:=by
   rw [e,show (U++R.reverse)++y::([]++x::B)=(U++R.reverse++[y])++x::B by simp]
   exact aee (by simp<;>omega)
  have hy:(U++((y::R).reverse++x::B)).getD (U.length+(y::R).length-1) .bad=y:=by
   rw [e];exact aee (by simp)
  have hs':Srt R.reverse/\∀ z,z∈R.reverse->leC z y:=by
   rw [List.reverse_cons,Srt,List.pairwise_append] at hs
   exact ⟨hs.1,fun z hz=>hs.2.2 z hz y (by simp)⟩
  by_cases hc:cmpC x y<0
  ·obtain ⟨A1,A2,q1,q2,q3,q4⟩:=ih (y::B) hs'.1 (ok.perm (by
    rw [e]
    refine (List.Perm.append_left U ?_).trans (by rw [List.append_assoc])
    exact List.Perm.append_left _ (List.Perm.swap y x B)))
   refine ⟨A1,A2++[y],by rw [List.reverse_cons,q1,List.append_assoc],q2,fun z hz=>?_,?_⟩
   ·rcases List.mem_append.1 hz with h | h
    ·exact q3 z h
    ·rw [List.mem_singleton] at h;subst h;unfold leC;omega
   ·rw [aas (x1:=((),(a:Int),(b:Int),(),(i:Int),((U.length+R.length:Nat):Int),U++(R.reverse++x::(y::B))))]
    ·rw [q4];simp
    ·rw [anw ok hjl,hx,hy,if_pos ⟨by simp<;>omega,hc⟩]
     rw [e,ays (by simp) hj]
     simp
  ·refine ⟨(y::R).reverse,[],by simp,fun z hz=>?_,by simp,aag ?_⟩
   ·rw [List.reverse_cons] at hz
    rcases List.mem_append.1 hz with h | h
    ·exact acz (hs'.2 z h) (ae2 hc)
    ·rw [List.mem_singleton] at h;subst h;exact ae2 hc
   ·rw [anw ok hjl,hx,hy,if_neg (fun h=>hc h.2)]
    try rfl
theorem aw7 {a b:Nat}{U Q:List PV} (ha:a=U.length):∀ (T A:List PV),Srt A->OkL (U++(A++(T++Q)))->b=U.length+A.length+T.length->
 ∃ S',S'.Perm (A++T)/\Srt S'/\aba (S216_2step 0) ((),(a:Int),(b:Int),(),((U.length+A.length:Nat):Int),U++(A++(T++Q)))=some (U++(S'++Q)):=by
 intro T
 induction T with
 | nil=>
  intro A hs ok hb
  refine ⟨A,by simp,hs,aag ?_⟩
  have hd:decide (((U.length+A.length:Nat):Int)<(b:Int))=false:=decide_eq_false (by simp at hb;omega)
  simp only [S216_2step,S216_2,hd,cond_false]
  simp
 | cons t T ih=>
  intro A hs ok hb
  have hd:decide (((U.length+A.length:Nat):Int)<(b:Int))=true:=decide_eq_true (by simp at hb;omega)
  obtain ⟨A1,A2,q1,q2,q3,q4⟩:=aw6 (a:=a) (b:=b) (i:=U.length+A.length) (U:=U) (x:=t) ha A.reverse (T++Q) (by rw [List.reverse_reverse];exact hs) (by rw [List.reverse_reverse];exact ok)
  rw [List.reverse_reverse] at q1 q4
  rw [List.length_reverse] at q4
  have hsA:Srt (A1++t::A2):=by
   rw [q1,Srt,List.pairwise_append] at hs
   rw [Srt,List.pairwise_append]
   refine ⟨hs.1,List.pairwise_cons.2 ⟨q3,hs.2.1⟩,fun x hx y hy=>?_⟩
   rcases List.mem_cons.1 hy with rfl | hy
   ·exact q2 x hx
   ·exact hs.2.2 x hx y hy
  have pA:(A1++t::A2).Perm (A++[t]):=by
   rw [q1]
   refine List.perm_middle.trans ?_
   exact (List.perm_append_comm (l₁:=[t]) (l₂:=A1++A2))
  have ok':OkL (U++((A1++t::A2)++(T++Q))):=ok.perm (by
   refine List.Perm.append_left U ?_
   refine (List.Perm.append_right (T++Q) pA).trans ?_
   simp)
  have hlen:(A1++t::A2).length=A.length+1:=by rw [q1];simp;omega
  obtain ⟨S',r1,r2,r3⟩:=ih (A1++t::A2) hsA ok' (by rw [hlen,hb];simp;omega)
  refine ⟨S',r1.trans ?_,r2,?_⟩
  ·refine (List.Perm.append_right T pA).trans ?_
   simp
  ·have hl:=ok.1
   rw [aas (x1:=((),(a:Int),(b:Int),(),((U.length+(A1++t::A2).length:Nat):Int),U++((A1++t::A2)++(T++Q))))]
   ·exact r3
   ·simp only [S216_2step,S216_2,hd,cond_true]
    have q4':aah 0 (S216_5step 0) ((),(a:Int),(b:Int),(),((U.length+A.length:Nat):Int),((U.length+A.length:Nat):Int),U++(A++(t::T++Q)))=some ((),(a:Int),(b:Int),(),((U.length+A.length:Nat):Int),U++(A1++t::(A2++(T++Q)))):=q4
    rw [q4',Option.bind_some]
    have w:IntKind.wrap .i64 (((U.length+A.length:Nat):Int)+1)=((U.length+(A1++t::A2).length:Nat):Int):=by
     rw [hlen]
     have:U.length+A.length<=100000000:=by simp at hl;omega
     rw [aa7 _ (Nat.le_trans this (by decide))]
     rfl
    simp only [w]
    simp
theorem anv {a b:Nat}{U Q S:List PV} (ha:a=U.length) (hb:b=U.length+S.length) (ok:OkL (U++(S++Q))):
 ∃ S',S'.Perm S/\Srt S'/\F216 0 () (a:Int) (b:Int) () (U++(S++Q))=some (U++(S'++Q)):=by
 have hl:=ok.1
 have ha':a<=100000000:=by subst ha;simp at hl;omega
 unfold F216
 show ∃ S',_/\_/\(aba _ _).bind _=_
 rw [aa7 a (Nat.le_trans ha' (by decide))]
 cases S with
 | nil=>
  refine ⟨[],List.Perm.refl _,List.Pairwise.nil,?_⟩
  rw [aag (y:=U++([]++Q))]
  ·rfl
  ·have hd:decide (((a+1:Nat):Int)<(b:Int))=false:=decide_eq_false (by simp at hb;omega)
   simp only [S216_2step,S216_2,hd,cond_false]
 | cons s T=>
  obtain ⟨S',r1,r2,r3⟩:=aw7 (a:=a) (b:=b) (U:=U) (Q:=Q) ha T [s] (by simp) (by simpa using ok) (by simp at hb ⊢;omega)
  refine ⟨S',r1,r2,?_⟩
  have e:((U.length+[s].length:Nat):Int)=((a+1:Nat):Int):=by rw [ha];rfl
  rw [e] at r3
  have r3:aba (S216_2step 0) ((),(a:Int),(b:Int),(),((a+1:Nat):Int),U++(s::T++Q))=some (U++(S'++Q)):=r3
  rw [r3]
  rfl
end Go.Ab
namespace Go.Ab
open Go
set_option maxRecDepth 100000
theorem aoq {a i:Nat} (h:a+i<=9223372036854775807):IntKind.wrap .i64 ((a:Int)+(i:Int))=((a+i:Nat):Int):=by
 rw [show (a:Int)+(i:Int)=((a+i:Nat):Int) by omega];exact aa5 h
theorem ahi {a i:Nat} (h:i<=a) (h2:a<=9223372036854775807):IntKind.wrap .i64 ((a:Int)-(i:Int))=((a-i:Nat):Int):=by
 rw [show (a:Int)-(i:Int)=((a-i:Nat):Int) by omega];exact aa5 (by omega)
theorem a5w {a b n i:Nat}{xs:List PV} (hl:xs.length<=100000000) (hi:i<n) (ha:a+i<xs.length) (hb:b+i<xs.length):
 S285_2step 0 ((),(a:Int),(b:Int),(n:Int),(i:Int),xs)=some (.inl ((),(a:Int),(b:Int),(n:Int),((i+1:Nat):Int),swp xs (b+i) (a+i))):=by
 have hd:decide ((i:Int)<(n:Int))=true:=decide_eq_true (by omega)
 simp only [S285_2step,S285_2,hd,aoq (show a+i<=9223372036854775807 by omega),aoq (show b+i<=9223372036854775807 by omega),aa7 i (by omega),aab,Int.toNat_natCast,decide_eq_true ha,decide_eq_true hb,cond_true,List.length_set,swp]
theorem swr {a b n:Nat}:∀ (X Y U V W:List PV) (i:Nat),X.length=Y.length->a+i=U.length->b+i=U.length+X.length+V.length->i+X.length=n->(U++(X++(V++(Y++W)))).length<=100000000->
 aba (S285_2step 0) ((),(a:Int),(b:Int),(n:Int),(i:Int),U++(X++(V++(Y++W))))=some (U++(Y++(V++(X++W)))):=by
 intro X
 induction X with
 | nil=>
  intro Y U V W i hxy ha hb hn hl
  have:Y=[]:=List.length_eq_zero_iff.1 (by simpa using hxy.symm)
  subst this
  refine aag ?_
  have hd:decide ((i:Int)<(n:Int))=false:=decide_eq_false (by simp at hn;omega)
  simp only [S285_2step,S285_2,hd,cond_false]
 | cons x X ih=>
  intro Y U V W i hxy ha hb hn hl
  cases Y with
  | nil=>simp at hxy
  | cons y Y=>
   simp only [List.length_cons] at hxy hb hn
   have e:U++(x::X++(V++(y::Y++W)))=U++x::((X++V)++y::(Y++W)):=by simp
   have h1:a+i<(U++(x::X++(V++(y::Y++W)))).length:=by simp;omega
   have h2:b+i<(U++(x::X++(V++(y::Y++W)))).length:=by simp;omega
   have e2:swp (U++(x::X++(V++(y::Y++W)))) (b+i) (a+i)=(U++[y])++(X++((V++[x])++(Y++W))):=by
    rw [e,atx ha (by simp;omega)]
    simp
   rw [aas (a5w hl (by omega) h1 h2),e2,ih Y (U++[y]) (V++[x]) W (i+1) (by omega) (by simp;omega) (by simp;omega) (by omega) (by simp at hl ⊢;omega)]
   simp
theorem ajm {a b n:Nat}{X Y U V W:List PV} (hxy:X.length=Y.length) (ha:a=U.length) (hb:b=U.length+X.length+V.length) (hn:n=X.length) (hl:(U++(X++(V++(Y++W)))).length<=100000000):
 F285 0 () (a:Int) (b:Int) (n:Int) () (U++(X++(V++(Y++W))))=some (U++(Y++(V++(X++W)))):=by
 unfold F285
 show (aba _ _).bind _=_
 have h:=swr (a:=a) (b:=b) (n:=n) X Y U V W 0 hxy (by omega) (by omega) (by omega) hl
 have h:aba (S285_2step 0) ((),(a:Int),(b:Int),(n:Int),(0:Int),U++(X++(V++(Y++W))))=some (U++(Y++(V++(X++W)))):=h
 rw [h]
 rfl
theorem rot {m:Nat}:∀ (k:Nat) (X Y P Q:List PV),X.length+Y.length<=k->X≠[]->Y≠[]->m=P.length+X.length->(P++(X++(Y++Q))).length<=100000000->
 ∃ (i:Nat) (ys:List PV),aba (S251_3step 0) ((),(m:Int),(),(X.length:Int),(Y.length:Int),P++(X++(Y++Q)))=some ((),(m:Int),(),(i:Int),ys)/\
  F285 0 () (IntKind.wrap .i64 ((m:Int)-(i:Int))) (m:Int) (i:Int) () ys=some (P++(Y++(X++Q))):=by
 intro k
 induction k with
 | zero=>
  intro X Y P Q h hx
  cases X with
  | nil=>exact absurd rfl hx
  | cons=>simp at h
 | succ k ih=>
  intro X Y P Q h hx hy hm hl
  have hx0:0<X.length:=List.length_pos_iff.2 hx
  have hy0:0<Y.length:=List.length_pos_iff.2 hy
  have hl':=hl
  simp only [List.length_append] at hl'
  rcases Nat.lt_trichotomy X.length Y.length with hlt | heq | hgt
  ·have hn1:((X.length:Int) != (Y.length:Int))=true:=by simp;omega
   have hn2:decide ((X.length:Int)>(Y.length:Int))=false:=decide_eq_false (by omega)
   have eY:Y=Y.take (Y.length-X.length)++Y.drop (Y.length-X.length):=(List.take_append_drop _ _).symm
   generalize hY1:Y.take (Y.length-X.length)=Y1 at eY
   generalize hY2:Y.drop (Y.length-X.length)=Y2 at eY
   have l1:Y1.length=Y.length-X.length:=by rw [<-hY1,List.length_take];omega
   have l2:Y2.length=X.length:=by rw [<-hY2,List.length_drop];omega
   have hsw:=ajm (a:=m-X.length) (b:=m+Y.length-X.length) (n:=X.length) (X:=X) (Y:=Y2) (U:=P) (V:=Y1) (W:=Q) l2.symm (by omega) (by omega) rfl (by simp;omega)
   have e1:P++(X++(Y1++(Y2++Q)))=P++(X++(Y++Q)):=by rw [eY];simp
   rw [e1] at hsw
   obtain ⟨i,ys,r1,r2⟩:=ih Y2 Y1 P (X++Q) (by omega) (by intro e;rw [e] at l2;simp at l2;omega) (by intro e;rw [e] at l1;simp at l1;omega) (by omega) (by simp;omega)
   refine ⟨i,ys,?_,?_⟩
   ·rw [aas (x1:=((),(m:Int),(),(Y2.length:Int),(Y1.length:Int),P++(Y2++(Y1++(X++Q)))))]
    ·exact r1
    ·simp only [S251_3step,S251_3,hn1,hn2,cond_true,cond_false,ahi (show X.length<=m by omega) (by omega),aoq (show m+Y.length<=9223372036854775807 by omega),ahi (show X.length<=m+Y.length by omega) (by omega),hsw,Option.bind_some,ahi (show X.length<=Y.length by omega) (by omega)]
     rw [l1,l2]
   ·rw [r2,eY];simp
  ·have hn1:((X.length:Int) != (Y.length:Int))=false:=by simp;omega
   refine ⟨X.length,P++(X++(Y++Q)),aag ?_,?_⟩
   ·simp only [S251_3step,S251_3,hn1,cond_false]
   ·rw [ahi (show X.length<=m by omega) (by omega)]
    have:=ajm (a:=m-X.length) (b:=m) (n:=X.length) (X:=X) (Y:=Y) (U:=P) (V:=[]) (W:=Q) heq (by omega) (by simp;omega) rfl (by simpa using hl)
    simpa using this
  ·have hn1:((X.length:Int) != (Y.length:Int))=true:=by simp;omega
   have hn2:decide ((X.length:Int)>(Y.length:Int))=true:=decide_eq_true (by omega)
   have eX:X=X.take Y.length++X.drop Y.length:=(List.take_append_drop _ _).symm
   generalize hX1:X.take Y.length=X1 at eX
   generalize hX2:X.drop Y.length=X2 at eX
   have l1:X1.length=Y.length:=by rw [<-hX1,List.length_take];omega
   have l2:X2.length=X.length-Y.length:=by rw [<-hX2,List.length_drop]
   have hsw:=ajm (a:=m-X.length) (b:=m) (n:=Y.length) (X:=X1) (Y:=Y) (U:=P) (V:=X2) (W:=Q) l1 (by omega) (by omega) l1.symm (by simp;omega)
   have e1:P++(X1++(X2++(Y++Q)))=P++(X++(Y++Q)):=by rw [eX];simp
   rw [e1] at hsw
   obtain ⟨i,ys,r1,r2⟩:=ih X2 X1 (P++Y) Q (by omega) (by intro e;rw [e] at l2;simp at l2;omega) (by intro e;rw [e] at l1;simp at l1;omega) (by simp;omega) (by simp;omega)
   refine ⟨i,ys,?_,?_⟩
   ·rw [aas (x1:=((),(m:Int),(),(X2.length:Int),(X1.length:Int),(P++Y)++(X2++(X1++Q))))]
    ·exact r1
    ·simp only [S251_3step,S251_3,hn1,hn2,cond_true,ahi (show X.length<=m by omega) (by omega),hsw,Option.bind_some,ahi (show Y.length<=X.length by omega) (by omega)]
     rw [l1,l2,List.append_assoc]
   ·rw [r2,eX];simp
theorem aya {a m b:Nat}{X Y P Q:List PV} (hx:X≠[]) (hy:Y≠[]) (ha:a=P.length) (hm:m=P.length+X.length) (hb:b=m+Y.length) (hl:(P++(X++(Y++Q))).length<=100000000):
 F251 0 () (a:Int) (m:Int) (b:Int) () (P++(X++(Y++Q)))=some (P++(Y++(X++Q))):=by
 have hl':=hl
 simp only [List.length_append] at hl'
 obtain ⟨i,ys,r1,r2⟩:=rot (m:=m) _ X Y P Q (Nat.le_refl _) hx hy hm hl
 unfold F251
 rw [ahi (show a<=m by omega) (by omega),ahi (show m<=b by omega) (by omega),show m-a=X.length by omega,show b-m=Y.length by omega]
 show (aba _ _).bind _=_
 rw [r1]
 simp only [Option.bind_some,r2]
theorem aqz {σ τ:Type}{step:σ->Option (σ⊕τ)} (st:Nat->Nat->σ) (out:Nat->τ) (q:Nat->Bool) (lo0 hi0:Nat)
 (hgo:∀ lo hi,lo0<=lo->lo<hi->hi<=hi0->step (st lo hi)=some (.inl (bif q ((lo+hi) / 2) then st ((lo+hi) / 2+1) hi else st lo ((lo+hi) / 2)))) (hend:∀ lo,lo0<=lo->lo<=hi0->step (st lo lo)=some (.inr (out lo))) (h0:lo0<=hi0):
 ∃ i,aba step (st lo0 hi0)=some (out i)/\lo0<=i/\i<=hi0/\(lo0<i->q (i-1)=true)/\(i<hi0->q i=false):=by
 suffices H:∀ (n lo hi:Nat),hi-lo<=n->lo0<=lo->lo<=hi->hi<=hi0->(lo0<lo->q (lo-1)=true)->(hi<hi0->q hi=false)->∃ i,aba step (st lo hi)=some (out i)/\lo0<=i/\i<=hi0/\(lo0<i->q (i-1)=true)/\(i<hi0->q i=false) from
  H _ lo0 hi0 (Nat.le_refl _) (Nat.le_refl _) h0 (Nat.le_refl _) (fun h=>by omega) (fun h=>by omega)
 intro n
 induction n with
 | zero=>
  intro lo hi hn h1 h2 h3 h4 h5
  have:hi=lo:=by omega
  subst this
  exact ⟨hi,aag (hend hi h1 h3),h1,h3,h4,h5⟩
 | succ n ih=>
  intro lo hi hn h1 h2 h3 h4 h5
  rcases Nat.lt_or_ge lo hi with hlt | hge
  ·have hs:=hgo lo hi h1 hlt h3
   cases hq:q ((lo+hi) / 2) with
   | true=>
    rw [hq] at hs
    rw [aas hs]
    exact ih ((lo+hi) / 2+1) hi (by omega) (by omega) (by omega) h3 (fun _=>by rw [Nat.add_sub_cancel];exact hq) h5
   | false=>
    rw [hq] at hs
    rw [aas hs]
    exact ih lo ((lo+hi) / 2) (by omega) h1 (by omega) (by omega) h4 (fun _=>hq)
  ·have:hi=lo:=by omega
   subst this
   exact ⟨hi,aag (hend hi h1 h3),h1,h3,h4,h5⟩
theorem half {i j:Nat} (h:i+j<=4611686018427387904):IntKind.wrap .i64 ((IntKind.wrap .u64 (IntKind.wrap .i64 ((i:Int)+(j:Int)))).fdiv (2^(min (1:Int).toNat (IntKind.bits .u64))))=(((i+j) / 2:Nat):Int):=by
 rw [aoq (by omega)]
 have e:IntKind.wrap .u64 ((i+j:Nat):Int)=((i+j:Nat):Int):=IntWalk.u64_in _ ⟨by omega,by omega⟩
 rw [e,show (2^(min (1:Int).toNat (IntKind.bits .u64)):Int)=2 by decide,Int.fdiv_eq_ediv_of_nonneg _ (by decide),show ((i+j:Nat):Int) / 2=(((i+j) / 2:Nat):Int) by omega]
 exact aa5 (by omega)
end Go.Ab
