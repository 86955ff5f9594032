/- Changes in order: the program's Less is the specification's. -/
import Derived.Test.YthokbeimbdnnoaaGreatDoorPVld3T
import Derived.Sort.Walk0
set_option linter.unusedVariables false
set_option linter.unusedSimpArgs false
set_option linter.unnecessarySimpa false
namespace Go.Ab
open Go
set_option maxRecDepth 100000
def cI (x y:Int):Int:=if x<y then -1 else if y<x then 1 else 0
def cB (x y:Bq):Int:=if x<y then -1 else if y<x then 1 else 0
def or2 (x y:Int):Int:=if x=0 then y else x
def orL:List Int->Int
 | []=>0
 | x::r=>or2 x (orL r)
def chK (a:PV):Int:=(a.fld 0).asInt
def chD (a:PV):Bq:=(a.fld 1).asStr
def chN (a:PV):Int:=(a.fld 2).asInt
def chO (a:PV):Bq:=(a.fld 3).asStr
def chW (a:PV):Bq:=(a.fld 4).asStr
def grp (k:Int):Int:=if 1<=k/\k<=10 then 1 else if 11<=k/\k<=16 then 2 else 3
def mth (a:PV):Bq:=if chK a=19 then chO a else if chK a=20 then chW a else if chK a=21\/chK a=22 then (Lib.cut (chO a) [58,32]).1 else []
def cmpC (a b:PV):Int:=orL [cI (grp (chK a)) (grp (chK b)),cB (chD a) (chD b),cI (chN a) (chN b),cB (mth a) (mth b),cI (chK a) (chK b),cB (chO a) (chO b),cB (chW a) (chW b)]
theorem a5c (x y:Int):F124 0 x y=some (cI x y):=by
 have z:F189 0 x=some false:=by simp [F189]
 have H:F189 0 y=some false:=by simp [F189]
 simp only [F124,z,H,Ae,Ah,cI];by_cases h:x<y
 ·simp [h]
 ·by_cases o:y<x
  ·simp [h,o]
  ·simp [h,o]
theorem a7w {x y:Bq} (h:x<y):x≠y:=λe=>by subst e;exact absurd h (List.lt_irrefl x)
theorem triB (x y:Bq):x<y\/x=y\/y<x:=by
 by_cases h:x<y
 ·exact Or.inl h
 ·by_cases o:y<x
  ·exact Or.inr (Or.inr o)
  ·exact Or.inr (Or.inl (List.le_antisymm (List.not_lt.1 o) (List.not_lt.1 h)))
theorem a5d (x y:Bq):F126 0 x y=some (cB x y):=by
 have z:F190 0 x=some false:=by simp [F190]
 have H:F190 0 y=some false:=by simp [F190]
 simp only [F126,z,H,Ae,Ah,cB,Go.Proofs.bytesLess_eq];by_cases h:x<y
 ·simp [h]
 ·by_cases o:x=y
  ·subst o;simp [List.lt_irrefl]
  ·have:y<x:=by
    rcases triB x y with q | q | q
    ·exact absurd q h
    ·exact absurd q o
    ·exact q
   have I:(x==y)=false:=by simpa using o
   simp [h,I,this]
theorem a1m (k:Int):F125 0 k=some (grp k):=by simp only [F125,grp,ge_iff_le];by_cases h:1<=k<;>by_cases o:k<=10<;>by_cases z:11<=k<;>by_cases H:k<=16<;>simp [h,o,z,H]
theorem a6f:∀ (r h:List PV),(h++r).length<=100000000->∃ z,aba (S123_4step 0) ((0:Int),h++r,((h++r).length:Int),(h.length:Int))=some z/\(z=.inl (orL (r.map PV.asInt))\/z=.inr (orL (r.map PV.asInt))):=by
 intro r;induction r with
 | nil=>intro h M;refine ⟨.inr 0,aai ?_,Or.inr rfl⟩;simp [S123_4step,S123_4]
 | cons x r ih=>
  intro h M;have o:h.length<(h++x::r).length:=by simp
  have I:decide ((h.length:Int)<((h++x::r).length:Int))=true:=Ag (by omega);have J:(h++x::r).getD ((h.length:Int)).toNat .bad=x:=by simp
  by_cases H:x.asInt=0
  ·obtain ⟨z,O,Z⟩:=ih (h++[x]) (by simpa using M);refine ⟨z,?_,?_⟩
   ·rw [aat (x1:=((0:Int),h++x::r,((h++x::r).length:Int),((h++[x]).length:Int)))]
    ·simpa using O
    ·simp only [S123_4step,S123_4,I,Af,aab,Ag o,J,H,bne_self_eq_false,Ah];rw [aaz h.length (by omega)];simp
   ·have e:orL ((x::r).map PV.asInt)=orL (r.map PV.asInt):=by simp [orL,or2,H]
    rw [e];exact Z
  ·refine ⟨.inl x.asInt,aai ?_,Or.inl ?_⟩
   ·have hb:(x.asInt != 0)=true:=by simpa using H
    simp only [S123_4step,S123_4,I,Af,aab,Ag o,J,hb]
   ·simp [orL,or2,H]
theorem or_eq (l:List PV) (h:l.length<=100000000):F123 0 l=some (orL (l.map PV.asInt)):=by obtain ⟨z,o,H⟩:=a6f l [] (by simpa using h);simp only [A9,Ao,Int.ofNat_zero] at o;unfold F123;show (aba _ _).bind _=_;have o:aba (S123_4step 0) ((0:Int),l,(l.length:Int),(0:Int))=some z:=o;rw [o];rcases H with rfl | rfl<;>rfl
theorem aqz (a:PV) (h:(chO a).length<=100000000):F127 0 a=some (mth a):=by
 have J:Lcut 0 (chO a) [58,32]=some (Lib.cut (chO a) [58,32]):=by unfold Lcut;rw [Ag (by omega)];rfl
 unfold chO at J;simp only [F127,mth,chK,chO,chW,J,Ae];by_cases o:(a.fld 0).asInt=19
 ·simp [o]
 ·by_cases z:(a.fld 0).asInt=20
  ·simp [z]
  ·by_cases H:(a.fld 0).asInt=21
   ·simp [H]
   ·have M:((a.fld 0).asInt==19)=false:=by simpa using o
    have O:((a.fld 0).asInt==20)=false:=by simpa using z
    have Z:((a.fld 0).asInt==21)=false:=by simpa using H
    by_cases I:(a.fld 0).asInt=22
    ·simp [I]
    ·have b4:((a.fld 0).asInt==22)=false:=by simpa using I
     simp [M,O,Z,b4,o,z,H,I]
theorem avi (a b:PV) (h:(chO a).length<=100000000) (o:(chO b).length<=100000000):F65 0 a b=some (cmpC a b):=by simp only [F65,a1m,a5c,a5d,aqz a h,aqz b o,Ae];rw [or_eq _ (by simp)];rfl
structure Lin {α:Type} (c:α->α->Int):Prop where
 sgn:∀ x y,c x y=-1\/c x y=0\/c x y=1
 anti:∀ x y,c y x=- c x y
 tr:∀ x y z,c x y<=0->c y z<=0->c x z<=0/\(c x z=0->c x y=0/\c y z=0)
theorem Lin.cI:Lin Ab.cI:=by
 refine ⟨λx y=>?_,λx y=>?_,λx y z o H=>?_⟩
 ·unfold Ab.cI;split<;>(try split)<;>simp
 ·unfold Ab.cI;split<;>split<;>(try split)<;>omega
 ·unfold Ab.cI at*;refine ⟨?_,λh=>?_⟩
  ·split at o<;>split at H<;>(try split at o)<;>(try split at H)<;>split<;>(try split)<;>omega
  ·have e:x=z:=by
    split at h
    ·omega
    ·split at h<;>omega
   have I:¬y<x:=by intro q;rw [if_neg (by omega),if_pos q] at o;omega
   have J:¬z<y:=by intro q;rw [if_neg (by omega),if_pos q] at H;omega
   exact ⟨by rw [if_neg (by omega),if_neg I],by rw [if_neg (by omega),if_neg J]⟩
theorem cB_le {x y:Bq}:cB x y<=0 ↔ ¬y<x:=by
 unfold cB;by_cases h:x<y
 ·simp [h,List.lt_asymm h]
 ·by_cases o:y<x<;>simp [h,o]
theorem cB_zero {x y:Bq}:cB x y=0 ↔ x=y:=by
 unfold cB;by_cases h:x<y
 ·simp [h,a7w h]
 ·by_cases o:y<x
  ·simp [h,o,(a7w o).symm]
  ·rcases triB x y with q | q | q
   ·exact absurd q h
   ·subst q;simp [List.lt_irrefl]
   ·exact absurd q o
theorem Lin.cB:Lin Ab.cB:=by
 refine ⟨λx y=>?_,λx y=>?_,λx y z I J=>?_⟩
 ·unfold Ab.cB;split<;>(try split)<;>simp
 ·unfold Ab.cB;by_cases h:x<y
  ·simp [h,List.lt_asymm h]
  ·by_cases M:y<x<;>simp [h,M]
 ·rw [cB_le] at I J;have o:=List.not_lt.1 I;have H:=List.not_lt.1 J;refine ⟨cB_le.2 (List.not_lt.2 (List.le_trans o H)),λh=>?_⟩;rw [cB_zero] at h;subst h;have:=List.le_antisymm o H;subst this;exact ⟨cB_zero.2 rfl,cB_zero.2 rfl⟩
theorem Lin.comap {H o:Type}{c:o->o->Int} (h:Lin c) (f:H->o):Lin (λx y=>c (f x) (f y)):=⟨λx y=>h.sgn _ _,λx y=>h.anti _ _,λx y z=>h.tr _ _ _⟩
theorem Lin.lex {I:Type}{c d:I->I->Int} (h:Lin c) (k:Lin d):Lin (λx y=>or2 (c x y) (d x y)):=by
 refine ⟨λx y=>?_,λx y=>?_,λx y z o H=>?_⟩
 ·unfold or2;split
  ·exact k.sgn x y
  ·exact h.sgn x y
 ·have:=h.anti x y;have:=k.anti x y;unfold or2;split<;>split<;>omega
 ·have s1:=h.sgn x y;have s2:=h.sgn y z;have s3:=h.sgn x z;have O:c x y<=0:=by unfold or2 at o;split at o<;>omega
  have Z:c y z<=0:=by unfold or2 at H;split at H<;>omega
  obtain ⟨t1,t2⟩:=h.tr x y z O Z;unfold or2 at o H ⊢;by_cases e:c x z=0
  ·obtain ⟨J,M⟩:=t2 e;rw [if_pos J] at o ⊢;rw [if_pos M] at H ⊢;rw [if_pos e];exact k.tr x y z o H
  ·rw [if_neg e];exact ⟨t1,λh=>absurd h e⟩
theorem Lin.one {h:Type}:Lin (λ_ _:h=>(0:Int)):=⟨λ_ _=>Or.inr (Or.inl rfl),λ_ _=>rfl,λ_ _ _ _ _=>⟨Int.le_refl _,λ_=>⟨rfl,rfl⟩⟩⟩
theorem Lin.cmpC:Lin Ab.cmpC:=
 (Lin.cI.comap λa=>grp (chK a)).lex<|(Lin.cB.comap chD).lex<|(Lin.cI.comap chN).lex<|(Lin.cB.comap mth).lex<|(Lin.cI.comap chK).lex<|(Lin.cB.comap chO).lex<|(Lin.cB.comap chW).lex Lin.one
theorem cI_zero {x y:Int}:cI x y=0 ↔ x=y:=by
 unfold cI;split
 ·simp;omega
 ·split
  ·simp;omega
  ·simp;omega
def ap9 (a b:PV):Bool:=chK a==chK b&&chD a==chD b&&chN a==chN b&&chO a==chO b&&chW a==chW b
theorem axs (a b:PV):cmpC a b=0 ↔ ap9 a b=true:=by
 have J:∀ x y:Int,or2 x y=0 ↔ x=0/\y=0:=by intro x y;unfold or2;split<;>omega
 simp only [cmpC,orL,J,cI_zero,cB_zero,ap9,Ai,beq_iff_eq];constructor
 ·rintro ⟨_,H,I,_,h,o,z,_⟩;exact ⟨⟨⟨⟨h,H⟩,I⟩,o⟩,z⟩
 ·rintro ⟨⟨⟨⟨h,H⟩,I⟩,o⟩,z⟩;exact ⟨by rw [h],H,I,by unfold mth;rw [h,o,z],h,o,z,trivial⟩
theorem a4z (x y:Bq):decide (cB x y<0)=Op.bytesLess x y:=by rw [Go.Proofs.bytesLess_eq];unfold cB;by_cases h:x<y<;>by_cases o:y<x<;>simp [h,o]
end Go.Ab
namespace Go.Ab
open Go
set_option maxRecDepth 100000
theorem aes {U V:List PV}{x d:PV}{i:Nat} (h:i=U.length):(U++x::V).getD i d=x:=by subst h;simp [List.getD]
theorem apm {U V:List PV}{x y:PV}{i:Nat} (h:i=U.length):(U++x::V).set i y=U++y::V:=by subst h;simp
def swp (xs:List PV) (i j:Nat):List PV:=(xs.set j (xs.getD i .bad)).set i (xs.getD j .bad)
theorem az7 {U V W:List PV}{x y:PV}{i j:Nat} (h:i=U.length) (H:j=U.length+1+V.length):swp (U++x::(V++y::W)) i j=U++y::(V++x::W):=by
 have e:∀ z:PV,U++x::(V++z::W)=(U++x::V)++z::W:=λz=>by simp
 have o:j=(U++x::V).length:=by simp<;>omega
 unfold swp;rw [aes h,e y,aes o,apm o,<-e x,apm h]
theorem au3 {U V W:List PV}{x y:PV}{i j:Nat} (h:i=U.length) (H:j=U.length+1+V.length):swp (U++x::(V++y::W)) j i=U++y::(V++x::W):=by
 have e:∀ w z:PV,U++w::(V++z::W)=(U++w::V)++z::W:=λw z=>by simp
 have o:∀ w:PV,j=(U++w::V).length:=λw=>by simp<;>omega
 unfold swp;rw [aes h,e x y,aes (o x),<-e x y,apm h,e y y,apm (o y),<-e y x]
abbrev leC (x y:PV):Prop:=cmpC x y<=0
abbrev Srt (xs:List PV):Prop:=xs.Pairwise leC
def OkL (xs:List PV):Prop:=xs.length<=100000000/\∀ x,x∈xs->(chO x).length<=100000000
theorem OkL.perm {xs ys:List PV} (h:OkL xs) (p:ys.Perm xs):OkL ys:=⟨by rw [p.length_eq];exact h.1,λx o=>h.2 x (p.mem_iff.1 o)⟩
theorem ac6 {x y z:PV} (h:leC x y) (o:leC y z):leC x z:=(Lin.cmpC.tr x y z h o).1
theorem aff {x y:PV} (h:¬cmpC x y<0):leC y x:=by have:=Lin.cmpC.anti x y;unfold leC;omega
theorem OkL.get {xs:List PV} (h:OkL xs) {i:Nat} (o:i<xs.length):(chO (xs.getD i .bad)).length<=100000000:=by rw [aaf o];exact h.2 _ (List.getElem_mem o)
theorem auc {xs:List PV} (h:OkL xs) {i j:Nat} (o:i<xs.length) (z:j<xs.length):F65 0 (xs.getD i .bad) (xs.getD j .bad)=some (cmpC (xs.getD i .bad) (xs.getD j .bad)):=avi _ _ (h.get o) (h.get z)
theorem ayc (c:Bool):imp false c=true:=by cases c<;>rfl
theorem a1q (c:Bool):imp true c=c:=by cases c<;>rfl
theorem a0l {j:Nat} (h:1<=j) (o:j<=9223372036854775807):IntKind.wrap .i64 ((j:Int)-1)=((j-1:Nat):Int):=by rw [show (j:Int)-1=((j-1:Nat):Int) by omega];exact aa9 (by omega)
theorem ao0 {a b i j:Nat}{xs:List PV} (M:OkL xs) (J:j<xs.length):S216_5step 0 ((),(a:Int),(b:Int),(),(i:Int),(j:Int),xs)=
 some (if a<j/\cmpC (xs.getD j .bad) (xs.getD (j-1) .bad)<0 then .inl ((),(a:Int),(b:Int),(),(i:Int),((j-1:Nat):Int),swp xs (j-1) j) else .inr ((),(a:Int),(b:Int),(),(i:Int),xs)):=by
 have O:=M.1
 simp only [S216_5step,S216_5]
 by_cases o:a<j
 ·have I:decide ((j:Int)>(a:Int))=true:=Ag (by omega);have z:j-1<xs.length:=by omega
  simp only [I,a0l (show 1<=j by omega) (by omega),aab,Aj,Ag J,Ag z,a1q,Af,auc M J z,Ae,List.length_set,o,true_and];by_cases H:cmpC (xs.getD j .bad) (xs.getD (j-1) .bad)<0
  ·rw [if_pos H,Ag H];rfl
  ·rw [if_neg H,An H];rfl
 ·have I:decide ((j:Int)>(a:Int))=false:=An (by omega);rw [if_neg (λh=>o h.1)];simp only [I,ayc,Af,Ah,Ae]
theorem ayf {a b i:Nat}{U:List PV}{x:PV} (ha:a=U.length):∀ (R B:List PV),Srt R.reverse->OkL (U++(R.reverse++x::B))->
 ∃ A1 A2,R.reverse=A1++A2/\(∀ y,y∈A1->leC y x)/\(∀ y,y∈A2->leC x y)/\
  aba (S216_5step 0) ((),(a:Int),(b:Int),(),(i:Int),((U.length+R.length:Nat):Int),U++(R.reverse++x::B))=some ((),(a:Int),(b:Int),(),(i:Int),U++(A1++x::(A2++B))):=by
 intro R
 induction R with
 | nil=>
  intro B _ J
  refine ⟨[],[],rfl,by simp,by simp,aai ?_⟩
  rw [ao0 J (by simp),if_neg (λh=>by simp at h;omega)]
  try rfl
 | cons y R ih=>
  intro B O J
  have e:U++((y::R).reverse++x::B)=(U++R.reverse)++y::([]++x::B):=by simp
  have hj:U.length+(y::R).length=(U++R.reverse).length+1+([]:List PV).length:=by simp<;>omega
  have H:U.length+(y::R).length<(U++((y::R).reverse++x::B)).length:=by simp<;>omega
  have Z:(U++((y::R).reverse++x::B)).getD (U.length+(y::R).length) .bad=x:=by rw [e,show (U++R.reverse)++y::([]++x::B)=(U++R.reverse++[y])++x::B by simp];exact aes (by simp<;>omega)
  have hy:(U++((y::R).reverse++x::B)).getD (U.length+(y::R).length-1) .bad=y:=by rw [e];exact aes (by simp)
  have I:Srt R.reverse/\∀ z,z∈R.reverse->leC z y:=by rw [List.reverse_cons,Srt,List.pairwise_append] at O;exact ⟨O.1,λz o=>O.2.2 z o y (by simp)⟩
  by_cases M:cmpC x y<0
  ·obtain ⟨A1,A2,q1,q2,q3,q4⟩:=ih (y::B) I.1 (J.perm (by
    rw [e];refine (List.Perm.append_left U ?_).trans (by rw [Ap]);exact List.Perm.append_left _ (List.Perm.swap y x B)))
   refine ⟨A1,A2++[y],by rw [List.reverse_cons,q1,Ap],q2,λz o=>?_,?_⟩
   ·rcases Bk.1 o with h | h
    ·exact q3 z h
    ·rw [List.mem_singleton] at h;subst h;unfold leC;omega
   ·rw [aat (x1:=((),(a:Int),(b:Int),(),(i:Int),((U.length+R.length:Nat):Int),U++(R.reverse++x::(y::B))))]
    ·rw [q4];simp
    ·rw [ao0 J H,Z,hy,if_pos ⟨by simp<;>omega,M⟩];rw [e,az7 (by simp) hj];simp
  ·refine ⟨(y::R).reverse,[],by simp,λz o=>?_,by simp,aai ?_⟩
   ·rw [List.reverse_cons] at o;rcases Bk.1 o with h | h
    ·exact ac6 (I.2 z h) (aff M)
    ·rw [List.mem_singleton] at h;subst h;exact aff M
   ·rw [ao0 J H,Z,hy,if_neg (λh=>M h.2)];try rfl
theorem ayg {a b:Nat}{U Q:List PV} (ha:a=U.length):∀ (T A:List PV),Srt A->OkL (U++(A++(T++Q)))->b=U.length+A.length+T.length->
 ∃ z,z.Perm (A++T)/\Srt z/\aba (S216_2step 0) ((),(a:Int),(b:Int),(),((U.length+A.length:Nat):Int),U++(A++(T++Q)))=some (U++(z++Q)):=by
 intro T
 induction T with
 | nil=>
  intro A o I H
  refine ⟨A,by simp,o,aai ?_⟩
  have M:decide (((U.length+A.length:Nat):Int)<(b:Int))=false:=An (by simp at H;omega)
  simp only [S216_2step,S216_2,M,Ah]
  simp
 | cons t T ih=>
  intro A o I H
  have M:decide (((U.length+A.length:Nat):Int)<(b:Int))=true:=Ag (by simp at H;omega)
  obtain ⟨A1,A2,J,q2,q3,q4⟩:=ayf (a:=a) (b:=b) (i:=U.length+A.length) (U:=U) (x:=t) ha A.reverse (T++Q) (by rw [List.reverse_reverse];exact o) (by rw [List.reverse_reverse];exact I)
  rw [List.reverse_reverse] at J q4
  rw [List.length_reverse] at q4
  have O:Srt (A1++t::A2):=by
   rw [J,Srt,List.pairwise_append] at o;rw [Srt,List.pairwise_append];refine ⟨o.1,List.pairwise_cons.2 ⟨q3,o.2.1⟩,λx hx y Z=>?_⟩;rcases Bl.1 Z with rfl | Z
   ·exact q2 x hx
   ·exact o.2.2 x hx y Z
  have pA:(A1++t::A2).Perm (A++[t]):=by rw [J];refine List.perm_middle.trans ?_;exact (List.perm_append_comm (l₁:=[t]) (l₂:=A1++A2))
  have aa:OkL (U++((A1++t::A2)++(T++Q))):=I.perm (by refine List.Perm.append_left U ?_;refine (List.Perm.append_right (T++Q) pA).trans ?_;simp)
  have h:(A1++t::A2).length=A.length+1:=by rw [J];simp;omega
  obtain ⟨z,r1,r2,r3⟩:=ih (A1++t::A2) O aa (by rw [h,H];simp;omega)
  refine ⟨z,r1.trans ?_,r2,?_⟩
  ·refine (List.Perm.append_right T pA).trans ?_;simp
  ·have hl:=I.1;rw [aat (x1:=((),(a:Int),(b:Int),(),((U.length+(A1++t::A2).length:Nat):Int),U++((A1++t::A2)++(T++Q))))]
   ·exact r3
   ·simp only [S216_2step,S216_2,M,Af];have ab:aag 0 (S216_5step 0) ((),(a:Int),(b:Int),(),((U.length+A.length:Nat):Int),((U.length+A.length:Nat):Int),U++(A++(t::T++Q)))=some ((),(a:Int),(b:Int),(),((U.length+A.length:Nat):Int),U++(A1++t::(A2++(T++Q)))):=q4;rw [ab,Ae];have w:IntKind.wrap .i64 (((U.length+A.length:Nat):Int)+1)=((U.length+(A1++t::A2).length:Nat):Int):=by
     rw [h];have:U.length+A.length<=100000000:=by simp at hl;omega
     rw [aaz _ (Nat.le_trans this (by decide))];rfl
    simp only [w];simp
theorem aoz {a b:Nat}{U Q S:List PV} (z:a=U.length) (I:b=U.length+S.length) (J:OkL (U++(S++Q))):
 ∃ h,h.Perm S/\Srt h/\F216 0 () (a:Int) (b:Int) () (U++(S++Q))=some (U++(h++Q)):=by
 have O:=J.1
 have H:a<=100000000:=by subst z;simp at O;omega
 unfold F216
 show ∃ h,_/\_/\(aba _ _).bind _=_
 rw [aaz a (Nat.le_trans H (by decide))]
 cases S with
 | nil=>
  refine ⟨[],List.Perm.refl _,List.Pairwise.nil,?_⟩
  rw [aai (y:=U++([]++Q))]
  ·rfl
  ·have M:decide (((a+1:Nat):Int)<(b:Int))=false:=An (by simp at I;omega);simp only [S216_2step,S216_2,M,Ah]
 | cons s T=>
  obtain ⟨h,Z,r2,o⟩:=ayg (a:=a) (b:=b) (U:=U) (Q:=Q) z T [s] (by simp) (by simpa using J) (by simp at I ⊢;omega)
  refine ⟨h,Z,r2,?_⟩
  have e:((U.length+[s].length:Nat):Int)=((a+1:Nat):Int):=by rw [z];rfl
  rw [e] at o
  have o:aba (S216_2step 0) ((),(a:Int),(b:Int),(),((a+1:Nat):Int),U++(s::T++Q))=some (U++(h++Q)):=o
  rw [o]
  rfl
end Go.Ab
namespace Go.Ab
open Go
set_option maxRecDepth 100000
theorem apw {a i:Nat} (h:a+i<=9223372036854775807):IntKind.wrap .i64 ((a:Int)+(i:Int))=((a+i:Nat):Int):=by rw [show (a:Int)+(i:Int)=((a+i:Nat):Int) by omega];exact aa9 h
theorem ahx {a i:Nat} (h:i<=a) (o:a<=9223372036854775807):IntKind.wrap .i64 ((a:Int)-(i:Int))=((a-i:Nat):Int):=by rw [show (a:Int)-(i:Int)=((a-i:Nat):Int) by omega];exact aa9 (by omega)
theorem a8g {a b n i:Nat}{xs:List PV} (I:xs.length<=100000000) (H:i<n) (h:a+i<xs.length) (o:b+i<xs.length):
 S285_2step 0 ((),(a:Int),(b:Int),(n:Int),(i:Int),xs)=some (.inl ((),(a:Int),(b:Int),(n:Int),((i+1:Nat):Int),swp xs (b+i) (a+i))):=by
 have z:decide ((i:Int)<(n:Int))=true:=Ag (by omega)
 simp only [S285_2step,S285_2,z,apw (show a+i<=9223372036854775807 by omega),apw (show b+i<=9223372036854775807 by omega),aaz i (by omega),aab,Aj,Ag h,Ag o,Af,List.length_set,swp]
theorem swr {a b n:Nat}:∀ (X Y U V W:List PV) (i:Nat),X.length=Y.length->a+i=U.length->b+i=U.length+X.length+V.length->i+X.length=n->(U++(X++(V++(Y++W)))).length<=100000000->
 aba (S285_2step 0) ((),(a:Int),(b:Int),(n:Int),(i:Int),U++(X++(V++(Y++W))))=some (U++(Y++(V++(X++W)))):=by
 intro X
 induction X with
 | nil=>
  intro Y U V W i h H I z o
  have:Y=[]:=List.length_eq_zero_iff.1 (by simpa using h.symm)
  subst this
  refine aai ?_
  have Z:decide ((i:Int)<(n:Int))=false:=An (by simp at z;omega)
  simp only [S285_2step,S285_2,Z,Ah]
 | cons x X ih=>
  intro Y U V W i h H I z o
  cases Y with
  | nil=>simp at h
  | cons y Y=>
   simp only [Am] at h I z
   have e:U++(x::X++(V++(y::Y++W)))=U++x::((X++V)++y::(Y++W)):=by simp
   have M:a+i<(U++(x::X++(V++(y::Y++W)))).length:=by simp;omega
   have O:b+i<(U++(x::X++(V++(y::Y++W)))).length:=by simp;omega
   have J:swp (U++(x::X++(V++(y::Y++W)))) (b+i) (a+i)=(U++[y])++(X++((V++[x])++(Y++W))):=by rw [e,au3 H (by simp;omega)];simp
   rw [aat (a8g o (by omega) M O),J,ih Y (U++[y]) (V++[x]) W (i+1) (by omega) (by simp;omega) (by simp;omega) (by omega) (by simp at o ⊢;omega)]
   simp
theorem aj5 {a b n:Nat}{X Y U V W:List PV} (o:X.length=Y.length) (H:a=U.length) (I:b=U.length+X.length+V.length) (J:n=X.length) (z:(U++(X++(V++(Y++W)))).length<=100000000):
 F285 0 () (a:Int) (b:Int) (n:Int) () (U++(X++(V++(Y++W))))=some (U++(Y++(V++(X++W)))):=by
 unfold F285
 show (aba _ _).bind _=_
 have h:=swr (a:=a) (b:=b) (n:=n) X Y U V W 0 o (by omega) (by omega) (by omega) z
 have h:aba (S285_2step 0) ((),(a:Int),(b:Int),(n:Int),(0:Int),U++(X++(V++(Y++W))))=some (U++(Y++(V++(X++W)))):=h
 rw [h]
 rfl
theorem rot {m:Nat}:∀ (k:Nat) (X Y P Q:List PV),X.length+Y.length<=k->X≠[]->Y≠[]->m=P.length+X.length->(P++(X++(Y++Q))).length<=100000000->
 ∃ (i:Nat) (ys:List PV),aba (S251_3step 0) ((),(m:Int),(),(X.length:Int),(Y.length:Int),P++(X++(Y++Q)))=some ((),(m:Int),(),(i:Int),ys)/\
  F285 0 () (IntKind.wrap .i64 ((m:Int)-(i:Int))) (m:Int) (i:Int) () ys=some (P++(Y++(X++Q))):=by
 intro k
 induction k with
 | zero=>
  intro X Y P Q h hx
  cases X with
  | nil=>exact absurd rfl hx
  | cons=>simp at h
 | succ k ih=>
  intro X Y P Q h hx hy hm hl
  have aj:0<X.length:=List.length_pos_iff.2 hx
  have ak:0<Y.length:=List.length_pos_iff.2 hy
  have ag:=hl
  simp only [Ak] at ag
  rcases Nat.lt_trichotomy X.length Y.length with ai | af | ah
  ·have o:((X.length:Int) != (Y.length:Int))=true:=by simp;omega
   have J:decide ((X.length:Int)>(Y.length:Int))=false:=An (by omega);have eY:Y=Y.take (Y.length-X.length)++Y.drop (Y.length-X.length):=(List.take_append_drop _ _).symm;generalize ad:Y.take (Y.length-X.length)=Z at eY;generalize ae:Y.drop (Y.length-X.length)=Y2 at eY;have H:Z.length=Y.length-X.length:=by rw [<-ad,List.length_take];omega
   have I:Y2.length=X.length:=by rw [<-ae,Be];omega
   have z:=aj5 (a:=m-X.length) (b:=m+Y.length-X.length) (n:=X.length) (X:=X) (Y:=Y2) (U:=P) (V:=Z) (W:=Q) I.symm (by omega) (by omega) rfl (by simp;omega);have e1:P++(X++(Z++(Y2++Q)))=P++(X++(Y++Q)):=by rw [eY];simp
   rw [e1] at z;obtain ⟨i,ys,r1,r2⟩:=ih Y2 Z P (X++Q) (by omega) (by intro e;rw [e] at I;simp at I;omega) (by intro e;rw [e] at H;simp at H;omega) (by omega) (by simp;omega);refine ⟨i,ys,?_,?_⟩
   ·rw [aat (x1:=((),(m:Int),(),(Y2.length:Int),(Z.length:Int),P++(Y2++(Z++(X++Q)))))]
    ·exact r1
    ·simp only [S251_3step,S251_3,o,J,Af,Ah,ahx (show X.length<=m by omega) (by omega),apw (show m+Y.length<=9223372036854775807 by omega),ahx (show X.length<=m+Y.length by omega) (by omega),z,Ae,ahx (show X.length<=Y.length by omega) (by omega)];rw [H,I]
   ·rw [r2,eY];simp
  ·have o:((X.length:Int) != (Y.length:Int))=false:=by simp;omega
   refine ⟨X.length,P++(X++(Y++Q)),aai ?_,?_⟩
   ·simp only [S251_3step,S251_3,o,Ah]
   ·rw [ahx (show X.length<=m by omega) (by omega)];have:=aj5 (a:=m-X.length) (b:=m) (n:=X.length) (X:=X) (Y:=Y) (U:=P) (V:=[]) (W:=Q) af (by omega) (by simp;omega) rfl (by simpa using hl);simpa using this
  ·have o:((X.length:Int) != (Y.length:Int))=true:=by simp;omega
   have J:decide ((X.length:Int)>(Y.length:Int))=true:=Ag (by omega);have eX:X=X.take Y.length++X.drop Y.length:=(List.take_append_drop _ _).symm;generalize aa:X.take Y.length=M at eX;generalize ab:X.drop Y.length=O at eX;have H:M.length=Y.length:=by rw [<-aa,List.length_take];omega
   have I:O.length=X.length-Y.length:=by rw [<-ab,Be]
   have z:=aj5 (a:=m-X.length) (b:=m) (n:=Y.length) (X:=M) (Y:=Y) (U:=P) (V:=O) (W:=Q) H (by omega) (by omega) H.symm (by simp;omega);have e1:P++(M++(O++(Y++Q)))=P++(X++(Y++Q)):=by rw [eX];simp
   rw [e1] at z;obtain ⟨i,ys,r1,r2⟩:=ih O M (P++Y) Q (by omega) (by intro e;rw [e] at I;simp at I;omega) (by intro e;rw [e] at H;simp at H;omega) (by simp;omega) (by simp;omega);refine ⟨i,ys,?_,?_⟩
   ·rw [aat (x1:=((),(m:Int),(),(O.length:Int),(M.length:Int),(P++Y)++(O++(M++Q))))]
    ·exact r1
    ·simp only [S251_3step,S251_3,o,J,Af,ahx (show X.length<=m by omega) (by omega),z,Ae,ahx (show Y.length<=X.length by omega) (by omega)];rw [H,I,Ap]
   ·rw [r2,eX];simp
theorem azq {a m b:Nat}{X Y P Q:List PV} (H:X≠[]) (I:Y≠[]) (O:a=P.length) (z:m=P.length+X.length) (Z:b=m+Y.length) (o:(P++(X++(Y++Q))).length<=100000000):
 F251 0 () (a:Int) (m:Int) (b:Int) () (P++(X++(Y++Q)))=some (P++(Y++(X++Q))):=by
 have h:=o
 simp only [Ak] at h
 obtain ⟨i,ys,J,M⟩:=rot (m:=m) _ X Y P Q (Nat.le_refl _) H I z o
 unfold F251
 rw [ahx (show a<=m by omega) (by omega),ahx (show m<=b by omega) (by omega),show m-a=X.length by omega,show b-m=Y.length by omega]
 show (aba _ _).bind _=_
 rw [J]
 simp only [Ae,M]
theorem ar9 {σ τ:Type}{step:σ->Option (σ⊕τ)} (st:Nat->Nat->σ) (O:Nat->τ) (q:Nat->Bool) (lo0 hi0:Nat)
 (aa:∀ o z,lo0<=o->o<z->z<=hi0->step (st o z)=some (.inl (bif q ((o+z) / 2) then st ((o+z) / 2+1) z else st o ((o+z) / 2)))) (I:∀ o,lo0<=o->o<=hi0->step (st o o)=some (.inr (O o))) (h0:lo0<=hi0):
 ∃ i,aba step (st lo0 hi0)=some (O i)/\lo0<=i/\i<=hi0/\(lo0<i->q (i-1)=true)/\(i<hi0->q i=false):=by
 suffices H:∀ (n o z:Nat),z-o<=n->lo0<=o->o<=z->z<=hi0->(lo0<o->q (o-1)=true)->(z<hi0->q z=false)->∃ i,aba step (st o z)=some (O i)/\lo0<=i/\i<=hi0/\(lo0<i->q (i-1)=true)/\(i<hi0->q i=false) from
  H _ lo0 hi0 (Nat.le_refl _) (Nat.le_refl _) h0 (Nat.le_refl _) (λh=>by omega) (λh=>by omega)
 intro n
 induction n with
 | zero=>
  intro o z hn J h2 M Z h5
  have:z=o:=by omega
  subst this
  exact ⟨z,aai (I z J M),J,M,Z,h5⟩
 | succ n ih=>
  intro o z hn J h2 M Z h5
  rcases Nat.lt_or_ge o z with ab | ad
  ·have hs:=aa o z J ab M;cases hq:q ((o+z) / 2) with
   | true=>rw [hq] at hs;rw [aat hs];exact ih ((o+z) / 2+1) z (by omega) (by omega) (by omega) M (λ_=>by rw [Nat.add_sub_cancel];exact hq) h5
   | false=>rw [hq] at hs;rw [aat hs];exact ih o ((o+z) / 2) (by omega) J (by omega) (by omega) Z (λ_=>hq)
  ·have:z=o:=by omega
   subst this;exact ⟨z,aai (I z J M),J,M,Z,h5⟩
theorem half {i j:Nat} (h:i+j<=4611686018427387904):IntKind.wrap .i64 ((IntKind.wrap .u64 (IntKind.wrap .i64 ((i:Int)+(j:Int)))).fdiv (2^(min (1:Int).toNat (IntKind.bits .u64))))=(((i+j) / 2:Nat):Int):=by rw [apw (by omega)];have e:IntKind.wrap .u64 ((i+j:Nat):Int)=((i+j:Nat):Int):=IntWalk.u64_in _ ⟨by omega,by omega⟩;rw [e,show (2^(min (1:Int).toNat (IntKind.bits .u64)):Int)=2 by decide,Int.fdiv_eq_ediv_of_nonneg _ (by decide),show ((i+j:Nat):Int) / 2=(((i+j) / 2:Nat):Int) by omega];exact aa9 (by omega)
end Go.Ab
