/- Changes in order: the program's Less is the specification's. -/
import Derived.Test.YtjogoleiodbfdaaGreatDoorPVld3T
import Derived.Sort.Walk0
set_option linter.unusedVariables false
set_option linter.unusedSimpArgs false
set_option linter.unnecessarySimpa false
namespace Go.Ab
open Go
set_option maxRecDepth 100000
def cI (x y:Int):Int:=if x<y then -1 else if y<x then 1 else 0
def cB (x y:Bt):Int:=if x<y then -1 else if y<x then 1 else 0
def or2 (x y:Int):Int:=if x=0 then y else x
def orL:List Int->Int
 | []=>0
 | x::r=>or2 x (orL r)
def chK (a:PV):Int:=(a.fld 0).asInt
def chD (a:PV):Bt:=(a.fld 1).asStr
def chN (a:PV):Int:=(a.fld 2).asInt
def chO (a:PV):Bt:=(a.fld 3).asStr
def chW (a:PV):Bt:=(a.fld 4).asStr
def grp (k:Int):Int:=if 1<=k/\k<=10 then 1 else if 11<=k/\k<=16 then 2 else 3
def mth (a:PV):Bt:=if chK a=19 then chO a else if chK a=20 then chW a else if chK a=21\/chK a=22 then (Lib.cut (chO a) [58,32]).1 else []
def cmpC (a b:PV):Int:=orL [cI (grp (chK a)) (grp (chK b)),cB (chD a) (chD b),cI (chN a) (chN b),cB (mth a) (mth b),cI (chK a) (chK b),cB (chO a) (chO b),cB (chW a) (chW b)]
theorem a7u (x y:Int):F103 0 x y=some (cI x y):=by
 have H:F136 0 x=some false:=by simp [F136]
 have I:F136 0 y=some false:=by simp [F136]
 simp only [F103,H,I,Aa,Ah,cI];by_cases h:x<y
 ·simp [h]
 ·by_cases o:y<x
  ·simp [h,o]
  ·simp [h,o]
theorem bau {x y:Bt} (h:x<y):x≠y:=λe=>by subst e;exact absurd h (List.lt_irrefl x)
theorem triB (x y:Bt):x<y\/x=y\/y<x:=by
 by_cases h:x<y
 ·exact Or.inl h
 ·by_cases o:y<x
  ·exact Or.inr (Or.inr o)
  ·exact Or.inr (Or.inl (List.le_antisymm (List.not_lt.1 o) (List.not_lt.1 h)))
theorem a7v (x y:Bt):F105 0 x y=some (cB x y):=by
 have H:F137 0 x=some false:=by simp [F137]
 have I:F137 0 y=some false:=by simp [F137]
 simp only [F105,H,I,Aa,Ah,cB,Go.Proofs.bytesLess_eq];by_cases h:x<y
 ·simp [h]
 ·by_cases o:x=y
  ·subst o;simp [List.lt_irrefl]
  ·have:y<x:=by
    rcases triB x y with q | q | q
    ·exact absurd q h
    ·exact absurd q o
    ·exact q
   have J:(x==y)=false:=by simpa using o
   simp [h,J,this]
theorem a4i (k:Int):F104 0 k=some (grp k):=by simp only [F104,grp,ge_iff_le];by_cases h:1<=k<;>by_cases o:k<=10<;>by_cases H:11<=k<;>by_cases I:k<=16<;>simp [h,o,H,I]
theorem a9a:∀ (r h:List PV),(h++r).length<=100000000->∃ z,aa9 (S102_4step 0) ((0:Int),h++r,((h++r).length:Int),(h.length:Int))=some z/\(z=.inl (orL (r.map PV.asInt))\/z=.inr (orL (r.map PV.asInt))):=by
 intro r;induction r with
 | nil=>intro h M;refine ⟨.inr 0,aah ?_,Or.inr rfl⟩;simp [S102_4step,S102_4]
 | cons x r ih=>
  intro h M;have o:h.length<(h++x::r).length:=by simp
  have I:decide ((h.length:Int)<((h++x::r).length:Int))=true:=Ag (by omega);have J:(h++x::r).getD ((h.length:Int)).toNat .bad=x:=by simp
  by_cases H:x.asInt=0
  ·obtain ⟨z,O,Z⟩:=ih (h++[x]) (by simpa using M);refine ⟨z,?_,?_⟩
   ·rw [aaq (x1:=((0:Int),h++x::r,((h++x::r).length:Int),((h++[x]).length:Int)))]
    ·simpa using O
    ·simp only [S102_4step,S102_4,I,Af,aab,Ag o,J,H,bne_self_eq_false,Ah];rw [aax h.length (by omega)];simp
   ·have e:orL ((x::r).map PV.asInt)=orL (r.map PV.asInt):=by simp [orL,or2,H]
    rw [e];exact Z
  ·refine ⟨.inl x.asInt,aah ?_,Or.inl ?_⟩
   ·have hb:(x.asInt != 0)=true:=by simpa using H
    simp only [S102_4step,S102_4,I,Af,aab,Ag o,J,hb]
   ·simp [orL,or2,H]
theorem or_eq (l:List PV) (h:l.length<=100000000):F102 0 l=some (orL (l.map PV.asInt)):=by obtain ⟨z,o,H⟩:=a9a l [] (by simpa using h);simp only [Ba,Ao,Int.ofNat_zero] at o;unfold F102;show (aa9 _ _).bind _=_;have o:aa9 (S102_4step 0) ((0:Int),l,(l.length:Int),(0:Int))=some z:=o;rw [o];rcases H with rfl | rfl<;>rfl
theorem asa (a:PV) (h:(chO a).length<=100000000):F106 0 a=some (mth a):=by
 have M:Lcut 0 (chO a) [58,32]=some (Lib.cut (chO a) [58,32]):=by unfold Lcut;rw [Ag (by omega)];rfl
 unfold chO at M;simp only [F106,mth,chK,chO,chW,M,Aa];by_cases o:(a.fld 0).asInt=19
 ·simp [o]
 ·by_cases H:(a.fld 0).asInt=20
  ·simp [H]
  ·by_cases I:(a.fld 0).asInt=21
   ·simp [I]
   ·have O:((a.fld 0).asInt==19)=false:=by simpa using o
    have Z:((a.fld 0).asInt==20)=false:=by simpa using H
    have b3:((a.fld 0).asInt==21)=false:=by simpa using I
    by_cases J:(a.fld 0).asInt=22
    ·simp [J]
    ·have b4:((a.fld 0).asInt==22)=false:=by simpa using J
     simp [O,Z,b3,b4,o,H,I,J]
theorem axa (a b:PV) (h:(chO a).length<=100000000) (o:(chO b).length<=100000000):F62 0 a b=some (cmpC a b):=by simp only [F62,a4i,a7u,a7v,asa a h,asa b o,Aa];rw [or_eq _ (by simp)];rfl
structure Lin {α:Type} (c:α->α->Int):Prop where
 sgn:∀ x y,c x y=-1\/c x y=0\/c x y=1
 anti:∀ x y,c y x=- c x y
 tr:∀ x y z,c x y<=0->c y z<=0->c x z<=0/\(c x z=0->c x y=0/\c y z=0)
theorem Lin.cI:Lin Ab.cI:=by
 refine ⟨λx y=>?_,λx y=>?_,λx y z o H=>?_⟩
 ·unfold Ab.cI;split<;>(try split)<;>simp
 ·unfold Ab.cI;split<;>split<;>(try split)<;>omega
 ·unfold Ab.cI at*;refine ⟨?_,λh=>?_⟩
  ·split at o<;>split at H<;>(try split at o)<;>(try split at H)<;>split<;>(try split)<;>omega
  ·have e:x=z:=by
    split at h
    ·omega
    ·split at h<;>omega
   have I:¬y<x:=by intro q;rw [if_neg (by omega),if_pos q] at o;omega
   have J:¬z<y:=by intro q;rw [if_neg (by omega),if_pos q] at H;omega
   exact ⟨by rw [if_neg (by omega),if_neg I],by rw [if_neg (by omega),if_neg J]⟩
theorem cB_le {x y:Bt}:cB x y<=0 ↔ ¬y<x:=by
 unfold cB;by_cases h:x<y
 ·simp [h,List.lt_asymm h]
 ·by_cases o:y<x<;>simp [h,o]
theorem cB_zero {x y:Bt}:cB x y=0 ↔ x=y:=by
 unfold cB;by_cases h:x<y
 ·simp [h,bau h]
 ·by_cases o:y<x
  ·simp [h,o,(bau o).symm]
  ·rcases triB x y with q | q | q
   ·exact absurd q h
   ·subst q;simp [List.lt_irrefl]
   ·exact absurd q o
theorem Lin.cB:Lin Ab.cB:=by
 refine ⟨λx y=>?_,λx y=>?_,λx y z I J=>?_⟩
 ·unfold Ab.cB;split<;>(try split)<;>simp
 ·unfold Ab.cB;by_cases h:x<y
  ·simp [h,List.lt_asymm h]
  ·by_cases M:y<x<;>simp [h,M]
 ·rw [cB_le] at I J;have o:=List.not_lt.1 I;have H:=List.not_lt.1 J;refine ⟨cB_le.2 (List.not_lt.2 (List.le_trans o H)),λh=>?_⟩;rw [cB_zero] at h;subst h;have:=List.le_antisymm o H;subst this;exact ⟨cB_zero.2 rfl,cB_zero.2 rfl⟩
theorem Lin.comap {o β:Type}{c:β->β->Int} (h:Lin c) (f:o->β):Lin (λx y=>c (f x) (f y)):=⟨λx y=>h.sgn _ _,λx y=>h.anti _ _,λx y z=>h.tr _ _ _⟩
theorem Lin.lex {I:Type}{c d:I->I->Int} (h:Lin c) (k:Lin d):Lin (λx y=>or2 (c x y) (d x y)):=by
 refine ⟨λx y=>?_,λx y=>?_,λx y z o H=>?_⟩
 ·unfold or2;split
  ·exact k.sgn x y
  ·exact h.sgn x y
 ·have:=h.anti x y;have:=k.anti x y;unfold or2;split<;>split<;>omega
 ·have s1:=h.sgn x y;have s2:=h.sgn y z;have s3:=h.sgn x z;have O:c x y<=0:=by unfold or2 at o;split at o<;>omega
  have Z:c y z<=0:=by unfold or2 at H;split at H<;>omega
  obtain ⟨t1,t2⟩:=h.tr x y z O Z;unfold or2 at o H ⊢;by_cases e:c x z=0
  ·obtain ⟨J,M⟩:=t2 e;rw [if_pos J] at o ⊢;rw [if_pos M] at H ⊢;rw [if_pos e];exact k.tr x y z o H
  ·rw [if_neg e];exact ⟨t1,λh=>absurd h e⟩
theorem Lin.one {h:Type}:Lin (λ_ _:h=>(0:Int)):=⟨λ_ _=>Or.inr (Or.inl rfl),λ_ _=>rfl,λ_ _ _ _ _=>⟨Int.le_refl _,λ_=>⟨rfl,rfl⟩⟩⟩
theorem Lin.cmpC:Lin Ab.cmpC:=
 (Lin.cI.comap λa=>grp (chK a)).lex<|(Lin.cB.comap chD).lex<|(Lin.cI.comap chN).lex<|(Lin.cB.comap mth).lex<|(Lin.cI.comap chK).lex<|(Lin.cB.comap chO).lex<|(Lin.cB.comap chW).lex Lin.one
theorem cI_zero {x y:Int}:cI x y=0 ↔ x=y:=by
 unfold cI;split
 ·simp;omega
 ·split
  ·simp;omega
  ·simp;omega
def arb (a b:PV):Bool:=chK a==chK b&&chD a==chD b&&chN a==chN b&&chO a==chO b&&chW a==chW b
theorem azp (a b:PV):cmpC a b=0 ↔ arb a b=true:=by
 have M:∀ x y:Int,or2 x y=0 ↔ x=0/\y=0:=by intro x y;unfold or2;split<;>omega
 simp only [cmpC,orL,M,cI_zero,cB_zero,arb,Aj,beq_iff_eq];constructor
 ·rintro ⟨_,I,J,_,h,o,H,_⟩;exact ⟨⟨⟨⟨h,I⟩,J⟩,o⟩,H⟩
 ·rintro ⟨⟨⟨⟨h,I⟩,J⟩,o⟩,H⟩;exact ⟨by rw [h],I,J,by unfold mth;rw [h,o,H],h,o,H,trivial⟩
theorem a7r (x y:Bt):decide (cB x y<0)=Op.bytesLess x y:=by rw [Go.Proofs.bytesLess_eq];unfold cB;by_cases h:x<y<;>by_cases o:y<x<;>simp [h,o]
end Go.Ab
namespace Go.Ab
open Go
set_option maxRecDepth 100000
theorem ae3 {U V:List PV}{x d:PV}{i:Nat} (h:i=U.length):(U++x::V).getD i d=x:=by subst h;simp [List.getD]
theorem aqp {U V:List PV}{x y:PV}{i:Nat} (h:i=U.length):(U++x::V).set i y=U++y::V:=by subst h;simp
def swp (xs:List PV) (i j:Nat):List PV:=(xs.set j (xs.getD i .bad)).set i (xs.getD j .bad)
theorem a2j {U V W:List PV}{x y:PV}{i j:Nat} (h:i=U.length) (H:j=U.length+1+V.length):swp (U++x::(V++y::W)) i j=U++y::(V++x::W):=by
 have e:∀ z:PV,U++x::(V++z::W)=(U++x::V)++z::W:=λz=>by simp
 have o:j=(U++x::V).length:=by simp<;>omega
 unfold swp;rw [ae3 h,e y,ae3 o,aqp o,<-e x,aqp h]
theorem aww {U V W:List PV}{x y:PV}{i j:Nat} (h:i=U.length) (H:j=U.length+1+V.length):swp (U++x::(V++y::W)) j i=U++y::(V++x::W):=by
 have e:∀ w z:PV,U++w::(V++z::W)=(U++w::V)++z::W:=λw z=>by simp
 have o:∀ w:PV,j=(U++w::V).length:=λw=>by simp<;>omega
 unfold swp;rw [ae3 h,e x y,ae3 (o x),<-e x y,aqp h,e y y,aqp (o y),<-e y x]
abbrev leC (x y:PV):Prop:=cmpC x y<=0
abbrev Srt (xs:List PV):Prop:=xs.Pairwise leC
def OkL (xs:List PV):Prop:=xs.length<=100000000/\∀ x,x∈xs->(chO x).length<=100000000
theorem OkL.perm {xs ys:List PV} (h:OkL xs) (p:ys.Perm xs):OkL ys:=⟨by rw [p.length_eq];exact h.1,λx o=>h.2 x (p.mem_iff.1 o)⟩
theorem adk {x y z:PV} (h:leC x y) (o:leC y z):leC x z:=(Lin.cmpC.tr x y z h o).1
theorem afs {x y:PV} (h:¬cmpC x y<0):leC y x:=by have:=Lin.cmpC.anti x y;unfold leC;omega
theorem OkL.get {xs:List PV} (h:OkL xs) {i:Nat} (o:i<xs.length):(chO (xs.getD i .bad)).length<=100000000:=by rw [aae o];exact h.2 _ (List.getElem_mem o)
theorem avw {xs:List PV} (h:OkL xs) {i j:Nat} (o:i<xs.length) (H:j<xs.length):F62 0 (xs.getD i .bad) (xs.getD j .bad)=some (cmpC (xs.getD i .bad) (xs.getD j .bad)):=axa _ _ (h.get o) (h.get H)
theorem a0d (c:Bool):imp false c=true:=by cases c<;>rfl
theorem a4n (c:Bool):imp true c=c:=by cases c<;>rfl
theorem a2z {j:Nat} (h:1<=j) (o:j<=9223372036854775807):IntKind.wrap .i64 ((j:Int)-1)=((j-1:Nat):Int):=by rw [show (j:Int)-1=((j-1:Nat):Int) by omega];exact abb (by omega)
theorem ap3 {a b i j:Nat}{xs:List PV} (O:OkL xs) (M:j<xs.length):S134_5step 0 ((),(a:Int),(b:Int),(),(i:Int),(j:Int),xs)=
 some (if a<j/\cmpC (xs.getD j .bad) (xs.getD (j-1) .bad)<0 then .inl ((),(a:Int),(b:Int),(),(i:Int),((j-1:Nat):Int),swp xs (j-1) j) else .inr ((),(a:Int),(b:Int),(),(i:Int),xs)):=by
 have Z:=O.1
 simp only [S134_5step,S134_5]
 by_cases o:a<j
 ·have J:decide ((j:Int)>(a:Int))=true:=Ag (by omega);have H:j-1<xs.length:=by omega
  simp only [J,a2z (show 1<=j by omega) (by omega),aab,Ai,Ag M,Ag H,a4n,Af,avw O M H,Aa,List.length_set,o,true_and];by_cases I:cmpC (xs.getD j .bad) (xs.getD (j-1) .bad)<0
  ·rw [if_pos I,Ag I];rfl
  ·rw [if_neg I,An I];rfl
 ·have J:decide ((j:Int)>(a:Int))=false:=An (by omega);rw [if_neg (λh=>o h.1)];simp only [J,a0d,Af,Ah,Aa]
theorem a0g {a b i:Nat}{U:List PV}{x:PV} (ha:a=U.length):∀ (R B:List PV),Srt R.reverse->OkL (U++(R.reverse++x::B))->
 ∃ A1 A2,R.reverse=A1++A2/\(∀ y,y∈A1->leC y x)/\(∀ y,y∈A2->leC x y)/\
  aa9 (S134_5step 0) ((),(a:Int),(b:Int),(),(i:Int),((U.length+R.length:Nat):Int),U++(R.reverse++x::B))=some ((),(a:Int),(b:Int),(),(i:Int),U++(A1++x::(A2++B))):=by
 intro R
 induction R with
 | nil=>
  intro B _ J
  refine ⟨[],[],rfl,by simp,by simp,aah ?_⟩
  rw [ap3 J (by simp),if_neg (λh=>by simp at h;omega)]
  try rfl
 | cons y R ih=>
  intro B O J
  have e:U++((y::R).reverse++x::B)=(U++R.reverse)++y::([]++x::B):=by simp
  have hj:U.length+(y::R).length=(U++R.reverse).length+1+([]:List PV).length:=by simp<;>omega
  have H:U.length+(y::R).length<(U++((y::R).reverse++x::B)).length:=by simp<;>omega
  have Z:(U++((y::R).reverse++x::B)).getD (U.length+(y::R).length) .bad=x:=by rw [e,show (U++R.reverse)++y::([]++x::B)=(U++R.reverse++[y])++x::B by simp];exact ae3 (by simp<;>omega)
  have hy:(U++((y::R).reverse++x::B)).getD (U.length+(y::R).length-1) .bad=y:=by rw [e];exact ae3 (by simp)
  have I:Srt R.reverse/\∀ z,z∈R.reverse->leC z y:=by rw [List.reverse_cons,Srt,List.pairwise_append] at O;exact ⟨O.1,λz o=>O.2.2 z o y (by simp)⟩
  by_cases M:cmpC x y<0
  ·obtain ⟨A1,A2,q1,q2,q3,q4⟩:=ih (y::B) I.1 (J.perm (by
    rw [e];refine (List.Perm.append_left U ?_).trans (by rw [Ar]);exact List.Perm.append_left _ (List.Perm.swap y x B)))
   refine ⟨A1,A2++[y],by rw [List.reverse_cons,q1,Ar],q2,λz o=>?_,?_⟩
   ·rcases Bo.1 o with h | h
    ·exact q3 z h
    ·rw [List.mem_singleton] at h;subst h;unfold leC;omega
   ·rw [aaq (x1:=((),(a:Int),(b:Int),(),(i:Int),((U.length+R.length:Nat):Int),U++(R.reverse++x::(y::B))))]
    ·rw [q4];simp
    ·rw [ap3 J H,Z,hy,if_pos ⟨by simp<;>omega,M⟩];rw [e,a2j (by simp) hj];simp
  ·refine ⟨(y::R).reverse,[],by simp,λz o=>?_,by simp,aah ?_⟩
   ·rw [List.reverse_cons] at o;rcases Bo.1 o with h | h
    ·exact adk (I.2 z h) (afs M)
    ·rw [List.mem_singleton] at h;subst h;exact afs M
   ·rw [ap3 J H,Z,hy,if_neg (λh=>M h.2)];try rfl
theorem a0h {a b:Nat}{U Q:List PV} (ha:a=U.length):∀ (T A:List PV),Srt A->OkL (U++(A++(T++Q)))->b=U.length+A.length+T.length->
 ∃ H,H.Perm (A++T)/\Srt H/\aa9 (S134_2step 0) ((),(a:Int),(b:Int),(),((U.length+A.length:Nat):Int),U++(A++(T++Q)))=some (U++(H++Q)):=by
 intro T
 induction T with
 | nil=>
  intro A o J I
  refine ⟨A,by simp,o,aah ?_⟩
  have O:decide (((U.length+A.length:Nat):Int)<(b:Int))=false:=An (by simp at I;omega)
  simp only [S134_2step,S134_2,O,Ah]
  simp
 | cons t T ih=>
  intro A o J I
  have O:decide (((U.length+A.length:Nat):Int)<(b:Int))=true:=Ag (by simp at I;omega)
  obtain ⟨A1,A2,M,q2,q3,q4⟩:=a0g (a:=a) (b:=b) (i:=U.length+A.length) (U:=U) (x:=t) ha A.reverse (T++Q) (by rw [List.reverse_reverse];exact o) (by rw [List.reverse_reverse];exact J)
  rw [List.reverse_reverse] at M q4
  rw [List.length_reverse] at q4
  have Z:Srt (A1++t::A2):=by
   rw [M,Srt,List.pairwise_append] at o;rw [Srt,List.pairwise_append];refine ⟨o.1,List.pairwise_cons.2 ⟨q3,o.2.1⟩,λx hx y hy=>?_⟩;rcases Bn.1 hy with rfl | hy
   ·exact q2 x hx
   ·exact o.2.2 x hx y hy
  have pA:(A1++t::A2).Perm (A++[t]):=by rw [M];refine List.perm_middle.trans ?_;exact (List.perm_append_comm (l₁:=[t]) (l₂:=A1++A2))
  have aa:OkL (U++((A1++t::A2)++(T++Q))):=J.perm (by refine List.Perm.append_left U ?_;refine (List.Perm.append_right (T++Q) pA).trans ?_;simp)
  have h:(A1++t::A2).length=A.length+1:=by rw [M];simp;omega
  obtain ⟨H,r1,r2,r3⟩:=ih (A1++t::A2) Z aa (by rw [h,I];simp;omega)
  refine ⟨H,r1.trans ?_,r2,?_⟩
  ·refine (List.Perm.append_right T pA).trans ?_;simp
  ·have hl:=J.1;rw [aaq (x1:=((),(a:Int),(b:Int),(),((U.length+(A1++t::A2).length:Nat):Int),U++((A1++t::A2)++(T++Q))))]
   ·exact r3
   ·simp only [S134_2step,S134_2,O,Af];have ab:aag 0 (S134_5step 0) ((),(a:Int),(b:Int),(),((U.length+A.length:Nat):Int),((U.length+A.length:Nat):Int),U++(A++(t::T++Q)))=some ((),(a:Int),(b:Int),(),((U.length+A.length:Nat):Int),U++(A1++t::(A2++(T++Q)))):=q4;rw [ab,Aa];have w:IntKind.wrap .i64 (((U.length+A.length:Nat):Int)+1)=((U.length+(A1++t::A2).length:Nat):Int):=by
     rw [h];have:U.length+A.length<=100000000:=by simp at hl;omega
     rw [aax _ (Nat.le_trans this (by decide))];rfl
    simp only [w];simp
theorem ap2 {a b:Nat}{U Q S:List PV} (H:a=U.length) (J:b=U.length+S.length) (M:OkL (U++(S++Q))):
 ∃ h,h.Perm S/\Srt h/\F134 0 () (a:Int) (b:Int) () (U++(S++Q))=some (U++(h++Q)):=by
 have Z:=M.1
 have I:a<=100000000:=by subst H;simp at Z;omega
 unfold F134
 show ∃ h,_/\_/\(aa9 _ _).bind _=_
 rw [aax a (Nat.le_trans I (by decide))]
 cases S with
 | nil=>
  refine ⟨[],List.Perm.refl _,List.Pairwise.nil,?_⟩
  rw [aah (y:=U++([]++Q))]
  ·rfl
  ·have O:decide (((a+1:Nat):Int)<(b:Int))=false:=An (by simp at J;omega);simp only [S134_2step,S134_2,O,Ah]
 | cons s T=>
  obtain ⟨h,r1,r2,o⟩:=a0h (a:=a) (b:=b) (U:=U) (Q:=Q) H T [s] (by simp) (by simpa using M) (by simp at J ⊢;omega)
  refine ⟨h,r1,r2,?_⟩
  have e:((U.length+[s].length:Nat):Int)=((a+1:Nat):Int):=by rw [H];rfl
  rw [e] at o
  have o:aa9 (S134_2step 0) ((),(a:Int),(b:Int),(),((a+1:Nat):Int),U++(s::T++Q))=some (U++(h++Q)):=o
  rw [o]
  rfl
end Go.Ab
namespace Go.Ab
open Go
set_option maxRecDepth 100000
theorem aqx {a i:Nat} (h:a+i<=9223372036854775807):IntKind.wrap .i64 ((a:Int)+(i:Int))=((a+i:Nat):Int):=by rw [show (a:Int)+(i:Int)=((a+i:Nat):Int) by omega];exact abb h
theorem aig {a i:Nat} (h:i<=a) (o:a<=9223372036854775807):IntKind.wrap .i64 ((a:Int)-(i:Int))=((a-i:Nat):Int):=by rw [show (a:Int)-(i:Int)=((a-i:Nat):Int) by omega];exact abb (by omega)
theorem ba4 {a b n i:Nat}{xs:List PV} (J:xs.length<=100000000) (I:i<n) (h:a+i<xs.length) (o:b+i<xs.length):
 S200_2step 0 ((),(a:Int),(b:Int),(n:Int),(i:Int),xs)=some (.inl ((),(a:Int),(b:Int),(n:Int),((i+1:Nat):Int),swp xs (b+i) (a+i))):=by
 have H:decide ((i:Int)<(n:Int))=true:=Ag (by omega)
 simp only [S200_2step,S200_2,H,aqx (show a+i<=9223372036854775807 by omega),aqx (show b+i<=9223372036854775807 by omega),aax i (by omega),aab,Ai,Ag h,Ag o,Af,List.length_set,swp]
theorem swr {a b n:Nat}:∀ (X Y U V W:List PV) (i:Nat),X.length=Y.length->a+i=U.length->b+i=U.length+X.length+V.length->i+X.length=n->(U++(X++(V++(Y++W)))).length<=100000000->
 aa9 (S200_2step 0) ((),(a:Int),(b:Int),(n:Int),(i:Int),U++(X++(V++(Y++W))))=some (U++(Y++(V++(X++W)))):=by
 intro X
 induction X with
 | nil=>
  intro Y U V W i h I J H o
  have:Y=[]:=List.length_eq_zero_iff.1 (by simpa using h.symm)
  subst this
  refine aah ?_
  have hd:decide ((i:Int)<(n:Int))=false:=An (by simp at H;omega)
  simp only [S200_2step,S200_2,hd,Ah]
 | cons x X ih=>
  intro Y U V W i h I J H o
  cases Y with
  | nil=>simp at h
  | cons y Y=>
   simp only [Am] at h J H
   have e:U++(x::X++(V++(y::Y++W)))=U++x::((X++V)++y::(Y++W)):=by simp
   have O:a+i<(U++(x::X++(V++(y::Y++W)))).length:=by simp;omega
   have Z:b+i<(U++(x::X++(V++(y::Y++W)))).length:=by simp;omega
   have M:swp (U++(x::X++(V++(y::Y++W)))) (b+i) (a+i)=(U++[y])++(X++((V++[x])++(Y++W))):=by rw [e,aww I (by simp;omega)];simp
   rw [aaq (ba4 o (by omega) O Z),M,ih Y (U++[y]) (V++[x]) W (i+1) (by omega) (by simp;omega) (by simp;omega) (by omega) (by simp at o ⊢;omega)]
   simp
theorem akz {a b n:Nat}{X Y U V W:List PV} (o:X.length=Y.length) (I:a=U.length) (J:b=U.length+X.length+V.length) (M:n=X.length) (H:(U++(X++(V++(Y++W)))).length<=100000000):
 F200 0 () (a:Int) (b:Int) (n:Int) () (U++(X++(V++(Y++W))))=some (U++(Y++(V++(X++W)))):=by
 unfold F200
 show (aa9 _ _).bind _=_
 have h:=swr (a:=a) (b:=b) (n:=n) X Y U V W 0 o (by omega) (by omega) (by omega) H
 have h:aa9 (S200_2step 0) ((),(a:Int),(b:Int),(n:Int),(0:Int),U++(X++(V++(Y++W))))=some (U++(Y++(V++(X++W)))):=h
 rw [h]
 rfl
theorem rot {m:Nat}:∀ (k:Nat) (X Y P Q:List PV),X.length+Y.length<=k->X≠[]->Y≠[]->m=P.length+X.length->(P++(X++(Y++Q))).length<=100000000->
 ∃ (i:Nat) (ys:List PV),aa9 (S179_3step 0) ((),(m:Int),(),(X.length:Int),(Y.length:Int),P++(X++(Y++Q)))=some ((),(m:Int),(),(i:Int),ys)/\
  F200 0 () (IntKind.wrap .i64 ((m:Int)-(i:Int))) (m:Int) (i:Int) () ys=some (P++(Y++(X++Q))):=by
 intro k
 induction k with
 | zero=>
  intro X Y P Q h hx
  cases X with
  | nil=>exact absurd rfl hx
  | cons=>simp at h
 | succ k ih=>
  intro X Y P Q h hx hy hm hl
  have aj:0<X.length:=List.length_pos_iff.2 hx
  have ak:0<Y.length:=List.length_pos_iff.2 hy
  have ag:=hl
  simp only [Ak] at ag
  rcases Nat.lt_trichotomy X.length Y.length with ai | af | ah
  ·have o:((X.length:Int) != (Y.length:Int))=true:=by simp;omega
   have M:decide ((X.length:Int)>(Y.length:Int))=false:=An (by omega);have eY:Y=Y.take (Y.length-X.length)++Y.drop (Y.length-X.length):=(List.take_append_drop _ _).symm;generalize ad:Y.take (Y.length-X.length)=Y1 at eY;generalize ae:Y.drop (Y.length-X.length)=Y2 at eY;have I:Y1.length=Y.length-X.length:=by rw [<-ad,List.length_take];omega
   have J:Y2.length=X.length:=by rw [<-ae,Be];omega
   have H:=akz (a:=m-X.length) (b:=m+Y.length-X.length) (n:=X.length) (X:=X) (Y:=Y2) (U:=P) (V:=Y1) (W:=Q) J.symm (by omega) (by omega) rfl (by simp;omega);have e1:P++(X++(Y1++(Y2++Q)))=P++(X++(Y++Q)):=by rw [eY];simp
   rw [e1] at H;obtain ⟨i,ys,r1,r2⟩:=ih Y2 Y1 P (X++Q) (by omega) (by intro e;rw [e] at J;simp at J;omega) (by intro e;rw [e] at I;simp at I;omega) (by omega) (by simp;omega);refine ⟨i,ys,?_,?_⟩
   ·rw [aaq (x1:=((),(m:Int),(),(Y2.length:Int),(Y1.length:Int),P++(Y2++(Y1++(X++Q)))))]
    ·exact r1
    ·simp only [S179_3step,S179_3,o,M,Af,Ah,aig (show X.length<=m by omega) (by omega),aqx (show m+Y.length<=9223372036854775807 by omega),aig (show X.length<=m+Y.length by omega) (by omega),H,Aa,aig (show X.length<=Y.length by omega) (by omega)];rw [I,J]
   ·rw [r2,eY];simp
  ·have o:((X.length:Int) != (Y.length:Int))=false:=by simp;omega
   refine ⟨X.length,P++(X++(Y++Q)),aah ?_,?_⟩
   ·simp only [S179_3step,S179_3,o,Ah]
   ·rw [aig (show X.length<=m by omega) (by omega)];have:=akz (a:=m-X.length) (b:=m) (n:=X.length) (X:=X) (Y:=Y) (U:=P) (V:=[]) (W:=Q) af (by omega) (by simp;omega) rfl (by simpa using hl);simpa using this
  ·have o:((X.length:Int) != (Y.length:Int))=true:=by simp;omega
   have M:decide ((X.length:Int)>(Y.length:Int))=true:=Ag (by omega);have eX:X=X.take Y.length++X.drop Y.length:=(List.take_append_drop _ _).symm;generalize aa:X.take Y.length=O at eX;generalize ab:X.drop Y.length=Z at eX;have I:O.length=Y.length:=by rw [<-aa,List.length_take];omega
   have J:Z.length=X.length-Y.length:=by rw [<-ab,Be]
   have H:=akz (a:=m-X.length) (b:=m) (n:=Y.length) (X:=O) (Y:=Y) (U:=P) (V:=Z) (W:=Q) I (by omega) (by omega) I.symm (by simp;omega);have e1:P++(O++(Z++(Y++Q)))=P++(X++(Y++Q)):=by rw [eX];simp
   rw [e1] at H;obtain ⟨i,ys,r1,r2⟩:=ih Z O (P++Y) Q (by omega) (by intro e;rw [e] at J;simp at J;omega) (by intro e;rw [e] at I;simp at I;omega) (by simp;omega) (by simp;omega);refine ⟨i,ys,?_,?_⟩
   ·rw [aaq (x1:=((),(m:Int),(),(Z.length:Int),(O.length:Int),(P++Y)++(Z++(O++Q))))]
    ·exact r1
    ·simp only [S179_3step,S179_3,o,M,Af,aig (show X.length<=m by omega) (by omega),H,Aa,aig (show Y.length<=X.length by omega) (by omega)];rw [I,J,Ar]
   ·rw [r2,eX];simp
theorem a1u {a m b:Nat}{X Y P Q:List PV} (I:X≠[]) (J:Y≠[]) (Z:a=P.length) (H:m=P.length+X.length) (hb:b=m+Y.length) (o:(P++(X++(Y++Q))).length<=100000000):
 F179 0 () (a:Int) (m:Int) (b:Int) () (P++(X++(Y++Q)))=some (P++(Y++(X++Q))):=by
 have h:=o
 simp only [Ak] at h
 obtain ⟨i,ys,M,O⟩:=rot (m:=m) _ X Y P Q (Nat.le_refl _) I J H o
 unfold F179
 rw [aig (show a<=m by omega) (by omega),aig (show m<=b by omega) (by omega),show m-a=X.length by omega,show b-m=Y.length by omega]
 show (aa9 _ _).bind _=_
 rw [M]
 simp only [Aa,O]
theorem atm {σ τ:Type}{step:σ->Option (σ⊕τ)} (st:Nat->Nat->σ) (Z:Nat->τ) (q:Nat->Bool) (lo0 hi0:Nat)
 (aa:∀ o I,lo0<=o->o<I->I<=hi0->step (st o I)=some (.inl (bif q ((o+I) / 2) then st ((o+I) / 2+1) I else st o ((o+I) / 2)))) (J:∀ o,lo0<=o->o<=hi0->step (st o o)=some (.inr (Z o))) (h0:lo0<=hi0):
 ∃ i,aa9 step (st lo0 hi0)=some (Z i)/\lo0<=i/\i<=hi0/\(lo0<i->q (i-1)=true)/\(i<hi0->q i=false):=by
 suffices H:∀ (n o I:Nat),I-o<=n->lo0<=o->o<=I->I<=hi0->(lo0<o->q (o-1)=true)->(I<hi0->q I=false)->∃ i,aa9 step (st o I)=some (Z i)/\lo0<=i/\i<=hi0/\(lo0<i->q (i-1)=true)/\(i<hi0->q i=false) from
  H _ lo0 hi0 (Nat.le_refl _) (Nat.le_refl _) h0 (Nat.le_refl _) (λh=>by omega) (λh=>by omega)
 intro n
 induction n with
 | zero=>
  intro o I hn M h2 O h4 h5
  have:I=o:=by omega
  subst this
  exact ⟨I,aah (J I M O),M,O,h4,h5⟩
 | succ n ih=>
  intro o I hn M h2 O h4 h5
  rcases Nat.lt_or_ge o I with ab | ad
  ·have hs:=aa o I M ab O;cases hq:q ((o+I) / 2) with
   | true=>rw [hq] at hs;rw [aaq hs];exact ih ((o+I) / 2+1) I (by omega) (by omega) (by omega) O (λ_=>by rw [Nat.add_sub_cancel];exact hq) h5
   | false=>rw [hq] at hs;rw [aaq hs];exact ih o ((o+I) / 2) (by omega) M (by omega) (by omega) h4 (λ_=>hq)
  ·have:I=o:=by omega
   subst this;exact ⟨I,aah (J I M O),M,O,h4,h5⟩
theorem half {i j:Nat} (h:i+j<=4611686018427387904):IntKind.wrap .i64 ((IntKind.wrap .u64 (IntKind.wrap .i64 ((i:Int)+(j:Int)))).fdiv (2^(min (1:Int).toNat (IntKind.bits .u64))))=(((i+j) / 2:Nat):Int):=by rw [aqx (by omega)];have e:IntKind.wrap .u64 ((i+j:Nat):Int)=((i+j:Nat):Int):=IntWalk.u64_in _ ⟨by omega,by omega⟩;rw [e,show (2^(min (1:Int).toNat (IntKind.bits .u64)):Int)=2 by decide,Int.fdiv_eq_ediv_of_nonneg _ (by decide),show ((i+j:Nat):Int) / 2=(((i+j) / 2:Nat):Int) by omega];exact abb (by omega)
end Go.Ab
