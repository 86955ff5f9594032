/- Changes in order: the program's Less is the specification's. -/
import Derived.Test.YtodichgnoiaanaaGreatDoorPVld3T
import Derived.Sort.Walk0
set_option linter.unusedVariables false
set_option linter.unusedSimpArgs false
set_option linter.unnecessarySimpa false
namespace Go.Ab
open Go
set_option maxRecDepth 100000
def cI (x y:Int):Int:=if x<y then -1 else if y<x then 1 else 0
def cB (x y:Bo):Int:=if x<y then -1 else if y<x then 1 else 0
def or2 (x y:Int):Int:=if x=0 then y else x
def orL:List Int->Int
 | []=>0
 | x::r=>or2 x (orL r)
def chK (a:PV):Int:=(a.fld 0).asInt
def chD (a:PV):Bo:=(a.fld 1).asStr
def chN (a:PV):Int:=(a.fld 2).asInt
def chO (a:PV):Bo:=(a.fld 3).asStr
def chW (a:PV):Bo:=(a.fld 4).asStr
def grp (k:Int):Int:=if 1<=k/\k<=10 then 1 else if 11<=k/\k<=16 then 2 else 3
def mth (a:PV):Bo:=if chK a=19 then chO a else if chK a=20 then chW a else if chK a=21\/chK a=22 then (Lib.cut (chO a) [58,32]).1 else []
def cmpC (a b:PV):Int:=orL [cI (grp (chK a)) (grp (chK b)),cB (chD a) (chD b),cI (chN a) (chN b),cB (mth a) (mth b),cI (chK a) (chK b),cB (chO a) (chO b),cB (chW a) (chW b)]
theorem bby (x y:Int):F130 0 x y=some (cI x y):=by
 have h:F170 0 x=some false:=by simp [F170]
 have o:F170 0 y=some false:=by simp [F170]
 simp only [F130,h,o,Aa,Ah,cI];grind
theorem lt_ne {x y:Bo} (h:x<y):x≠y:=λe=>by grind
theorem triB (x y:Bo):x<y\/x=y\/y<x:=by grind
theorem bbz (x y:Bo):F132 0 x y=some (cB x y):=by
 have h:F145 0 x=some false:=by simp [F145]
 have o:F145 0 y=some false:=by simp [F145]
 simp only [F132,h,o,Aa,Ah,cB,Go.Proofs.bytesLess_eq];grind
theorem a8l (k:Int):F131 0 k=some (grp k):=by grind [F131,grp,ge_iff_le]
theorem bcs:∀ (r h:List PV),(h++r).length<=100000000->∃ z,aa3 (S129_4step 0) ((0:Int),h++r,((h++r).length:Int),(h.length:Int))=some z/\(z=.inl (orL (r.map PV.asInt))\/z=.inr (orL (r.map PV.asInt))):=by
 intro r;induction r with
 | nil=>intro h J;refine ⟨.inr 0,aai ?_,Or.inr rfl⟩;simp [S129_4step,S129_4]
 | cons x r ih=>
  intro h J;have o:h.length<(h++x::r).length:=by simp
  have H:decide ((h.length:Int)<((h++x::r).length:Int))=true:=Ag (by omega);have I:(h++x::r).getD ((h.length:Int)).toNat .bad=x:=by simp
  by_cases M:x.asInt=0
  ·obtain ⟨z,O,h2⟩:=ih (h++[x]) (by simpa using J);refine ⟨z,?_,?_⟩
   ·rw [aao (x1:=((0:Int),h++x::r,((h++x::r).length:Int),((h++[x]).length:Int)))]
    ·simpa using O
    ·simp only [S129_4step,S129_4,H,Af,aaa,Ag o,I,M,bne_self_eq_false,Ah];grind [aat]
   grind [orL,PV.asInt,or2]
  ·refine ⟨.inl x.asInt,aai ?_,Or.inl ?_⟩
   ·have Z:(x.asInt != 0)=true:=by simpa using M
    simp only [S129_4step,S129_4,H,Af,aaa,Ag o,I,Z]
   grind [orL,or2]
theorem or_eq (l:List PV) (h:l.length<=100000000):F129 0 l=some (orL (l.map PV.asInt)):=by obtain ⟨z,o,H⟩:=bcs l [] (by simpa using h);simp only [A6,Aw,Int.ofNat_zero] at o;unfold F129;show (aa3 _ _).bind _=_;have o:aa3 (S129_4step 0) ((0:Int),l,(l.length:Int),(0:Int))=some z:=o;rw [o];rcases H with rfl | rfl<;>rfl
theorem aui (a:PV) (h:(chO a).length<=100000000):F133 0 a=some (mth a):=by
 have o:Lcut 0 (chO a) [58,32]=some (Lib.cut (chO a) [58,32]):=by grind [Lcut,decide_eq_true]
 grind [chO,F133,mth,chK,chW,asInt]
theorem azs (a b:PV) (h:(chO a).length<=100000000) (o:(chO b).length<=100000000):F80 0 a b=some (cmpC a b):=by simp only [F80,a8l,bby,bbz,aui a h,aui b o,Aa];rw [or_eq _ (by simp)];rfl
structure Lin {α:Type} (c:α->α->Int):Prop where
 sgn:∀ x y,c x y=-1\/c x y=0\/c x y=1
 anti:∀ x y,c y x=- c x y
 tr:∀ x y z,c x y<=0->c y z<=0->c x z<=0/\(c x z=0->c x y=0/\c y z=0)
theorem Lin.cI:Lin Ab.cI:=by
 refine ⟨λx y=>?_,λx y=>?_,λx y z h o=>?_⟩
 ·grind [Ab.cI]
 ·grind [Ab.cI]
 ·unfold Ab.cI at*;grind
theorem cB_le {x y:Bo}:cB x y<=0 ↔ ¬y<x:=by grind [cB,List.lt_asymm]
theorem cB_zero {x y:Bo}:cB x y=0 ↔ x=y:=by grind [cB,lt_ne,triB,absurd,List.lt_irrefl]
theorem Lin.cB:Lin Ab.cB:=by
 refine ⟨λx y=>?_,λx y=>?_,λx y z I J=>?_⟩
 ·grind [Ab.cB]
 ·grind [Ab.cB,List.lt_asymm]
 ·rw [cB_le] at I J;have o:=List.not_lt.1 I;have H:=List.not_lt.1 J;refine ⟨cB_le.2 (List.not_lt.2 (List.le_trans o H)),λh=>?_⟩;rw [cB_zero] at h;subst h;have:=List.le_antisymm o H;subst this;exact ⟨cB_zero.2 rfl,cB_zero.2 rfl⟩
theorem Lin.comap {H o:Type}{c:o->o->Int} (h:Lin c) (f:H->o):Lin (λx y=>c (f x) (f y)):=⟨λx y=>h.sgn _ _,λx y=>h.anti _ _,λx y z=>h.tr _ _ _⟩
theorem Lin.lex {I:Type}{c d:I->I->Int} (h:Lin c) (k:Lin d):Lin (λx y=>or2 (c x y) (d x y)):=by
 refine ⟨λx y=>?_,λx y=>?_,λx y z o H=>?_⟩
 ·unfold or2;split
  ·exact k.sgn x y
  ·exact h.sgn x y
 ·have:=h.anti x y;have:=k.anti x y;grind [or2]
 ·have s1:=h.sgn x y;have s2:=h.sgn y z;have s3:=h.sgn x z;have O:c x y<=0:=by grind [or2]
  have Z:c y z<=0:=by grind [or2]
  obtain ⟨t1,t2⟩:=h.tr x y z O Z;unfold or2 at o H ⊢;by_cases e:c x z=0
  ·obtain ⟨J,M⟩:=t2 e;rw [if_pos J] at o ⊢;rw [if_pos M] at H ⊢;rw [if_pos e];exact k.tr x y z o H
  grind
theorem Lin.one {h:Type}:Lin (λ_ _:h=>(0:Int)):=⟨λ_ _=>Or.inr (Or.inl rfl),λ_ _=>rfl,λ_ _ _ _ _=>⟨Int.le_refl _,λ_=>⟨rfl,rfl⟩⟩⟩
theorem Lin.cmpC:Lin Ab.cmpC:=
 (Lin.cI.comap λa=>grp (chK a)).lex<|(Lin.cB.comap chD).lex<|(Lin.cI.comap chN).lex<|(Lin.cB.comap mth).lex<|(Lin.cI.comap chK).lex<|(Lin.cB.comap chO).lex<|(Lin.cB.comap chW).lex Lin.one
theorem cI_zero {x y:Int}:cI x y=0 ↔ x=y:=by grind [cI]
def atd (a b:PV):Bool:=chK a==chK b&&chD a==chD b&&chN a==chN b&&chO a==chO b&&chW a==chW b
theorem a2j (a b:PV):cmpC a b=0 ↔ atd a b=true:=by
 have J:∀ x y:Int,or2 x y=0 ↔ x=0/\y=0:=by grind [or2]
 simp only [cmpC,orL,J,cI_zero,cB_zero,atd,Aj,beq_iff_eq];constructor
 ·grind
 ·rintro ⟨⟨⟨⟨h,o⟩,z⟩,H⟩,I⟩;exact ⟨by rw [h],o,z,by grind [mth],h,H,I,trivial⟩
theorem a7o (x y:Bo):decide (cB x y<0)=Op.bytesLess x y:=by grind [Go.Proofs.bytesLess_eq,cB]
end Go.Ab
namespace Go.Ab
open Go
set_option maxRecDepth 100000
theorem aj8 {U V:List PV}{x d:PV}{i:Nat} (h:i=U.length):(U++x::V).getD i d=x:=by grind
theorem a5v {U V:List PV}{x y:PV}{i:Nat} (h:i=U.length):(U++x::V).set i y=U++y::V:=by subst h;simp
def swp (xs:List PV) (i j:Nat):List PV:=(xs.set j (xs.getD i .bad)).set i (xs.getD j .bad)
theorem a6j {U V W:List PV}{x y:PV}{i j:Nat} (h:i=U.length) (o:j=U.length+1+V.length):swp (U++x::(V++y::W)) i j=U++y::(V++x::W):=by grind [swp,aj8,a5v]
theorem azd {U V W:List PV}{x y:PV}{i j:Nat} (h:i=U.length) (o:j=U.length+1+V.length):swp (U++x::(V++y::W)) j i=U++y::(V++x::W):=by grind [swp,aj8,a5v]
abbrev leC (x y:PV):Prop:=cmpC x y<=0
abbrev Srt (xs:List PV):Prop:=xs.Pairwise leC
def OkL (xs:List PV):Prop:=xs.length<=100000000/\∀ x,x∈xs->(chO x).length<=100000000
theorem OkL.perm {xs ys:List PV} (h:OkL xs) (p:ys.Perm xs):OkL ys:=⟨by rw [p.length_eq];exact h.1,λx o=>h.2 x (p.mem_iff.1 o)⟩
theorem adu {x y z:PV} (h:leC x y) (o:leC y z):leC x z:=(Lin.cmpC.tr x y z h o).1
theorem ain {x y:PV} (h:¬cmpC x y<0):leC y x:=by have:=Lin.cmpC.anti x y;grind
theorem OkL.get {xs:List PV} (h:OkL xs) {i:Nat} (o:i<xs.length):(chO (xs.getD i .bad)).length<=100000000:=by rw [aag o];exact h.2 _ (List.getElem_mem o)
theorem ayd {xs:List PV} (h:OkL xs) {i j:Nat} (o:i<xs.length) (z:j<xs.length):F80 0 (xs.getD i .bad) (xs.getD j .bad)=some (cmpC (xs.getD i .bad) (xs.getD j .bad)):=azs _ _ (h.get o) (h.get z)
theorem a3l (c:Bool):imp false c=true:=by cases c<;>rfl
theorem a8o (c:Bool):imp true c=c:=by cases c<;>rfl
theorem a7a {j:Nat} (h:1<=j) (o:j<=9223372036854775807):IntKind.wrap .i64 ((j:Int)-1)=((j-1:Nat):Int):=by grind [abe]
theorem art {a b i j:Nat}{xs:List PV} (M:OkL xs) (J:j<xs.length):S168_5step 0 ((),(a:Int),(b:Int),(),(i:Int),(j:Int),xs)=
 some (if a<j/\cmpC (xs.getD j .bad) (xs.getD (j-1) .bad)<0 then .inl ((),(a:Int),(b:Int),(),(i:Int),((j-1:Nat):Int),swp xs (j-1) j) else .inr ((),(a:Int),(b:Int),(),(i:Int),xs)):=by
 have O:=M.1
 simp only [S168_5step,S168_5]
 by_cases o:a<j
 ·have H:decide ((j:Int)>(a:Int))=true:=Ag (by omega);have z:j-1<xs.length:=by omega
  simp only [H,a7a (show 1<=j by omega) (by omega),aaa,Ai,Ag J,Ag z,a8o,Af,ayd M J z,Aa,List.length_set,o,true_and];by_cases I:cmpC (xs.getD j .bad) (xs.getD (j-1) .bad)<0
  ·rw [if_pos I,Ag I];rfl
  grind
 ·have H:decide ((j:Int)>(a:Int))=false:=An (by omega);rw [if_neg (λh=>o h.1)];simp only [H,a3l,Af,Ah,Aa]
theorem a3p {a b i:Nat}{U:List PV}{x:PV} (ha:a=U.length):∀ (R B:List PV),Srt R.reverse->OkL (U++(R.reverse++x::B))->
 ∃ A1 A2,R.reverse=A1++A2/\(∀ y,y∈A1->leC y x)/\(∀ y,y∈A2->leC x y)/\
  aa3 (S168_5step 0) ((),(a:Int),(b:Int),(),(i:Int),((U.length+R.length:Nat):Int),U++(R.reverse++x::B))=some ((),(a:Int),(b:Int),(),(i:Int),U++(A1++x::(A2++B))):=by
 intro R
 induction R with
 | nil=>
  intro B _ H
  refine ⟨[],[],rfl,by simp,by simp,aai ?_⟩
  rw [art H (by simp),if_neg (λh=>by simp at h;omega)]
  try rfl
 | cons y R ih=>
  intro B hs H
  have e:U++((y::R).reverse++x::B)=(U++R.reverse)++y::([]++x::B):=by simp
  have Z:U.length+(y::R).length=(U++R.reverse).length+1+([]:List PV).length:=by simp<;>omega
  have o:U.length+(y::R).length<(U++((y::R).reverse++x::B)).length:=by simp<;>omega
  have M:(U++((y::R).reverse++x::B)).getD (U.length+(y::R).length) .bad=x:=by grind [aj8]
  have O:(U++((y::R).reverse++x::B)).getD (U.length+(y::R).length-1) .bad=y:=by simp_all
  have I:Srt R.reverse/\∀ z,z∈R.reverse->leC z y:=by grind
  by_cases J:cmpC x y<0
  ·obtain ⟨A1,A2,q1,q2,q3,q4⟩:=ih (y::B) I.1 (H.perm (by
    rw [e];refine (List.Perm.append_left U ?_).trans (by rw [As]);exact List.Perm.append_left _ (List.Perm.swap y x B)))
   refine ⟨A1,A2++[y],by rw [List.reverse_cons,q1,As],q2,λz hz=>?_,?_⟩
   ·grind
   ·rw [aao (x1:=((),(a:Int),(b:Int),(),(i:Int),((U.length+R.length:Nat):Int),U++(R.reverse++x::(y::B))))]
    ·rw [q4];simp
    ·rw [art H o,M,O,if_pos ⟨by simp<;>omega,J⟩];rw [e,a6j (by simp) Z];simp
  ·refine ⟨(y::R).reverse,[],by simp,λz hz=>?_,by simp,aai ?_⟩
   ·grind [List.reverse_cons,adu,ain,List.mem_singleton]
   ·rw [art H o,M,O,if_neg (λh=>J h.2)];try rfl
theorem a3q {a b:Nat}{U Q:List PV} (ha:a=U.length):∀ (T A:List PV),Srt A->OkL (U++(A++(T++Q)))->b=U.length+A.length+T.length->
 ∃ h,h.Perm (A++T)/\Srt h/\aa3 (S168_2step 0) ((),(a:Int),(b:Int),(),((U.length+A.length:Nat):Int),U++(A++(T++Q)))=some (U++(h++Q)):=by
 intro T
 induction T with
 | nil=>
  intro A H J hb
  refine ⟨A,by simp,H,aai ?_⟩
  have z:decide (((U.length+A.length:Nat):Int)<(b:Int))=false:=An (by grind)
  simp only [S168_2step,S168_2,z,Ah]
  simp
 | cons t T ih=>
  intro A H J hb
  have z:decide (((U.length+A.length:Nat):Int)<(b:Int))=true:=Ag (by grind)
  obtain ⟨A1,A2,O,q2,q3,Z⟩:=a3p (a:=a) (b:=b) (i:=U.length+A.length) (U:=U) (x:=t) ha A.reverse (T++Q) (by grind) (by grind)
  rw [List.reverse_reverse] at O Z
  rw [List.length_reverse] at Z
  have I:Srt (A1++t::A2):=by rw [O,Srt,List.pairwise_append] at H;rw [Srt,List.pairwise_append];simp_all
  have pA:(A1++t::A2).Perm (A++[t]):=by rw [O];refine List.perm_middle.trans ?_;grind [List.perm_append_comm]
  have M:OkL (U++((A1++t::A2)++(T++Q))):=J.perm (by refine List.Perm.append_left U ?_;refine (List.Perm.append_right (T++Q) pA).trans ?_;simp)
  have o:(A1++t::A2).length=A.length+1:=by grind
  obtain ⟨h,r1,r2,r3⟩:=ih (A1++t::A2) I M (by grind)
  refine ⟨h,r1.trans ?_,r2,?_⟩
  ·refine (List.Perm.append_right T pA).trans ?_;simp
  ·have hl:=J.1;rw [aao (x1:=((),(a:Int),(b:Int),(),((U.length+(A1++t::A2).length:Nat):Int),U++((A1++t::A2)++(T++Q))))]
   ·exact r3
   ·simp only [S168_2step,S168_2,z,Af];have aa:aaf 0 (S168_5step 0) ((),(a:Int),(b:Int),(),((U.length+A.length:Nat):Int),((U.length+A.length:Nat):Int),U++(A++(t::T++Q)))=some ((),(a:Int),(b:Int),(),((U.length+A.length:Nat):Int),U++(A1++t::(A2++(T++Q)))):=Z;rw [aa,Aa];have w:IntKind.wrap .i64 (((U.length+A.length:Nat):Int)+1)=((U.length+(A1++t::A2).length:Nat):Int):=by
     rw [o];have:U.length+A.length<=100000000:=by grind
     rw [aat _ (Nat.le_trans this (by decide))];rfl
    grind
theorem ars {a b:Nat}{U Q S:List PV} (H:a=U.length) (J:b=U.length+S.length) (z:OkL (U++(S++Q))):
 ∃ h,h.Perm S/\Srt h/\F168 0 () (a:Int) (b:Int) () (U++(S++Q))=some (U++(h++Q)):=by
 have M:=z.1
 have o:a<=100000000:=by grind
 unfold F168
 show ∃ h,_/\_/\(aa3 _ _).bind _=_
 rw [aat a (Nat.le_trans o (by decide))]
 cases S with
 | nil=>
  refine ⟨[],List.Perm.refl _,List.Pairwise.nil,?_⟩
  rw [aai (y:=U++([]++Q))]
  ·rfl
  ·have I:decide (((a+1:Nat):Int)<(b:Int))=false:=An (by grind);simp only [S168_2step,S168_2,I,Ah]
 | cons s T=>
  obtain ⟨h,O,Z,r3⟩:=a3q (a:=a) (b:=b) (U:=U) (Q:=Q) H T [s] (by simp) (by simpa using z) (by grind)
  simp_all
end Go.Ab
namespace Go.Ab
open Go
set_option maxRecDepth 100000
theorem asu {a i:Nat} (h:a+i<=9223372036854775807):IntKind.wrap .i64 ((a:Int)+(i:Int))=((a+i:Nat):Int):=by rw [show (a:Int)+(i:Int)=((a+i:Nat):Int) by omega];exact abe h
theorem ai1 {a i:Nat} (h:i<=a) (o:a<=9223372036854775807):IntKind.wrap .i64 ((a:Int)-(i:Int))=((a-i:Nat):Int):=by grind [abe]
theorem bep {a b n i:Nat}{xs:List PV} (I:xs.length<=100000000) (H:i<n) (h:a+i<xs.length) (o:b+i<xs.length):
 S204_2step 0 ((),(a:Int),(b:Int),(n:Int),(i:Int),xs)=some (.inl ((),(a:Int),(b:Int),(n:Int),((i+1:Nat):Int),swp xs (b+i) (a+i))):=by
 have z:decide ((i:Int)<(n:Int))=true:=Ag (by omega)
 simp only [S204_2step,S204_2,z,asu (show a+i<=9223372036854775807 by omega),asu (show b+i<=9223372036854775807 by omega),aat i (by omega),aaa,Ai,Ag h,Ag o,Af,List.length_set,swp]
theorem swr {a b n:Nat}:∀ (X Y U V W:List PV) (i:Nat),X.length=Y.length->a+i=U.length->b+i=U.length+X.length+V.length->i+X.length=n->(U++(X++(V++(Y++W)))).length<=100000000->
 aa3 (S204_2step 0) ((),(a:Int),(b:Int),(n:Int),(i:Int),U++(X++(V++(Y++W))))=some (U++(Y++(V++(X++W)))):=by
 intro X
 induction X with
 | nil=>
  intro Y U V W i h o z I H
  have:Y=[]:=List.length_eq_zero_iff.1 (by grind)
  subst this
  refine aai ?_
  have Z:decide ((i:Int)<(n:Int))=false:=An (by grind)
  simp only [S204_2step,S204_2,Z,Ah]
 | cons x X ih=>
  intro Y U V W i h o z I H
  cases Y with
  | nil=>simp at h
  | cons y Y=>
   simp only [Ax] at h z I
   have e:U++(x::X++(V++(y::Y++W)))=U++x::((X++V)++y::(Y++W)):=by simp
   have M:a+i<(U++(x::X++(V++(y::Y++W)))).length:=by simp;omega
   have O:b+i<(U++(x::X++(V++(y::Y++W)))).length:=by simp;omega
   have J:swp (U++(x::X++(V++(y::Y++W)))) (b+i) (a+i)=(U++[y])++(X++((V++[x])++(Y++W))):=by rw [e,azd o (by simp;omega)];simp
   rw [aao (bep H (by omega) M O),J,ih Y (U++[y]) (V++[x]) W (i+1) (by omega) (by simp;omega) (by simp;omega) (by omega) (by simp_all)]
   simp
theorem alw {a b n:Nat}{X Y U V W:List PV} (h:X.length=Y.length) (o:a=U.length) (z:b=U.length+X.length+V.length) (I:n=X.length) (H:(U++(X++(V++(Y++W)))).length<=100000000):
 F204 0 () (a:Int) (b:Int) (n:Int) () (U++(X++(V++(Y++W))))=some (U++(Y++(V++(X++W)))):=by
 unfold F204
 show (aa3 _ _).bind _=_
 grind [swr,aa3,S204_2step]
theorem rot {m:Nat}:∀ (k:Nat) (X Y P Q:List PV),X.length+Y.length<=k->X≠[]->Y≠[]->m=P.length+X.length->(P++(X++(Y++Q))).length<=100000000->
 ∃ (i:Nat) (ys:List PV),aa3 (S189_3step 0) ((),(m:Int),(),(X.length:Int),(Y.length:Int),P++(X++(Y++Q)))=some ((),(m:Int),(),(i:Int),ys)/\
  F204 0 () (IntKind.wrap .i64 ((m:Int)-(i:Int))) (m:Int) (i:Int) () ys=some (P++(Y++(X++Q))):=by
 intro k
 induction k with
 | zero=>simp_all
 | succ k ih=>
  intro X Y P Q h hx hy hm hl
  have aj:0<X.length:=List.length_pos_iff.2 hx
  have ak:0<Y.length:=List.length_pos_iff.2 hy
  have ad:=hl
  simp only [Al] at ad
  rcases Nat.lt_trichotomy X.length Y.length with ai | ab | ah
  ·have o:((X.length:Int) != (Y.length:Int))=true:=by simp;omega
   have H:decide ((X.length:Int)>(Y.length:Int))=false:=An (by omega);have eY:Y=Y.take (Y.length-X.length)++Y.drop (Y.length-X.length):=(List.take_append_drop _ _).symm;generalize aa:Y.take (Y.length-X.length)=M at eY;generalize ag:Y.drop (Y.length-X.length)=O at eY;have Z:M.length=Y.length-X.length:=by rw [<-aa,List.length_take];omega
   have l2:O.length=X.length:=by grind
   have z:=alw (a:=m-X.length) (b:=m+Y.length-X.length) (n:=X.length) (X:=X) (Y:=O) (U:=P) (V:=M) (W:=Q) l2.symm (by omega) (by omega) rfl (by simp;omega);have e1:P++(X++(M++(O++Q)))=P++(X++(Y++Q)):=by rw [eY];simp
   rw [e1] at z;obtain ⟨i,ys,r1,r2⟩:=ih O M P (X++Q) (by omega) (by grind) (by grind) (by omega) (by simp;omega);refine ⟨i,ys,?_,?_⟩
   ·rw [aao (x1:=((),(m:Int),(),(O.length:Int),(M.length:Int),P++(O++(M++(X++Q)))))]
    ·exact r1
    ·simp only [S189_3step,S189_3,o,H,Af,Ah,ai1 (show X.length<=m by omega) (by omega),asu (show m+Y.length<=9223372036854775807 by omega),ai1 (show X.length<=m+Y.length by omega) (by omega),z,Aa,ai1 (show X.length<=Y.length by omega) (by omega)];rw [Z,l2]
   grind
  ·have o:((X.length:Int) != (Y.length:Int))=false:=by simp;omega
   refine ⟨X.length,P++(X++(Y++Q)),aai ?_,?_⟩
   ·simp only [S189_3step,S189_3,o,Ah]
   ·rw [ai1 (show X.length<=m by omega) (by omega)];have:=alw (a:=m-X.length) (b:=m) (n:=X.length) (X:=X) (Y:=Y) (U:=P) (V:=[]) (W:=Q) ab (by omega) (by simp;omega) rfl (by simpa using hl);simpa using this
  ·have o:((X.length:Int) != (Y.length:Int))=true:=by simp;omega
   have H:decide ((X.length:Int)>(Y.length:Int))=true:=Ag (by omega);have eX:X=X.take Y.length++X.drop Y.length:=(List.take_append_drop _ _).symm;generalize ae:X.take Y.length=I at eX;generalize af:X.drop Y.length=J at eX;have Z:I.length=Y.length:=by grind
   have l2:J.length=X.length-Y.length:=by grind
   have z:=alw (a:=m-X.length) (b:=m) (n:=Y.length) (X:=I) (Y:=Y) (U:=P) (V:=J) (W:=Q) Z (by omega) (by omega) Z.symm (by simp;omega);have e1:P++(I++(J++(Y++Q)))=P++(X++(Y++Q)):=by rw [eX];simp
   rw [e1] at z;obtain ⟨i,ys,r1,r2⟩:=ih J I (P++Y) Q (by omega) (by grind) (by grind) (by simp;omega) (by simp;omega);refine ⟨i,ys,?_,?_⟩
   ·rw [aao (x1:=((),(m:Int),(),(J.length:Int),(I.length:Int),(P++Y)++(J++(I++Q))))]
    ·exact r1
    ·simp only [S189_3step,S189_3,o,H,Af,ai1 (show X.length<=m by omega) (by omega),z,Aa,ai1 (show Y.length<=X.length by omega) (by omega)];grind
   grind
theorem a5r {a m b:Nat}{X Y P Q:List PV} (H:X≠[]) (I:Y≠[]) (J:a=P.length) (z:m=P.length+X.length) (M:b=m+Y.length) (o:(P++(X++(Y++Q))).length<=100000000):
 F189 0 () (a:Int) (m:Int) (b:Int) () (P++(X++(Y++Q)))=some (P++(Y++(X++Q))):=by
 have h:=o
 simp only [Al] at h
 obtain ⟨i,ys,O,Z⟩:=rot (m:=m) _ X Y P Q (Nat.le_refl _) H I z o
 unfold F189
 rw [ai1 (show a<=m by omega) (by omega),ai1 (show m<=b by omega) (by omega),show m-a=X.length by omega,show b-m=Y.length by omega]
 show (aa3 _ _).bind _=_
 grind
theorem av2 {σ τ:Type}{step:σ->Option (σ⊕τ)} (st:Nat->Nat->σ) (I:Nat->τ) (q:Nat->Bool) (lo0 hi0:Nat)
 (Z:∀ o z,lo0<=o->o<z->z<=hi0->step (st o z)=some (.inl (bif q ((o+z) / 2) then st ((o+z) / 2+1) z else st o ((o+z) / 2)))) (ab:∀ o,lo0<=o->o<=hi0->step (st o o)=some (.inr (I o))) (h0:lo0<=hi0):
 ∃ i,aa3 step (st lo0 hi0)=some (I i)/\lo0<=i/\i<=hi0/\(lo0<i->q (i-1)=true)/\(i<hi0->q i=false):=by
 suffices H:∀ (n o z:Nat),z-o<=n->lo0<=o->o<=z->z<=hi0->(lo0<o->q (o-1)=true)->(z<hi0->q z=false)->∃ i,aa3 step (st o z)=some (I i)/\lo0<=i/\i<=hi0/\(lo0<i->q (i-1)=true)/\(i<hi0->q i=false) from
  H _ lo0 hi0 (Nat.le_refl _) (Nat.le_refl _) h0 (Nat.le_refl _) (λh=>by omega) (λh=>by omega)
 intro n
 induction n with
 | zero=>
  intro o z hn M h2 O h4 h5
  have:z=o:=by omega
  grind [aai]
 | succ n ih=>
  intro o z hn M h2 O h4 h5
  rcases Nat.lt_or_ge o z with aa | ad
  ·have J:=Z o z M aa O;cases hq:q ((o+z) / 2) with
   | true=>rw [hq] at J;rw [aao J];exact ih ((o+z) / 2+1) z (by omega) (by omega) (by omega) O (λ_=>by grind) h5
   | false=>rw [hq] at J;rw [aao J];exact ih o ((o+z) / 2) (by omega) M (by omega) (by omega) h4 (λ_=>hq)
  grind [aai]
theorem half {i j:Nat} (h:i+j<=4611686018427387904):IntKind.wrap .i64 ((IntKind.wrap .u64 (IntKind.wrap .i64 ((i:Int)+(j:Int)))).fdiv (2^(min (1:Int).toNat (IntKind.bits .u64))))=(((i+j) / 2:Nat):Int):=by grind [asu,IntKind.wrap,IntWalk.u64_in,min,IntKind.bits,Int.fdiv_eq_ediv_of_nonneg,abe]
end Go.Ab
