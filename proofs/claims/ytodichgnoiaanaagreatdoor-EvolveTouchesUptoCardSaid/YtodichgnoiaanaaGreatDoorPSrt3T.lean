/- Changes are sorted: two sorted parts are merged in place. -/
import Derived.Test.YtodichgnoiaanaaGreatDoorPOrdT
set_option linter.unusedVariables false
set_option linter.unusedSimpArgs false
set_option linter.unnecessarySimpa false
namespace Go.Ab
open Go
set_option maxRecDepth 100000
theorem ayt (x:PV):leC x x:=by have:=Lin.cmpC.anti x x;grind
theorem ark {U B Q:List PV}{r i:Nat}{d:PV} (o:i=U.length+r) (h:r<B.length):(U++(B++Q)).getD i d=B.getD r d:=by grind
theorem am9 {L:List PV} (I:Srt L) {r:Nat} (H:0<r) (h:r<=L.length) {u:PV} (o:u∈L.take r):leC u (L.getD (r-1) .bad):=by obtain ⟨i,z,rfl⟩:=List.mem_iff_getElem.1 o;grind [aag,Nat.lt_or_ge,List.pairwise_iff_getElem,ayt]
theorem am8 {L:List PV} (H:Srt L) {r:Nat} (h:r<L.length) {u:PV} (o:u∈L.drop r):leC (L.getD r .bad) u:=by obtain ⟨i,z,rfl⟩:=List.mem_iff_getElem.1 o;grind [aag,Nat.eq_zero_or_pos,ayt,List.pairwise_iff_getElem]
abbrev SymR:=(Unit×Int×Int×Int×Unit×(List PV))->Option (List PV)
theorem find4 {r0:SymR}{a m b:Nat}{xs:List PV} (M:OkL xs) (I:a<xs.length) (hb:b<=xs.length) (O:m<=b):
 ∃ i,aa3 (B169_4step 0 r0) ((),(a:Int),(),(m:Int),(b:Int),xs)=some ((),(a:Int),((i:Nat):Int),xs)/\m<=i/\i<=b/\(m<i->cmpC (xs.getD (i-1) .bad) (xs.getD a .bad)<0)/\(i<b->¬cmpC (xs.getD i .bad) (xs.getD a .bad)<0):=by
 have hl:=M.1
 obtain ⟨i,h1,h2,h3,h4,h5⟩:=av2 (step:=B169_4step 0 r0) (λo z=>((),(a:Int),(),((o:Nat):Int),((z:Nat):Int),xs)) (λo=>((),(a:Int),((o:Nat):Int),xs)) (λh=>decide (cmpC (xs.getD h .bad) (xs.getD a .bad)<0)) m b
  (λo z Z g2 g3=>by
   have H:decide ((o:Int)<(z:Int))=true:=Ag (by omega);have J:(o+z) / 2<xs.length:=by omega
   simp only [B169_4step,B169_4,H,half (show o+z<=4611686018427387904 by omega),aaa,Ag J,Ag I,Af,Ai,ayd M J I,Aa,aat ((o+z) / 2) (by omega)];grind)
  (λo _ _=>by have H:decide ((o:Int)<(o:Int))=false:=An (by omega);simp only [B169_4step,B169_4,H,Ah]) O
 grind
theorem bdp {r0:SymR}{a m:Nat}{xs:List PV} (M:OkL xs) (J:m<xs.length) (O:a<=m):
 ∃ i,aa3 (B169_16step 0 r0) ((),(m:Int),(),(a:Int),(m:Int),xs)=some ((),(m:Int),((i:Nat):Int),xs)/\a<=i/\i<=m/\(a<i->¬cmpC (xs.getD m .bad) (xs.getD (i-1) .bad)<0)/\(i<m->cmpC (xs.getD m .bad) (xs.getD i .bad)<0):=by
 have hl:=M.1
 obtain ⟨i,h1,h2,h3,h4,h5⟩:=av2 (step:=B169_16step 0 r0) (λo z=>((),(m:Int),(),((o:Nat):Int),((z:Nat):Int),xs)) (λo=>((),(m:Int),((o:Nat):Int),xs)) (λh=>!(decide (cmpC (xs.getD m .bad) (xs.getD h .bad)<0))) a m
  (λo z Z g2 g3=>by
   have H:decide ((o:Int)<(z:Int))=true:=Ag (by omega);have I:(o+z) / 2<xs.length:=by omega
   simp only [B169_16step,B169_16,H,half (show o+z<=4611686018427387904 by omega),aaa,Ag I,Ag J,Af,Ai,ayd M J I,Aa,aat ((o+z) / 2) (by omega)];grind)
  (λo _ _=>by have H:decide ((o:Int)<(o:Int))=false:=An (by omega);simp only [B169_16step,B169_16,H,Ah]) O
 grind
theorem bdq {r0:SymR}{a m b mid n lo0 hi0 p:Nat}{xs:List PV} (M:OkL xs) (Z:hi0<=xs.length) (hp:∀ h,lo0<=h->h<hi0->h<=p/\p-h<xs.length) (aa:p<=4611686018427387904) (O:lo0<=hi0):
 ∃ i,aa3 (B169_34step 0 r0) ((),(a:Int),(m:Int),(b:Int),(),(mid:Int),(n:Int),(lo0:Int),(hi0:Int),(p:Int),xs)=some ((),(a:Int),(m:Int),(b:Int),(),(mid:Int),(n:Int),((i:Nat):Int),xs)/\lo0<=i/\i<=hi0/\
  (lo0<i->¬cmpC (xs.getD (p-(i-1)) .bad) (xs.getD (i-1) .bad)<0)/\(i<hi0->cmpC (xs.getD (p-i) .bad) (xs.getD i .bad)<0):=by
 have hl:=M.1
 obtain ⟨i,h1,h2,h3,h4,h5⟩:=av2 (step:=B169_34step 0 r0) (λo z=>((),(a:Int),(m:Int),(b:Int),(),(mid:Int),(n:Int),((o:Nat):Int),((z:Nat):Int),(p:Int),xs)) (λo=>((),(a:Int),(m:Int),(b:Int),(),(mid:Int),(n:Int),((o:Nat):Int),xs)) (λh=>!(decide (cmpC (xs.getD (p-h) .bad) (xs.getD h .bad)<0))) lo0 hi0
  (λo z g1 g2 g3=>by
   have H:decide ((o:Int)<(z:Int))=true:=Ag (by omega);have I:(o+z) / 2<xs.length:=by omega
   obtain ⟨k1,J⟩:=hp ((o+z) / 2) (by omega) (by omega);simp only [B169_34step,B169_34,H,half (show o+z<=4611686018427387904 by omega),ai1 k1 (by omega),aaa,Ag I,Ag J,Af,Ai,ayd M J I,Aa,aat ((o+z) / 2) (by omega)];grind)
  (λo _ _=>by have H:decide ((o:Int)<(o:Int))=false:=An (by omega);simp only [B169_34step,B169_34,H,Ah]) O
 grind
theorem bubR {r0:SymR}{i:Nat}{x:PV}{W:List PV}:∀ (B U:List PV),i=U.length+B.length+1->(U++(x::(B++W))).length<=100000000->
 aa3 (B169_10step 0 r0) ((),(i:Int),((U.length:Nat):Int),U++(x::(B++W)))=some (U++(B++x::W)):=by
 intro B
 induction B with
 | nil=>
  intro U z H
  have h:=H;simp only [Al,Ax] at h
  refine aai ?_
  simp only [Aw] at z
  have o:decide (((U.length:Nat):Int)<((i-1:Nat):Int))=false:=An (by omega)
  simp only [B169_10step,B169_10,a7a (show 1<=i by omega) (by omega),o,Ah]
  rfl
 | cons y B M=>
  intro U z H
  have h:=H;simp only [Al,Ax] at h z
  have o:decide (((U.length:Nat):Int)<((i-1:Nat):Int))=true:=Ag (by omega)
  have I:U.length<(U++(x::(y::B++W))).length:=by simp
  have J:U.length+1<(U++(x::(y::B++W))).length:=by simp
  have e:swp (U++(x::(y::B++W))) (U.length+1) U.length=(U++[y])++(x::(B++W)):=by have:=azd (U:=U) (V:=[]) (W:=B++W) (x:=x) (y:=y) (i:=U.length) (j:=U.length+1) rfl (by simp);simpa using this
  rw [aao (x1:=((),(i:Int),(((U++[y]).length:Nat):Int),(U++[y])++(x::(B++W)))),M (U++[y]) (by simp;omega) (by simp;omega)]
  ·simp
  ·rw [<-e];simp only [B169_10step,B169_10,a7a (show 1<=i by omega) (by omega),o,Af,aat U.length (by omega),aaa,Ag I,Ag J,Ai,List.length_set,swp];simp
theorem bubL {r0:SymR}{y:PV}:∀ (R U W:List PV),(U++(R.reverse++y::W)).length<=100000000->
 aa3 (B169_22step 0 r0) ((),((U.length:Nat):Int),((U.length+R.length:Nat):Int),U++(R.reverse++y::W))=some (U++(y::(R.reverse++W))):=by
 intro R
 induction R with
 | nil=>
  intro U W H
  refine aai ?_
  have h:decide (((U.length+([]:List PV).length:Nat):Int)>((U.length:Nat):Int))=false:=An (by simp)
  simp only [B169_22step,B169_22,h,Ah]
  rfl
 | cons z R M=>
  intro U W H
  have o:=H;simp only [Al,Ax,List.length_reverse] at o
  have h:decide (((U.length+(z::R).length:Nat):Int)>((U.length:Nat):Int))=true:=Ag (by simp<;>omega)
  have I:U.length+(z::R).length<(U++((z::R).reverse++y::W)).length:=by simp
  have J:U.length+(z::R).length-1<(U++((z::R).reverse++y::W)).length:=by simp<;>omega
  have w:IntKind.wrap .i64 (((U.length+(z::R).length:Nat):Int)-1)=((U.length+(z::R).length-1:Nat):Int):=a7a (by grind) (by grind)
  have e:swp (U++((z::R).reverse++y::W)) (U.length+(z::R).length-1) (U.length+(z::R).length)=U++(R.reverse++y::(z::W)):=by have:=a6j (U:=U++R.reverse) (V:=[]) (W:=W) (x:=z) (y:=y) (i:=U.length+(z::R).length-1) (j:=U.length+(z::R).length) (by simp) (by simp;omega);simpa using this
  rw [aao (x1:=((),((U.length:Nat):Int),((U.length+R.length:Nat):Int),U++(R.reverse++y::(z::W)))),M U (z::W) (by simp;omega)]
  ·simp
  ·rw [<-e];simp only [B169_22step,B169_22,h,Af,w,aaa,Ag I,Ag J,Ai,List.length_set,swp];simp
def a7d (R:SymR->Prop) (k:Nat):Prop:=∀ (P A B Q:List PV),A≠[]->B≠[]->A.length+B.length<=k->Srt A->Srt B->OkL (P++(A++(B++Q)))->
 ∃ C,C.Perm (A++B)/\Srt C/\∀ r0,R r0->r0 ((),((P.length:Nat):Int),((P.length+A.length:Nat):Int),((P.length+A.length+B.length:Nat):Int),(),P++(A++(B++Q)))=some (P++(C++Q))
theorem avd {R:SymR->Prop}{k:Nat} (H:a7d R k) {P A B Q:List PV}{a s e:Nat} (z:a=P.length) (Z:s=P.length+A.length) (M:e=P.length+A.length+B.length) (o:Srt A) (hB:Srt B) (ok:OkL (P++(A++(B++Q)))) (O:A.length+B.length<=k):
 ∃ C,C.Perm (A++B)/\Srt C/\∀ r0,R r0->(bif (bif decide ((a:Int)<(s:Int)) then decide ((s:Int)<(e:Int)) else false) then r0 ((),(a:Int),(s:Int),(e:Int),(),P++(A++(B++Q))) else some (P++(A++(B++Q))))=some (P++(C++Q)):=by
 subst z;subst Z;subst M
 cases A with
 | nil=>
  have h:decide (((P.length:Nat):Int)<((P.length+([]:List PV).length:Nat):Int))=false:=An (by simp)
  refine ⟨B,by simp,hB,λr0 _=>?_⟩
  rw [h];simp
 | cons x A=>
  cases B with
  | nil=>
   have h:decide (((P.length+(x::A).length:Nat):Int)<((P.length+(x::A).length+([]:List PV).length:Nat):Int))=false:=An (by simp)
   refine ⟨x::A,by simp,o,λr0 _=>?_⟩
   rw [h];simp
  | cons y B=>
   have I:decide (((P.length:Nat):Int)<((P.length+(x::A).length:Nat):Int))=true:=Ag (by simp<;>omega)
   have J:decide (((P.length+(x::A).length:Nat):Int)<((P.length+(x::A).length+(y::B).length:Nat):Int))=true:=Ag (by simp<;>omega)
   obtain ⟨C,h1,h2,h3⟩:=H P (x::A) (y::B) Q (by simp) (by simp) O o hB ok
   grind
end Go.Ab
namespace Go.Ab
open Go
set_option maxRecDepth 100000
def noR:SymR:=λ_=>none
theorem bdy {n:Nat} (h:n=1):(((n:Nat):Int)==(1:Int))=true:=by subst h;rfl
theorem a5e {n:Nat} (h:n≠1):(((n:Nat):Int)==(1:Int))=false:=by simp;omega
theorem bam {x:PV}{B P Q:List PV}{a m b:Nat} (I:a=P.length) (hm:m=P.length+1) (hb:b=m+B.length) (hB:Srt B) (M:OkL (P++([x]++(B++Q)))):
 ∃ C,C.Perm ([x]++B)/\Srt C/\∀ r0,B169 0 r0 () (a:Int) (m:Int) (b:Int) () (P++([x]++(B++Q)))=some (P++(C++Q)):=by
 have hl:=M.1
 simp only [Al,Ax,Aw] at hl
 obtain ⟨i,h1,h2,h3,h4,h5⟩:=find4 (r0:=noR) (a:=a) (m:=m) (b:=b) M (by simp;omega) (by simp;omega) (by omega)
 have z:(P++([x]++(B++Q))).getD a .bad=x:=aj8 I
 have H:∀ r,r<B.length->(P++([x]++(B++Q))).getD (m+r) .bad=B.getD r .bad:=by grind [ark]
 generalize hr:i-m=r at*
 have hi:i=m+r:=by omega
 subst hi
 have Z:B=B.take r++B.drop r:=(List.take_append_drop _ _).symm
 have q1:∀ y,y∈B.take r->leC y x:=by
  intro y J;have o:0<r:=by grind
  have:=h4 (by omega);rw [z,show m+r-1=m+(r-1) by omega,H (r-1) (by omega)] at this;exact adu (am9 hB o (by omega) J) (by grind)
 have q2:∀ y,y∈B.drop r->leC x y:=by
  intro y J;have o:r<B.length:=by grind [Nat.lt_or_ge,List.drop_eq_nil_of_le]
  grind [adu,ain,am8]
 refine ⟨B.take r++x::B.drop r,?_,?_,λr0=>?_⟩
 ·refine List.perm_middle.trans ?_;grind [List.Perm.refl]
 ·have h:=hB;rw [Z,Srt,List.pairwise_append] at h;rw [Srt,List.pairwise_append];refine ⟨h.1,List.pairwise_cons.2 ⟨q2,h.2.1⟩,λu hu v hv=>?_⟩;grind
 ·have O:aaf 0 (B169_4step 0 r0) ((),(a:Int),(),(m:Int),(b:Int),P++([x]++(B++Q)))=some ((),(a:Int),(((m+r:Nat)):Int),P++([x]++(B++Q))):=h1;have l1:(B.take r).length=r:=by rw [List.length_take];omega
  have eX:P++([x]++(B++Q))=P++(x::(B.take r++(B.drop r++Q))):=by grind
  have e2:aaf 0 (B169_10step 0 r0) ((),((m+r:Nat):Int),(a:Int),P++([x]++(B++Q)))=some (P++((B.take r++x::B.drop r)++Q)):=by have:=bubR (r0:=r0) (i:=m+r) (x:=x) (W:=B.drop r++Q) (B.take r) P (by omega) (by grind);rw [<-eX] at this;rw [I];refine Eq.trans this ?_;simp
  unfold B169;rw [ai1 (show a<=m by omega) (by omega),bdy (show m-a=1 by omega),Af,O];grind
theorem a6k {y:PV}{A P Q:List PV}{a m b:Nat} (ha:a=P.length) (hm:m=P.length+A.length) (hb:b=m+1) (aa:A.length≠1) (J:Srt A) (O:OkL (P++(A++([y]++Q)))):
 ∃ C,C.Perm (A++[y])/\Srt C/\∀ r0,B169 0 r0 () (a:Int) (m:Int) (b:Int) () (P++(A++([y]++Q)))=some (P++(C++Q)):=by
 have hl:=O.1
 simp only [Al,Ax,Aw] at hl
 obtain ⟨i,h1,h2,h3,h4,h5⟩:=bdp (r0:=noR) (a:=a) (m:=m) O (by simp;omega) (by omega)
 have H:(P++(A++([y]++Q))).getD m .bad=y:=by grind [aj8]
 have z:∀ r,r<A.length->(P++(A++([y]++Q))).getD (a+r) .bad=A.getD r .bad:=λr M=>ark (by omega) M
 generalize M:i-a=r at*
 have hi:i=a+r:=by omega
 subst hi
 have eA:A=A.take r++A.drop r:=(List.take_append_drop _ _).symm
 have q1:∀ u,u∈A.take r->leC u y:=by
  intro u I;have o:0<r:=by grind
  have:=h4 (by omega);rw [H,show a+r-1=a+(r-1) by omega,z (r-1) (by omega)] at this;grind [adu,am9,ain]
 have q2:∀ u,u∈A.drop r->leC y u:=by
  intro u I;have o:r<A.length:=by grind [Nat.lt_or_ge,List.drop_eq_nil_of_le]
  have:=h5 (by omega);rw [H,z r o] at this;exact adu (by grind) (am8 J o I)
 refine ⟨A.take r++y::A.drop r,?_,?_,λr0=>?_⟩
 ·refine List.perm_middle.trans ?_;grind [List.perm_append_comm]
 ·have h:=J;rw [eA,Srt,List.pairwise_append] at h;rw [Srt,List.pairwise_append];refine ⟨h.1,List.pairwise_cons.2 ⟨q2,h.2.1⟩,λu I v hv=>?_⟩;grind
 ·have Z:aaf 0 (B169_16step 0 r0) ((),(m:Int),(),(a:Int),(m:Int),P++(A++([y]++Q)))=some ((),(m:Int),(((a+r:Nat)):Int),P++(A++([y]++Q))):=h1;have l1:(A.take r).length=r:=by rw [List.length_take];omega
  have l2:(A.drop r).length=A.length-r:=by grind
  have eX:P++(A++([y]++Q))=(P++A.take r)++((A.drop r).reverse.reverse++y::Q):=by grind
  have e2:aaf 0 (B169_22step 0 r0) ((),((a+r:Nat):Int),(m:Int),P++(A++([y]++Q)))=some (P++((A.take r++y::A.drop r)++Q)):=by have:=bubL (r0:=r0) (y:=y) (A.drop r).reverse (P++A.take r) Q (by grind);rw [<-eX,Al,List.length_reverse,l1,l2,show P.length+r=a+r by omega,show a+r+(A.length-r)=m by omega] at this;refine Eq.trans this ?_;simp
  unfold B169;rw [ai1 (show a<=m by omega) (by omega),a5e (show m-a≠1 by omega),Ah,ai1 (show m<=b by omega) (by omega),bdy (show b-m=1 by omega),Af,Z];grind
noncomputable def a5t (r0:SymR) (a m b mid s e:Int) (xs:List PV):Option (List PV):=
 (bif (bif decide (s<m) then decide (m<e) else false) then F189 0 () s m e () xs else some xs).bind λy=>
 (bif (bif decide (a<s) then decide (s<mid) else false) then r0 ((),a,s,mid,(),y) else some y).bind λz=>
 bif (bif decide (mid<e) then decide (e<b) else false) then r0 ((),mid,e,b,(),z) else some z
theorem ban {R:SymR->Prop}{k:Nat} (H:a7d R k) {P A1 A2 B1 B2 Q:List PV}{a s m mid e b:Nat} (ha:a=P.length) (hs:s=a+A1.length) (hm:m=s+A2.length) (Z:mid=s+B1.length) (he:e=m+B1.length) (hb:b=e+B2.length)
 (hA:Srt (A1++A2)) (hB:Srt (B1++B2)) (x1:∀ u,u∈A1->∀ v,v∈B2->leC u v) (x2:∀ u,u∈B1->∀ v,v∈A2->leC u v) (k1:A1.length+B1.length<=k) (k2:A2.length+B2.length<=k) (ok:OkL (P++(A1++(A2++(B1++(B2++Q)))))):
 ∃ C,C.Perm ((A1++A2)++(B1++B2))/\Srt C/\∀ r0,R r0->a5t r0 (a:Int) (m:Int) (b:Int) (mid:Int) (s:Int) (e:Int) (P++(A1++(A2++(B1++(B2++Q)))))=some (P++(C++Q)):=by
 have hl:=ok.1
 simp only [Al] at hl
 have M:(bif (bif decide ((s:Int)<(m:Int)) then decide ((m:Int)<(e:Int)) else false) then F189 0 () (s:Int) (m:Int) (e:Int) () (P++(A1++(A2++(B1++(B2++Q))))) else some (P++(A1++(A2++(B1++(B2++Q))))))=some (P++(A1++(B1++(A2++(B2++Q))))):=by
  cases A2 with
  | nil=>grind
  | cons u A2=>
   cases B1 with
   | nil=>grind
   | cons v B1=>have aa:decide ((s:Int)<(m:Int))=true:=Ag (by grind);have ab:decide ((m:Int)<(e:Int))=true:=Ag (by grind);have:=a5r (a:=s) (m:=m) (b:=e) (X:=u::A2) (Y:=v::B1) (P:=P++A1) (Q:=B2++Q) (by simp) (by simp) (by simp;omega) (by grind) he (by grind);grind
 have h:=hA;rw [Srt,List.pairwise_append] at h
 have o:=hB;rw [Srt,List.pairwise_append] at o
 have z:OkL (P++(A1++(B1++(A2++(B2++Q))))):=ok.perm (by grind [List.Perm.append_left,List.append_assoc,List.Perm.append_right,List.perm_append_comm])
 obtain ⟨I,O,c2,c3⟩:=avd H (P:=P) (A:=A1) (B:=B1) (Q:=A2++(B2++Q)) (a:=a) (s:=s) (e:=mid) ha (by omega) (by omega) h.1 o.1 z k1
 have lc:=O.length_eq
 rw [Al] at lc
 have J:OkL ((P++I)++(A2++(B2++Q))):=z.perm (by grind [List.append_assoc,List.Perm.append_left,List.Perm.append_right])
 obtain ⟨C2,d1,d2,d3⟩:=avd H (P:=P++I) (A:=A2) (B:=B2) (Q:=Q) (a:=mid) (s:=e) (e:=b) (by simp;omega) (by simp;omega) (by simp;omega) h.2.1 o.2.1 J k2
 refine ⟨I++C2,?_,?_,λr0 hr=>?_⟩
 ·refine (List.Perm.append O d1).trans ?_;rw [As,As];grind [List.Perm.append_left,List.append_assoc,List.Perm.append_right,List.perm_append_comm]
 ·grind
 grind [a5t,List.append_assoc]
theorem bc1 {R:SymR->Prop}{k:Nat} (H:a7d R k) {A B P Q:List PV}{a m b:Nat} (ha:a=P.length) (hm:m=P.length+A.length) (hb:b=m+B.length) (ae:2<=A.length) (af:2<=B.length) (hk:A.length+B.length<=k+1) (hA:Srt A) (hB:Srt B) (ok:OkL (P++(A++(B++Q)))):
 ∃ C,C.Perm (A++B)/\Srt C/\∀ r0,R r0->B169 0 r0 () (a:Int) (m:Int) (b:Int) () (P++(A++(B++Q)))=some (P++(C++Q)):=by
 have hl:=ok.1
 simp only [Al] at hl
 have ab:∀ r,r<A.length->(P++(A++(B++Q))).getD (a+r) .bad=A.getD r .bad:=λr hr=>ark (by omega) hr
 have ad:∀ r,r<B.length->(P++(A++(B++Q))).getD (m+r) .bad=B.getD r .bad:=by grind
 have ag:(P++(A++(B++Q))).length=P.length+(A.length+(B.length+Q.length)):=by simp
 have key:∀ (lo0 hi0:Nat),lo0<=hi0->hi0<=m->hi0<=(a+b) / 2->a<=lo0->(a+b) / 2+m<=lo0+b->(∀ s,lo0<=s->s<=hi0->(a<s->(a+b) / 2+m-s<b->lo0<s)/\(s<m->s<(a+b) / 2->s<hi0))->
  ∃ s,∃ C,C.Perm (A++B)/\Srt C/\a<=s/\s<=m/\s<=(a+b) / 2+m/\
   (∀ r0,aa3 (B169_34step 0 r0) ((),(a:Int),(m:Int),(b:Int),(),(((a+b) / 2:Nat):Int),(((a+b) / 2+m:Nat):Int),(lo0:Int),(hi0:Int),(((a+b) / 2+m-1:Nat):Int),P++(A++(B++Q)))=some ((),(a:Int),(m:Int),(b:Int),(),(((a+b) / 2:Nat):Int),(((a+b) / 2+m:Nat):Int),((s:Nat):Int),P++(A++(B++Q))))/\
   ∀ r0,R r0->a5t r0 (a:Int) (m:Int) (b:Int) (((a+b) / 2:Nat):Int) (s:Int) (((a+b) / 2+m-s:Nat):Int) (P++(A++(B++Q)))=some (P++(C++Q)):=by
  intro lo0 hi0 g1 g2 g3 g4 g5 g6
  obtain ⟨s,h1,h2,O,h4,h5⟩:=bdq (r0:=noR) (a:=a) (m:=m) (b:=b) (mid:=(a+b) / 2) (n:=(a+b) / 2+m) (lo0:=lo0) (hi0:=hi0) (p:=(a+b) / 2+m-1) ok (by omega) (λh k1 k2=>⟨by omega,by omega⟩) (by omega) g1
  obtain ⟨g7,g8⟩:=g6 s h2 O
  have eA:A.take (s-a)++A.drop (s-a)=A:=List.take_append_drop _ _
  have eB:B.take ((a+b) / 2-s)++B.drop ((a+b) / 2-s)=B:=List.take_append_drop _ _
  have lA:(A.take (s-a)).length=s-a:=by rw [List.length_take];omega
  have ah:(A.drop (s-a)).length=m-s:=by grind
  have lB:(B.take ((a+b) / 2-s)).length=(a+b) / 2-s:=by rw [List.length_take];omega
  have ai:(B.drop ((a+b) / 2-s)).length=b-((a+b) / 2+m-s):=by rw [Bk];omega
  have x1:∀ u,u∈A.take (s-a)->∀ v,v∈B.drop ((a+b) / 2-s)->leC u v:=by
   intro u hu v hv;have Z:0<s-a:=by grind
   have o:(a+b) / 2-s<B.length:=by grind
   have hq:=h4 (g7 (by omega) (by omega));rw [show (a+b) / 2+m-1-(s-1)=m+((a+b) / 2-s) by omega,show s-1=a+(s-a-1) by omega,ab _ (by omega),ad _ o] at hq;exact adu (am9 hA Z (by omega) hu) (adu (ain hq) (am8 hB o hv))
  have x2:∀ u,u∈B.take ((a+b) / 2-s)->∀ v,v∈A.drop (s-a)->leC u v:=by
   intro u hu v hv;have Z:0<(a+b) / 2-s:=by grind
   have o:s-a<A.length:=by grind
   have hq:=h5 (g8 (by omega) (by omega));have e1:(P++(A++(B++Q))).getD ((a+b) / 2+m-1-s) .bad=B.getD ((a+b) / 2-s-1) .bad:=by rw [show (a+b) / 2+m-1-s=m+((a+b) / 2-s-1) by omega];exact ad _ (by omega)
   have e2:(P++(A++(B++Q))).getD s .bad=A.getD (s-a) .bad:=by have:=ab (s-a) o;rw [show a+(s-a)=s by omega] at this;exact this
   rw [e1,e2] at hq;exact adu (am9 hB Z (by omega) hu) (adu (by grind) (am8 hA o hv))
  obtain ⟨C,z,I,M⟩:=ban H (P:=P) (A1:=A.take (s-a)) (A2:=A.drop (s-a)) (B1:=B.take ((a+b) / 2-s)) (B2:=B.drop ((a+b) / 2-s)) (Q:=Q) (a:=a) (s:=s) (m:=m) (mid:=(a+b) / 2) (e:=(a+b) / 2+m-s) (b:=b)
   ha (by omega) (by omega) (by omega) (by omega) (by omega) (by grind) (by grind) x1 x2 (by omega) (by omega) (by grind)
  rw [eA,eB] at z
  rw [<-As (B.take _),eB,<-As (A.take _),eA] at M
  exact ⟨s,C,z,I,by omega,by omega,by omega,λr0=>h1,M⟩
 have aa:IntKind.wrap .i64 ((((a+b) / 2:Nat):Int)+(m:Int))=(((a+b) / 2+m:Nat):Int):=asu (by omega)
 have fin:∀ (r0:SymR) (s:Nat) (lo0 hi0:Int) (y:List PV),s<=(a+b) / 2+m->aaf 0 (B169_34step 0 r0) ((),(a:Int),(m:Int),(b:Int),(),(((a+b) / 2:Nat):Int),(((a+b) / 2+m:Nat):Int),lo0,hi0,(((a+b) / 2+m-1:Nat):Int),P++(A++(B++Q)))=some ((),(a:Int),(m:Int),(b:Int),(),(((a+b) / 2:Nat):Int),(((a+b) / 2+m:Nat):Int),((s:Nat):Int),P++(A++(B++Q)))->
  a5t r0 (a:Int) (m:Int) (b:Int) (((a+b) / 2:Nat):Int) (s:Int) (((a+b) / 2+m-s:Nat):Int) (P++(A++(B++Q)))=some y->
  (lo0=(((a+b) / 2+m-b:Nat):Int)/\hi0=(((a+b) / 2:Nat):Int)/\(a+b) / 2<m\/lo0=(a:Int)/\hi0=(m:Int)/\¬(a+b) / 2<m)->
  B169 0 r0 () (a:Int) (m:Int) (b:Int) () (P++(A++(B++Q)))=some y:=by
  intro r0 s lo0 hi0 y hs h1 h2 hc
  have w1:IntKind.wrap .i64 ((((a+b) / 2+m:Nat):Int)-1)=(((a+b) / 2+m-1:Nat):Int):=a7a (by omega) (by omega)
  have w2:IntKind.wrap .i64 ((((a+b) / 2+m:Nat):Int)-(s:Int))=(((a+b) / 2+m-s:Nat):Int):=ai1 hs (by omega)
  unfold B169
  rw [ai1 (show a<=m by omega) (by omega),a5e (show m-a≠1 by omega),Ah,ai1 (show m<=b by omega) (by omega),a5e (show b-m≠1 by omega),Ah]
  simp only [half (show a+b<=4611686018427387904 by omega),aa,w1]
  rw [<-h2]
  unfold a5t
  rcases hc with ⟨rfl,rfl,J⟩ | ⟨rfl,rfl,J⟩
  ·have hd:decide ((m:Int)>(((a+b) / 2:Nat):Int))=true:=Ag (by omega);have w3:IntKind.wrap .i64 ((((a+b) / 2+m:Nat):Int)-(b:Int))=(((a+b) / 2+m-b:Nat):Int):=ai1 (by omega) (by omega);rw [hd,Af,w3,h1];simp only [Aa,w2];generalize (bif decide ((s:Int)<(m:Int)) then decide ((m:Int)<(((a+b) / 2+m-s:Nat):Int)) else false)=z;generalize (bif decide ((a:Int)<(s:Int)) then decide ((s:Int)<(((a+b) / 2:Nat):Int)) else false)=I;generalize (bif decide ((((a+b) / 2:Nat):Int)<(((a+b) / 2+m-s:Nat):Int)) then decide ((((a+b) / 2+m-s:Nat):Int)<(b:Int)) else false)=M;cases z<;>cases I<;>cases M<;>simp
  ·have hd:decide ((m:Int)>(((a+b) / 2:Nat):Int))=false:=An (by omega);rw [hd,Ah,h1];simp only [Aa,w2];generalize (bif decide ((s:Int)<(m:Int)) then decide ((m:Int)<(((a+b) / 2+m-s:Nat):Int)) else false)=z;generalize (bif decide ((a:Int)<(s:Int)) then decide ((s:Int)<(((a+b) / 2:Nat):Int)) else false)=I;generalize (bif decide ((((a+b) / 2:Nat):Int)<(((a+b) / 2+m-s:Nat):Int)) then decide ((((a+b) / 2+m-s:Nat):Int)<(b:Int)) else false)=M;cases z<;>cases I<;>cases M<;>simp
 by_cases J:(a+b) / 2<m
 ·obtain ⟨s,C,z,I,M,c4,c5,c6,c7⟩:=key ((a+b) / 2+m-b) ((a+b) / 2) (by omega) (by omega) (Nat.le_refl _) (by omega) (by omega) (λs h1 h2=>⟨λO h4=>by omega,λO h4=>h4⟩);exact ⟨C,z,I,λr0 hr=>fin r0 s _ _ _ c5 (c6 r0) (c7 r0 hr) (Or.inl ⟨rfl,rfl,J⟩)⟩
 ·obtain ⟨s,C,z,I,M,c4,c5,c6,c7⟩:=key a m (by omega) (Nat.le_refl _) (by omega) (Nat.le_refl _) (by omega) (λs h1 h2=>⟨λO h4=>O,λO h4=>O⟩);exact ⟨C,z,I,λr0 hr=>fin r0 s _ _ _ c5 (c6 r0) (c7 r0 hr) (Or.inr ⟨rfl,rfl,J⟩)⟩
theorem bc0:∀ (k:Nat),a7d (λr=>∃ d,k<=d/\r=G169 0 d) k:=by
 intro k;induction k with
 | zero=>intro P A B Q O hB Z;simp_all
 | succ k ih=>
  intro P A B Q O hB Z sA sB J;have aa:0<A.length:=List.length_pos_iff.2 O;have ab:0<B.length:=List.length_pos_iff.2 hB;have fin:∀ C,(∀ r0,(∃ d,k<=d/\r0=G169 0 d)->B169 0 r0 () ((P.length:Nat):Int) ((P.length+A.length:Nat):Int) ((P.length+A.length+B.length:Nat):Int) () (P++(A++(B++Q)))=some (P++(C++Q)))->
   ∀ r0,(∃ d,k+1<=d/\r0=G169 0 d)->r0 ((),((P.length:Nat):Int),((P.length+A.length:Nat):Int),((P.length+A.length+B.length:Nat):Int),(),P++(A++(B++Q)))=some (P++(C++Q)):=by
   rintro C h r0 ⟨d,hd,rfl⟩
   obtain ⟨I,rfl⟩:∃ I,d=I+1:=⟨d-1,by omega⟩
   exact h _ ⟨I,by omega,rfl⟩
  by_cases M:A.length=1
  ·obtain ⟨x,rfl⟩:=List.length_eq_one_iff.1 M;obtain ⟨C,o,z,H⟩:=bam (x:=x) (B:=B) (P:=P) (Q:=Q) (a:=P.length) (m:=P.length+1) (b:=P.length+1+B.length) rfl rfl rfl sB J;exact ⟨C,o,z,fin C λr0 _=>H r0⟩
  ·by_cases h2:B.length=1
   ·obtain ⟨y,rfl⟩:=List.length_eq_one_iff.1 h2;obtain ⟨C,o,z,H⟩:=a6k (y:=y) (A:=A) (P:=P) (Q:=Q) (a:=P.length) (m:=P.length+A.length) (b:=P.length+A.length+1) rfl rfl rfl M sA J;exact ⟨C,o,z,fin C λr0 _=>H r0⟩
   ·obtain ⟨C,o,z,H⟩:=bc1 ih (A:=A) (B:=B) (P:=P) (Q:=Q) rfl rfl rfl (by omega) (by omega) Z sA sB J;exact ⟨C,o,z,fin C H⟩
theorem avf {P A B Q:List PV}{a m b:Nat} (I:a=P.length) (M:m=P.length+A.length) (J:b=m+B.length) (H:A≠[]) (hB:B≠[]) (sA:Srt A) (sB:Srt B) (Z:OkL (P++(A++(B++Q)))):
 ∃ C,C.Perm (A++B)/\Srt C/\F169 0 () (a:Int) (m:Int) (b:Int) () (P++(A++(B++Q)))=some (P++(C++Q)):=by
 subst I;subst M;subst J
 obtain ⟨C,h,o,z⟩:=bc0 (A.length+B.length) P A B Q H hB (Nat.le_refl _) sA sB Z
 exact ⟨C,h,o,a0i (A.length+B.length) λn O=>z _ ⟨n,O,rfl⟩⟩
end Go.Ab
