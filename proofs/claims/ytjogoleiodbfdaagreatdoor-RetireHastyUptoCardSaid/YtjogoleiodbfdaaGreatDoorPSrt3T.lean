/- Changes are sorted: two sorted parts are merged in place. -/
import Derived.Test.YtjogoleiodbfdaaGreatDoorPOrdT
set_option linter.unusedVariables false
set_option linter.unusedSimpArgs false
set_option linter.unnecessarySimpa false
namespace Go.Ab
open Go
set_option maxRecDepth 100000
theorem awg (x:PV):leC x x:=by have:=Lin.cmpC.anti x x;unfold leC;omega
theorem alv {U B Q:List PV}{r i:Nat}{d:PV} (o:i=U.length+r) (h:r<B.length):(U++(B++Q)).getD i d=B.getD r d:=by subst o;simp only [List.getD,A3 (Nat.le_add_right _ _),Nat.add_sub_cancel_left,Ax h]
theorem al3 {L:List PV} (J:Srt L) {r:Nat} (O:0<r) (I:r<=L.length) {u:PV} (M:u∈L.take r):leC u (L.getD (r-1) .bad):=by
 obtain ⟨i,o,rfl⟩:=List.mem_iff_getElem.1 M;have H:i<r:=by simp at o;omega
 rw [aae (by omega),List.getElem_take];rcases Nat.lt_or_ge i (r-1) with h | h
 ·exact List.pairwise_iff_getElem.1 J i (r-1) (by omega) (by omega) h
 ·have:i=r-1:=by omega
  subst this;exact awg _
theorem al2 {L:List PV} (J:Srt L) {r:Nat} (I:r<L.length) {u:PV} (M:u∈L.drop r):leC (L.getD r .bad) u:=by
 obtain ⟨i,H,rfl⟩:=List.mem_iff_getElem.1 M;have o:r+i<L.length:=by simp at H;omega
 rw [aae (by omega),List.getElem_drop];rcases Nat.eq_zero_or_pos i with h | h
 ·subst h;exact awg _
 ·exact List.pairwise_iff_getElem.1 J r (r+i) (by omega) o (by omega)
abbrev SymR:=(Unit×Int×Int×Int×Unit×(List PV))->Option (List PV)
theorem find4 {r0:SymR}{a m b:Nat}{xs:List PV} (O:OkL xs) (J:a<xs.length) (hb:b<=xs.length) (Z:m<=b):
 ∃ i,aa9 (B135_4step 0 r0) ((),(a:Int),(),(m:Int),(b:Int),xs)=some ((),(a:Int),((i:Nat):Int),xs)/\m<=i/\i<=b/\(m<i->cmpC (xs.getD (i-1) .bad) (xs.getD a .bad)<0)/\(i<b->¬cmpC (xs.getD i .bad) (xs.getD a .bad)<0):=by
 have hl:=O.1
 obtain ⟨i,h1,h2,h3,h4,h5⟩:=atm (step:=B135_4step 0 r0) (λo H=>((),(a:Int),(),((o:Nat):Int),((H:Nat):Int),xs)) (λo=>((),(a:Int),((o:Nat):Int),xs)) (λh=>decide (cmpC (xs.getD h .bad) (xs.getD a .bad)<0)) m b
  (λo H g1 g2 g3=>by
   have I:decide ((o:Int)<(H:Int))=true:=Ag (by omega);have M:(o+H) / 2<xs.length:=by omega
   simp only [B135_4step,B135_4,I,half (show o+H<=4611686018427387904 by omega),aab,Ag M,Ag J,Af,Ai,avw O M J,Aa,aax ((o+H) / 2) (by omega)];cases decide (cmpC (xs.getD ((o+H) / 2) .bad) (xs.getD a .bad)<0)<;>rfl)
  (λo _ _=>by have I:decide ((o:Int)<(o:Int))=false:=An (by omega);simp only [B135_4step,B135_4,I,Ah]) Z
 exact ⟨i,h1,h2,h3,λh=>of_decide_eq_true (h4 h),λh=>of_decide_eq_false (h5 h)⟩
theorem bae {r0:SymR}{a m:Nat}{xs:List PV} (O:OkL xs) (M:m<xs.length) (Z:a<=m):
 ∃ i,aa9 (B135_16step 0 r0) ((),(m:Int),(),(a:Int),(m:Int),xs)=some ((),(m:Int),((i:Nat):Int),xs)/\a<=i/\i<=m/\(a<i->¬cmpC (xs.getD m .bad) (xs.getD (i-1) .bad)<0)/\(i<m->cmpC (xs.getD m .bad) (xs.getD i .bad)<0):=by
 have hl:=O.1
 obtain ⟨i,h1,h2,h3,h4,h5⟩:=atm (step:=B135_16step 0 r0) (λo H=>((),(m:Int),(),((o:Nat):Int),((H:Nat):Int),xs)) (λo=>((),(m:Int),((o:Nat):Int),xs)) (λh=>!(decide (cmpC (xs.getD m .bad) (xs.getD h .bad)<0))) a m
  (λo H g1 g2 g3=>by
   have I:decide ((o:Int)<(H:Int))=true:=Ag (by omega);have J:(o+H) / 2<xs.length:=by omega
   simp only [B135_16step,B135_16,I,half (show o+H<=4611686018427387904 by omega),aab,Ag J,Ag M,Af,Ai,avw O M J,Aa,aax ((o+H) / 2) (by omega)];cases decide (cmpC (xs.getD m .bad) (xs.getD ((o+H) / 2) .bad)<0)<;>rfl)
  (λo _ _=>by have I:decide ((o:Int)<(o:Int))=false:=An (by omega);simp only [B135_16step,B135_16,I,Ah]) Z
 refine ⟨i,h1,h2,h3,λh=>?_,λh=>?_⟩
 ·have:=h4 h;simpa using this
 ·have:=h5 h;simpa using this
theorem baf {r0:SymR}{a m b mid n lo0 hi0 p:Nat}{xs:List PV} (O:OkL xs) (aa:hi0<=xs.length) (hp:∀ h,lo0<=h->h<hi0->h<=p/\p-h<xs.length) (ab:p<=4611686018427387904) (Z:lo0<=hi0):
 ∃ i,aa9 (B135_34step 0 r0) ((),(a:Int),(m:Int),(b:Int),(),(mid:Int),(n:Int),(lo0:Int),(hi0:Int),(p:Int),xs)=some ((),(a:Int),(m:Int),(b:Int),(),(mid:Int),(n:Int),((i:Nat):Int),xs)/\lo0<=i/\i<=hi0/\
  (lo0<i->¬cmpC (xs.getD (p-(i-1)) .bad) (xs.getD (i-1) .bad)<0)/\(i<hi0->cmpC (xs.getD (p-i) .bad) (xs.getD i .bad)<0):=by
 have hl:=O.1
 obtain ⟨i,h1,h2,h3,h4,h5⟩:=atm (step:=B135_34step 0 r0) (λo H=>((),(a:Int),(m:Int),(b:Int),(),(mid:Int),(n:Int),((o:Nat):Int),((H:Nat):Int),(p:Int),xs)) (λo=>((),(a:Int),(m:Int),(b:Int),(),(mid:Int),(n:Int),((o:Nat):Int),xs)) (λh=>!(decide (cmpC (xs.getD (p-h) .bad) (xs.getD h .bad)<0))) lo0 hi0
  (λo H g1 g2 g3=>by
   have I:decide ((o:Int)<(H:Int))=true:=Ag (by omega);have J:(o+H) / 2<xs.length:=by omega
   obtain ⟨k1,M⟩:=hp ((o+H) / 2) (by omega) (by omega);simp only [B135_34step,B135_34,I,half (show o+H<=4611686018427387904 by omega),aig k1 (by omega),aab,Ag J,Ag M,Af,Ai,avw O M J,Aa,aax ((o+H) / 2) (by omega)];cases decide (cmpC (xs.getD (p-(o+H) / 2) .bad) (xs.getD ((o+H) / 2) .bad)<0)<;>rfl)
  (λo _ _=>by have I:decide ((o:Int)<(o:Int))=false:=An (by omega);simp only [B135_34step,B135_34,I,Ah]) Z
 refine ⟨i,h1,h2,h3,λh=>?_,λh=>?_⟩
 ·have:=h4 h;simpa using this
 ·have:=h5 h;simpa using this
theorem bubR {r0:SymR}{i:Nat}{x:PV}{W:List PV}:∀ (B U:List PV),i=U.length+B.length+1->(U++(x::(B++W))).length<=100000000->
 aa9 (B135_10step 0 r0) ((),(i:Int),((U.length:Nat):Int),U++(x::(B++W)))=some (U++(B++x::W)):=by
 intro B
 induction B with
 | nil=>
  intro U H I
  have h:=I;simp only [Ak,Am] at h
  refine aah ?_
  simp only [Ao] at H
  have o:decide (((U.length:Nat):Int)<((i-1:Nat):Int))=false:=An (by omega)
  simp only [B135_10step,B135_10,a2z (show 1<=i by omega) (by omega),o,Ah]
  rfl
 | cons y B O=>
  intro U H I
  have h:=I;simp only [Ak,Am] at h H
  have o:decide (((U.length:Nat):Int)<((i-1:Nat):Int))=true:=Ag (by omega)
  have J:U.length<(U++(x::(y::B++W))).length:=by simp
  have M:U.length+1<(U++(x::(y::B++W))).length:=by simp
  have e:swp (U++(x::(y::B++W))) (U.length+1) U.length=(U++[y])++(x::(B++W)):=by have:=aww (U:=U) (V:=[]) (W:=B++W) (x:=x) (y:=y) (i:=U.length) (j:=U.length+1) rfl (by simp);simpa using this
  rw [aaq (x1:=((),(i:Int),(((U++[y]).length:Nat):Int),(U++[y])++(x::(B++W)))),O (U++[y]) (by simp;omega) (by simp;omega)]
  ·simp
  ·rw [<-e];simp only [B135_10step,B135_10,a2z (show 1<=i by omega) (by omega),o,Af,aax U.length (by omega),aab,Ag J,Ag M,Ai,List.length_set,swp];simp
theorem bubL {r0:SymR}{y:PV}:∀ (R U W:List PV),(U++(R.reverse++y::W)).length<=100000000->
 aa9 (B135_22step 0 r0) ((),((U.length:Nat):Int),((U.length+R.length:Nat):Int),U++(R.reverse++y::W))=some (U++(y::(R.reverse++W))):=by
 intro R
 induction R with
 | nil=>
  intro U W H
  refine aah ?_
  have h:decide (((U.length+([]:List PV).length:Nat):Int)>((U.length:Nat):Int))=false:=An (by simp)
  simp only [B135_22step,B135_22,h,Ah]
  rfl
 | cons z R M=>
  intro U W H
  have o:=H;simp only [Ak,Am,List.length_reverse] at o
  have h:decide (((U.length+(z::R).length:Nat):Int)>((U.length:Nat):Int))=true:=Ag (by simp<;>omega)
  have I:U.length+(z::R).length<(U++((z::R).reverse++y::W)).length:=by simp
  have J:U.length+(z::R).length-1<(U++((z::R).reverse++y::W)).length:=by simp<;>omega
  have w:IntKind.wrap .i64 (((U.length+(z::R).length:Nat):Int)-1)=((U.length+(z::R).length-1:Nat):Int):=a2z (by simp only [Am];omega) (by simp only [Am];omega)
  have e:swp (U++((z::R).reverse++y::W)) (U.length+(z::R).length-1) (U.length+(z::R).length)=U++(R.reverse++y::(z::W)):=by have:=a2j (U:=U++R.reverse) (V:=[]) (W:=W) (x:=z) (y:=y) (i:=U.length+(z::R).length-1) (j:=U.length+(z::R).length) (by simp) (by simp;omega);simpa using this
  rw [aaq (x1:=((),((U.length:Nat):Int),((U.length+R.length:Nat):Int),U++(R.reverse++y::(z::W)))),M U (z::W) (by simp;omega)]
  ·simp
  ·rw [<-e];simp only [B135_22step,B135_22,h,Af,w,aab,Ag I,Ag J,Ai,List.length_set,swp];simp
def a3c (R:SymR->Prop) (k:Nat):Prop:=∀ (P A B Q:List PV),A≠[]->B≠[]->A.length+B.length<=k->Srt A->Srt B->OkL (P++(A++(B++Q)))->
 ∃ C,C.Perm (A++B)/\Srt C/\∀ r0,R r0->r0 ((),((P.length:Nat):Int),((P.length+A.length:Nat):Int),((P.length+A.length+B.length:Nat):Int),(),P++(A++(B++Q)))=some (P++(C++Q))
theorem as0 {R:SymR->Prop}{k:Nat} (H:a3c R k) {P A B Q:List PV}{a s e:Nat} (ha:a=P.length) (hs:s=P.length+A.length) (he:e=P.length+A.length+B.length) (J:Srt A) (hB:Srt B) (ok:OkL (P++(A++(B++Q)))) (hk:A.length+B.length<=k):
 ∃ C,C.Perm (A++B)/\Srt C/\∀ r0,R r0->(bif (bif decide ((a:Int)<(s:Int)) then decide ((s:Int)<(e:Int)) else false) then r0 ((),(a:Int),(s:Int),(e:Int),(),P++(A++(B++Q))) else some (P++(A++(B++Q))))=some (P++(C++Q)):=by
 subst ha;subst hs;subst he
 cases A with
 | nil=>
  have h:decide (((P.length:Nat):Int)<((P.length+([]:List PV).length:Nat):Int))=false:=An (by simp)
  refine ⟨B,by simp,hB,λr0 _=>?_⟩
  rw [h];simp
 | cons x A=>
  cases B with
  | nil=>
   have h:decide (((P.length+(x::A).length:Nat):Int)<((P.length+(x::A).length+([]:List PV).length:Nat):Int))=false:=An (by simp)
   refine ⟨x::A,by simp,J,λr0 _=>?_⟩
   rw [h];simp
  | cons y B=>
   have o:decide (((P.length:Nat):Int)<((P.length+(x::A).length:Nat):Int))=true:=Ag (by simp<;>omega)
   have I:decide (((P.length+(x::A).length:Nat):Int)<((P.length+(x::A).length+(y::B).length:Nat):Int))=true:=Ag (by simp<;>omega)
   obtain ⟨C,M,O,Z⟩:=H P (x::A) (y::B) Q (by simp) (by simp) hk J hB ok
   exact ⟨C,M,O,λr0 hr=>by rw [o,I];exact Z r0 hr⟩
end Go.Ab
namespace Go.Ab
open Go
set_option maxRecDepth 100000
def noR:SymR:=λ_=>none
theorem bak {n:Nat} (h:n=1):(((n:Nat):Int)==(1:Int))=true:=by subst h;rfl
theorem a1h {n:Nat} (h:n≠1):(((n:Nat):Int)==(1:Int))=false:=by simp;omega
theorem a6d {x:PV}{B P Q:List PV}{a m b:Nat} (ha:a=P.length) (hm:m=P.length+1) (hb:b=m+B.length) (hB:Srt B) (ok:OkL (P++([x]++(B++Q)))):
 ∃ C,C.Perm ([x]++B)/\Srt C/\∀ r0,B135 0 r0 () (a:Int) (m:Int) (b:Int) () (P++([x]++(B++Q)))=some (P++(C++Q)):=by
 have hl:=ok.1
 simp only [Ak,Am,Ao] at hl
 obtain ⟨i,h1,h2,h3,h4,h5⟩:=find4 (r0:=noR) (a:=a) (m:=m) (b:=b) ok (by simp;omega) (by simp;omega) (by omega)
 have J:(P++([x]++(B++Q))).getD a .bad=x:=ae3 ha
 have M:∀ r,r<B.length->(P++([x]++(B++Q))).getD (m+r) .bad=B.getD r .bad:=by intro r hr;have:=alv (U:=P++[x]) (B:=B) (Q:=Q) (r:=r) (i:=m+r) (d:=.bad) (by simp;omega) hr;simpa using this
 generalize hr:i-m=r at*
 have hi:i=m+r:=by omega
 subst hi
 have O:B=B.take r++B.drop r:=(List.take_append_drop _ _).symm
 have q1:∀ y,y∈B.take r->leC y x:=by
  intro y I;have H:0<r:=by
   rcases Nat.eq_zero_or_pos r with h | h
   ·subst h;simp at I
   ·exact h
  have:=h4 (by omega);rw [J,show m+r-1=m+(r-1) by omega,M (r-1) (by omega)] at this;exact adk (al3 hB H (by omega) I) (by unfold leC;omega)
 have q2:∀ y,y∈B.drop r->leC x y:=by
  intro y I;have H:r<B.length:=by
   rcases Nat.lt_or_ge r B.length with h | h
   ·exact h
   ·rw [A7 h] at I;cases I
  have:=h5 (by omega);rw [J,M r H] at this;exact adk (afs this) (al2 hB H I)
 refine ⟨B.take r++x::B.drop r,?_,?_,λr0=>?_⟩
 ·refine List.perm_middle.trans ?_;rw [<-O];exact List.Perm.refl _
 ·have o:=hB;rw [O,Srt,List.pairwise_append] at o;rw [Srt,List.pairwise_append];refine ⟨o.1,List.pairwise_cons.2 ⟨q2,o.2.1⟩,λu hu v Z=>?_⟩;rcases Bn.1 Z with rfl | Z
  ·exact q1 u hu
  ·exact o.2.2 u hu v Z
 ·have e1:aag 0 (B135_4step 0 r0) ((),(a:Int),(),(m:Int),(b:Int),P++([x]++(B++Q)))=some ((),(a:Int),(((m+r:Nat)):Int),P++([x]++(B++Q))):=h1;have l1:(B.take r).length=r:=by rw [List.length_take];omega
  have eX:P++([x]++(B++Q))=P++(x::(B.take r++(B.drop r++Q))):=by rw [show B.take r++(B.drop r++Q)=B++Q by rw [<-Ar,<-O]];rfl
  have e2:aag 0 (B135_10step 0 r0) ((),((m+r:Nat):Int),(a:Int),P++([x]++(B++Q)))=some (P++((B.take r++x::B.drop r)++Q)):=by have:=bubR (r0:=r0) (i:=m+r) (x:=x) (W:=B.drop r++Q) (B.take r) P (by omega) (by rw [<-eX];exact ok.1);rw [<-eX] at this;rw [ha];refine Eq.trans this ?_;simp
  unfold B135;rw [aig (show a<=m by omega) (by omega),bak (show m-a=1 by omega),Af,e1];simp only [Aa];rw [e2];rfl
theorem a2k {y:PV}{A P Q:List PV}{a m b:Nat} (ha:a=P.length) (hm:m=P.length+A.length) (hb:b=m+1) (aa:A.length≠1) (Z:Srt A) (ok:OkL (P++(A++([y]++Q)))):
 ∃ C,C.Perm (A++[y])/\Srt C/\∀ r0,B135 0 r0 () (a:Int) (m:Int) (b:Int) () (P++(A++([y]++Q)))=some (P++(C++Q)):=by
 have hl:=ok.1
 simp only [Ak,Am,Ao] at hl
 obtain ⟨i,h1,h2,h3,h4,h5⟩:=bae (r0:=noR) (a:=a) (m:=m) ok (by simp;omega) (by omega)
 have M:(P++(A++([y]++Q))).getD m .bad=y:=by have:=ae3 (U:=P++A) (V:=Q) (x:=y) (d:=.bad) (i:=m) (by simp;omega);simpa using this
 have J:∀ r,r<A.length->(P++(A++([y]++Q))).getD (a+r) .bad=A.getD r .bad:=λr hr=>alv (by omega) hr
 generalize hr:i-a=r at*
 have hi:i=a+r:=by omega
 subst hi
 have O:A=A.take r++A.drop r:=(List.take_append_drop _ _).symm
 have q1:∀ u,u∈A.take r->leC u y:=by
  intro u I;have H:0<r:=by
   rcases Nat.eq_zero_or_pos r with h | h
   ·subst h;simp at I
   ·exact h
  have:=h4 (by omega);rw [M,show a+r-1=a+(r-1) by omega,J (r-1) (by omega)] at this;exact adk (al3 Z H (by omega) I) (afs this)
 have q2:∀ u,u∈A.drop r->leC y u:=by
  intro u I;have H:r<A.length:=by
   rcases Nat.lt_or_ge r A.length with h | h
   ·exact h
   ·rw [A7 h] at I;cases I
  have:=h5 (by omega);rw [M,J r H] at this;exact adk (by unfold leC;omega) (al2 Z H I)
 refine ⟨A.take r++y::A.drop r,?_,?_,λr0=>?_⟩
 ·refine List.perm_middle.trans ?_;rw [<-O];exact (List.perm_append_comm (l₁:=[y]) (l₂:=A))
 ·have o:=Z;rw [O,Srt,List.pairwise_append] at o;rw [Srt,List.pairwise_append];refine ⟨o.1,List.pairwise_cons.2 ⟨q2,o.2.1⟩,λu I v hv=>?_⟩;rcases Bn.1 hv with rfl | hv
  ·exact q1 u I
  ·exact o.2.2 u I v hv
 ·have e1:aag 0 (B135_16step 0 r0) ((),(m:Int),(),(a:Int),(m:Int),P++(A++([y]++Q)))=some ((),(m:Int),(((a+r:Nat)):Int),P++(A++([y]++Q))):=h1;have l1:(A.take r).length=r:=by rw [List.length_take];omega
  have l2:(A.drop r).length=A.length-r:=by rw [Be]
  have eX:P++(A++([y]++Q))=(P++A.take r)++((A.drop r).reverse.reverse++y::Q):=by rw [List.reverse_reverse,Ar,show A.take r++(A.drop r++y::Q)=A++y::Q by rw [<-Ar,<-O]];rfl
  have e2:aag 0 (B135_22step 0 r0) ((),((a+r:Nat):Int),(m:Int),P++(A++([y]++Q)))=some (P++((A.take r++y::A.drop r)++Q)):=by have:=bubL (r0:=r0) (y:=y) (A.drop r).reverse (P++A.take r) Q (by rw [<-eX];exact ok.1);rw [<-eX,Ak,List.length_reverse,l1,l2,show P.length+r=a+r by omega,show a+r+(A.length-r)=m by omega] at this;refine Eq.trans this ?_;simp
  unfold B135;rw [aig (show a<=m by omega) (by omega),a1h (show m-a≠1 by omega),Ah,aig (show m<=b by omega) (by omega),bak (show b-m=1 by omega),Af,e1];simp only [Aa];rw [e2];rfl
noncomputable def a1w (r0:SymR) (a m b mid s e:Int) (xs:List PV):Option (List PV):=
 (bif (bif decide (s<m) then decide (m<e) else false) then F179 0 () s m e () xs else some xs).bind λy=>
 (bif (bif decide (a<s) then decide (s<mid) else false) then r0 ((),a,s,mid,(),y) else some y).bind λz=>
 bif (bif decide (mid<e) then decide (e<b) else false) then r0 ((),mid,e,b,(),z) else some z
theorem a6e {R:SymR->Prop}{k:Nat} (H:a3c R k) {P A1 A2 B1 B2 Q:List PV}{a s m mid e b:Nat} (ha:a=P.length) (hs:s=a+A1.length) (hm:m=s+A2.length) (ae:mid=s+B1.length) (he:e=m+B1.length) (hb:b=e+B2.length)
 (hA:Srt (A1++A2)) (hB:Srt (B1++B2)) (x1:∀ u,u∈A1->∀ v,v∈B2->leC u v) (x2:∀ u,u∈B1->∀ v,v∈A2->leC u v) (k1:A1.length+B1.length<=k) (k2:A2.length+B2.length<=k) (ok:OkL (P++(A1++(A2++(B1++(B2++Q)))))):
 ∃ C,C.Perm ((A1++A2)++(B1++B2))/\Srt C/\∀ r0,R r0->a1w r0 (a:Int) (m:Int) (b:Int) (mid:Int) (s:Int) (e:Int) (P++(A1++(A2++(B1++(B2++Q)))))=some (P++(C++Q)):=by
 have hl:=ok.1
 simp only [Ak] at hl
 have M:(bif (bif decide ((s:Int)<(m:Int)) then decide ((m:Int)<(e:Int)) else false) then F179 0 () (s:Int) (m:Int) (e:Int) () (P++(A1++(A2++(B1++(B2++Q))))) else some (P++(A1++(A2++(B1++(B2++Q))))))=some (P++(A1++(B1++(A2++(B2++Q))))):=by
  cases A2 with
  | nil=>have hd:decide ((s:Int)<(m:Int))=false:=An (by simp at hm;omega);rw [hd];simp
  | cons u A2=>
   cases B1 with
   | nil=>have hd:decide ((m:Int)<(e:Int))=false:=An (by simp at he;omega);rw [hd];cases decide ((s:Int)<(m:Int))<;>simp
   | cons v B1=>have aa:decide ((s:Int)<(m:Int))=true:=Ag (by simp at hm;omega);have ab:decide ((m:Int)<(e:Int))=true:=Ag (by simp at he;omega);have:=a1u (a:=s) (m:=m) (b:=e) (X:=u::A2) (Y:=v::B1) (P:=P++A1) (Q:=B2++Q) (by simp) (by simp) (by simp;omega) (by simp at hm ⊢;omega) he (by simp at hl ⊢;omega);rw [aa,ab];simpa using this
 have h:=hA;rw [Srt,List.pairwise_append] at h
 have o:=hB;rw [Srt,List.pairwise_append] at o
 have O:OkL (P++(A1++(B1++(A2++(B2++Q))))):=ok.perm (by refine List.Perm.append_left P (List.Perm.append_left A1 ?_);rw [<-Ar,<-Ar A2];exact List.Perm.append_right _ List.perm_append_comm)
 obtain ⟨C1,Z,c2,c3⟩:=as0 H (P:=P) (A:=A1) (B:=B1) (Q:=A2++(B2++Q)) (a:=a) (s:=s) (e:=mid) ha (by omega) (by omega) h.1 o.1 O k1
 have lc:=Z.length_eq
 rw [Ak] at lc
 have ad:OkL ((P++C1)++(A2++(B2++Q))):=O.perm (by rw [Ar];refine List.Perm.append_left P ?_;rw [<-Ar A1];exact List.Perm.append_right _ Z)
 obtain ⟨C2,d1,d2,d3⟩:=as0 H (P:=P++C1) (A:=A2) (B:=B2) (Q:=Q) (a:=mid) (s:=e) (e:=b) (by simp;omega) (by simp;omega) (by simp;omega) h.2.1 o.2.1 ad k2
 refine ⟨C1++C2,?_,?_,λr0 hr=>?_⟩
 ·refine (List.Perm.append Z d1).trans ?_;rw [Ar,Ar];refine List.Perm.append_left A1 ?_;rw [<-Ar,<-Ar A2];exact List.Perm.append_right _ List.perm_append_comm
 ·rw [Srt,List.pairwise_append];refine ⟨c2,d2,λu I v J=>?_⟩;have I:=Z.mem_iff.1 I;have J:=d1.mem_iff.1 J;rcases Bo.1 I with I | I<;>rcases Bo.1 J with J | J
  ·exact h.2.2 u I v J
  ·exact x1 u I v J
  ·exact x2 u I v J
  ·exact o.2.2 u I v J
 ·unfold a1w;rw [M,Aa,c3 r0 hr,Aa];have:=d3 r0 hr;rw [Ar] at this;rw [this];simp
theorem a9j {R:SymR->Prop}{k:Nat} (H:a3c R k) {A B P Q:List PV}{a m b:Nat} (ha:a=P.length) (hm:m=P.length+A.length) (hb:b=m+B.length) (af:2<=A.length) (ag:2<=B.length) (hk:A.length+B.length<=k+1) (hA:Srt A) (hB:Srt B) (ok:OkL (P++(A++(B++Q)))):
 ∃ C,C.Perm (A++B)/\Srt C/\∀ r0,R r0->B135 0 r0 () (a:Int) (m:Int) (b:Int) () (P++(A++(B++Q)))=some (P++(C++Q)):=by
 have hl:=ok.1
 simp only [Ak] at hl
 have ad:∀ r,r<A.length->(P++(A++(B++Q))).getD (a+r) .bad=A.getD r .bad:=λr hr=>alv (by omega) hr
 have ae:∀ r,r<B.length->(P++(A++(B++Q))).getD (m+r) .bad=B.getD r .bad:=by intro r hr;have:=alv (U:=P++A) (B:=B) (Q:=Q) (r:=r) (i:=m+r) (d:=.bad) (by simp;omega) hr;simpa using this
 have ah:(P++(A++(B++Q))).length=P.length+(A.length+(B.length+Q.length)):=by simp
 have key:∀ (lo0 hi0:Nat),lo0<=hi0->hi0<=m->hi0<=(a+b) / 2->a<=lo0->(a+b) / 2+m<=lo0+b->(∀ s,lo0<=s->s<=hi0->(a<s->(a+b) / 2+m-s<b->lo0<s)/\(s<m->s<(a+b) / 2->s<hi0))->
  ∃ s,∃ C,C.Perm (A++B)/\Srt C/\a<=s/\s<=m/\s<=(a+b) / 2+m/\
   (∀ r0,aa9 (B135_34step 0 r0) ((),(a:Int),(m:Int),(b:Int),(),(((a+b) / 2:Nat):Int),(((a+b) / 2+m:Nat):Int),(lo0:Int),(hi0:Int),(((a+b) / 2+m-1:Nat):Int),P++(A++(B++Q)))=some ((),(a:Int),(m:Int),(b:Int),(),(((a+b) / 2:Nat):Int),(((a+b) / 2+m:Nat):Int),((s:Nat):Int),P++(A++(B++Q))))/\
   ∀ r0,R r0->a1w r0 (a:Int) (m:Int) (b:Int) (((a+b) / 2:Nat):Int) (s:Int) (((a+b) / 2+m-s:Nat):Int) (P++(A++(B++Q)))=some (P++(C++Q)):=by
  intro lo0 hi0 g1 g2 g3 g4 g5 g6
  obtain ⟨s,h1,h2,Z,h4,h5⟩:=baf (r0:=noR) (a:=a) (m:=m) (b:=b) (mid:=(a+b) / 2) (n:=(a+b) / 2+m) (lo0:=lo0) (hi0:=hi0) (p:=(a+b) / 2+m-1) ok (by omega) (λh k1 k2=>⟨by omega,by omega⟩) (by omega) g1
  obtain ⟨g7,g8⟩:=g6 s h2 Z
  have eA:A.take (s-a)++A.drop (s-a)=A:=List.take_append_drop _ _
  have eB:B.take ((a+b) / 2-s)++B.drop ((a+b) / 2-s)=B:=List.take_append_drop _ _
  have lA:(A.take (s-a)).length=s-a:=by rw [List.length_take];omega
  have ai:(A.drop (s-a)).length=m-s:=by rw [Be];omega
  have lB:(B.take ((a+b) / 2-s)).length=(a+b) / 2-s:=by rw [List.length_take];omega
  have aj:(B.drop ((a+b) / 2-s)).length=b-((a+b) / 2+m-s):=by rw [Be];omega
  have x1:∀ u,u∈A.take (s-a)->∀ v,v∈B.drop ((a+b) / 2-s)->leC u v:=by
   intro u hu v hv;have aa:0<s-a:=by
    rcases Nat.eq_zero_or_pos (s-a) with h | h
    ·rw [h] at hu;simp at hu
    ·exact h
   have o:(a+b) / 2-s<B.length:=by
    rcases Nat.lt_or_ge ((a+b) / 2-s) B.length with h | h
    ·exact h
    ·rw [A7 h] at hv;cases hv
   have hq:=h4 (g7 (by omega) (by omega));rw [show (a+b) / 2+m-1-(s-1)=m+((a+b) / 2-s) by omega,show s-1=a+(s-a-1) by omega,ad _ (by omega),ae _ o] at hq;exact adk (al3 hA aa (by omega) hu) (adk (afs hq) (al2 hB o hv))
  have x2:∀ u,u∈B.take ((a+b) / 2-s)->∀ v,v∈A.drop (s-a)->leC u v:=by
   intro u hu v hv;have aa:0<(a+b) / 2-s:=by
    rcases Nat.eq_zero_or_pos ((a+b) / 2-s) with h | h
    ·rw [h] at hu;simp at hu
    ·exact h
   have o:s-a<A.length:=by
    rcases Nat.lt_or_ge (s-a) A.length with h | h
    ·exact h
    ·rw [A7 h] at hv;cases hv
   have hq:=h5 (g8 (by omega) (by omega));have e1:(P++(A++(B++Q))).getD ((a+b) / 2+m-1-s) .bad=B.getD ((a+b) / 2-s-1) .bad:=by rw [show (a+b) / 2+m-1-s=m+((a+b) / 2-s-1) by omega];exact ae _ (by omega)
   have e2:(P++(A++(B++Q))).getD s .bad=A.getD (s-a) .bad:=by have:=ad (s-a) o;rw [show a+(s-a)=s by omega] at this;exact this
   rw [e1,e2] at hq;exact adk (al3 hB aa (by omega) hu) (adk (by unfold leC;omega) (al2 hA o hv))
  obtain ⟨C,I,J,O⟩:=a6e H (P:=P) (A1:=A.take (s-a)) (A2:=A.drop (s-a)) (B1:=B.take ((a+b) / 2-s)) (B2:=B.drop ((a+b) / 2-s)) (Q:=Q) (a:=a) (s:=s) (m:=m) (mid:=(a+b) / 2) (e:=(a+b) / 2+m-s) (b:=b)
   ha (by omega) (by omega) (by omega) (by omega) (by omega) (by rw [eA];exact hA) (by rw [eB];exact hB) x1 x2 (by omega) (by omega) (by rw [<-Ar (B.take _),eB,<-Ar (A.take _),eA];exact ok)
  rw [eA,eB] at I
  rw [<-Ar (B.take _),eB,<-Ar (A.take _),eA] at O
  exact ⟨s,C,I,J,by omega,by omega,by omega,λr0=>h1,O⟩
 have ab:IntKind.wrap .i64 ((((a+b) / 2:Nat):Int)+(m:Int))=(((a+b) / 2+m:Nat):Int):=aqx (by omega)
 have fin:∀ (r0:SymR) (s:Nat) (lo0 hi0:Int) (y:List PV),s<=(a+b) / 2+m->aag 0 (B135_34step 0 r0) ((),(a:Int),(m:Int),(b:Int),(),(((a+b) / 2:Nat):Int),(((a+b) / 2+m:Nat):Int),lo0,hi0,(((a+b) / 2+m-1:Nat):Int),P++(A++(B++Q)))=some ((),(a:Int),(m:Int),(b:Int),(),(((a+b) / 2:Nat):Int),(((a+b) / 2+m:Nat):Int),((s:Nat):Int),P++(A++(B++Q)))->
  a1w r0 (a:Int) (m:Int) (b:Int) (((a+b) / 2:Nat):Int) (s:Int) (((a+b) / 2+m-s:Nat):Int) (P++(A++(B++Q)))=some y->
  (lo0=(((a+b) / 2+m-b:Nat):Int)/\hi0=(((a+b) / 2:Nat):Int)/\(a+b) / 2<m\/lo0=(a:Int)/\hi0=(m:Int)/\¬(a+b) / 2<m)->
  B135 0 r0 () (a:Int) (m:Int) (b:Int) () (P++(A++(B++Q)))=some y:=by
  intro r0 s lo0 hi0 y hs h1 h2 hc
  have w1:IntKind.wrap .i64 ((((a+b) / 2+m:Nat):Int)-1)=(((a+b) / 2+m-1:Nat):Int):=a2z (by omega) (by omega)
  have w2:IntKind.wrap .i64 ((((a+b) / 2+m:Nat):Int)-(s:Int))=(((a+b) / 2+m-s:Nat):Int):=aig hs (by omega)
  unfold B135
  rw [aig (show a<=m by omega) (by omega),a1h (show m-a≠1 by omega),Ah,aig (show m<=b by omega) (by omega),a1h (show b-m≠1 by omega),Ah]
  simp only [half (show a+b<=4611686018427387904 by omega),ab,w1]
  rw [<-h2]
  unfold a1w
  rcases hc with ⟨rfl,rfl,M⟩ | ⟨rfl,rfl,M⟩
  ·have hd:decide ((m:Int)>(((a+b) / 2:Nat):Int))=true:=Ag (by omega);have w3:IntKind.wrap .i64 ((((a+b) / 2+m:Nat):Int)-(b:Int))=(((a+b) / 2+m-b:Nat):Int):=aig (by omega) (by omega);rw [hd,Af,w3,h1];simp only [Aa,w2];generalize (bif decide ((s:Int)<(m:Int)) then decide ((m:Int)<(((a+b) / 2+m-s:Nat):Int)) else false)=I;generalize (bif decide ((a:Int)<(s:Int)) then decide ((s:Int)<(((a+b) / 2:Nat):Int)) else false)=J;generalize (bif decide ((((a+b) / 2:Nat):Int)<(((a+b) / 2+m-s:Nat):Int)) then decide ((((a+b) / 2+m-s:Nat):Int)<(b:Int)) else false)=O;cases I<;>cases J<;>cases O<;>simp
  ·have hd:decide ((m:Int)>(((a+b) / 2:Nat):Int))=false:=An (by omega);rw [hd,Ah,h1];simp only [Aa,w2];generalize (bif decide ((s:Int)<(m:Int)) then decide ((m:Int)<(((a+b) / 2+m-s:Nat):Int)) else false)=I;generalize (bif decide ((a:Int)<(s:Int)) then decide ((s:Int)<(((a+b) / 2:Nat):Int)) else false)=J;generalize (bif decide ((((a+b) / 2:Nat):Int)<(((a+b) / 2+m-s:Nat):Int)) then decide ((((a+b) / 2+m-s:Nat):Int)<(b:Int)) else false)=O;cases I<;>cases J<;>cases O<;>simp
 by_cases M:(a+b) / 2<m
 ·obtain ⟨s,C,I,J,O,c4,c5,c6,c7⟩:=key ((a+b) / 2+m-b) ((a+b) / 2) (by omega) (by omega) (Nat.le_refl _) (by omega) (by omega) (λs h1 h2=>⟨λZ h4=>by omega,λZ h4=>h4⟩);exact ⟨C,I,J,λr0 hr=>fin r0 s _ _ _ c5 (c6 r0) (c7 r0 hr) (Or.inl ⟨rfl,rfl,M⟩)⟩
 ·obtain ⟨s,C,I,J,O,c4,c5,c6,c7⟩:=key a m (by omega) (Nat.le_refl _) (by omega) (Nat.le_refl _) (by omega) (λs h1 h2=>⟨λZ h4=>Z,λZ h4=>Z⟩);exact ⟨C,I,J,λr0 hr=>fin r0 s _ _ _ c5 (c6 r0) (c7 r0 hr) (Or.inr ⟨rfl,rfl,M⟩)⟩
theorem a9i:∀ (k:Nat),a3c (λr=>∃ d,k<=d/\r=G135 0 d) k:=by
 intro k;induction k with
 | zero=>
  intro P A B Q M hB O;cases A with
  | nil=>exact absurd rfl M
  | cons=>simp at O
 | succ k ih=>
  intro P A B Q M hB O sA sB Z;have aa:0<A.length:=List.length_pos_iff.2 M;have ab:0<B.length:=List.length_pos_iff.2 hB;have fin:∀ C,(∀ r0,(∃ d,k<=d/\r0=G135 0 d)->B135 0 r0 () ((P.length:Nat):Int) ((P.length+A.length:Nat):Int) ((P.length+A.length+B.length:Nat):Int) () (P++(A++(B++Q)))=some (P++(C++Q)))->
   ∀ r0,(∃ d,k+1<=d/\r0=G135 0 d)->r0 ((),((P.length:Nat):Int),((P.length+A.length:Nat):Int),((P.length+A.length+B.length:Nat):Int),(),P++(A++(B++Q)))=some (P++(C++Q)):=by
   rintro C h r0 ⟨d,hd,rfl⟩
   obtain ⟨J,rfl⟩:∃ J,d=J+1:=⟨d-1,by omega⟩
   exact h _ ⟨J,by omega,rfl⟩
  by_cases h1:A.length=1
  ·obtain ⟨x,rfl⟩:=List.length_eq_one_iff.1 h1;obtain ⟨C,o,H,I⟩:=a6d (x:=x) (B:=B) (P:=P) (Q:=Q) (a:=P.length) (m:=P.length+1) (b:=P.length+1+B.length) rfl rfl rfl sB Z;exact ⟨C,o,H,fin C λr0 _=>I r0⟩
  ·by_cases h2:B.length=1
   ·obtain ⟨y,rfl⟩:=List.length_eq_one_iff.1 h2;obtain ⟨C,o,H,I⟩:=a2k (y:=y) (A:=A) (P:=P) (Q:=Q) (a:=P.length) (m:=P.length+A.length) (b:=P.length+A.length+1) rfl rfl rfl h1 sA Z;exact ⟨C,o,H,fin C λr0 _=>I r0⟩
   ·obtain ⟨C,o,H,I⟩:=a9j ih (A:=A) (B:=B) (P:=P) (Q:=Q) rfl rfl rfl (by omega) (by omega) O sA sB Z;exact ⟨C,o,H,fin C I⟩
theorem as2 {P A B Q:List PV}{a m b:Nat} (J:a=P.length) (O:m=P.length+A.length) (M:b=m+B.length) (I:A≠[]) (hB:B≠[]) (sA:Srt A) (sB:Srt B) (ok:OkL (P++(A++(B++Q)))):
 ∃ C,C.Perm (A++B)/\Srt C/\F135 0 () (a:Int) (m:Int) (b:Int) () (P++(A++(B++Q)))=some (P++(C++Q)):=by
 subst J;subst O;subst M
 obtain ⟨C,h,o,H⟩:=a9i (A.length+B.length) P A B Q I hB (Nat.le_refl _) sA sB ok
 exact ⟨C,h,o,ax1 (A.length+B.length) λn Z=>H _ ⟨n,Z,rfl⟩⟩
end Go.Ab
