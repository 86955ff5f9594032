/- Changes are sorted: two sorted parts are merged in place. -/
import Derived.Test.YthokbeimbdnnoaaGreatDoorPOrdT
set_option linter.unusedVariables false
set_option linter.unusedSimpArgs false
set_option linter.unnecessarySimpa false
namespace Go.Ab
open Go
set_option maxRecDepth 100000
theorem ath (x:PV):leC x x:=by have:=Lin.cmpC.anti x x;unfold leC;omega
theorem ake {U B Q:List PV}{r i:Nat}{d:PV} (hi:i=U.length+r) (h:r<B.length):(U++(B++Q)).getD i d=B.getD r d:=by
 subst hi
 simp only [List.getD,List.getElem?_append_right (Nat.le_add_right _ _),Nat.add_sub_cancel_left,List.getElem?_append_left h]
theorem akm {L:List PV} (hs:Srt L) {r:Nat} (hr:0<r) (hr2:r<=L.length) {u:PV} (hu:u∈L.take r):leC u (L.getD (r-1) .bad):=by
 obtain ⟨i,hi,rfl⟩:=List.mem_iff_getElem.1 hu
 have hi':i<r:=by simp at hi;omega
 rw [aac (by omega),List.getElem_take]
 rcases Nat.lt_or_ge i (r-1) with h | h
 ·exact List.pairwise_iff_getElem.1 hs i (r-1) (by omega) (by omega) h
 ·have:i=r-1:=by omega
  subst this;exact ath _
theorem akl {L:List PV} (hs:Srt L) {r:Nat} (hr2:r<L.length) {u:PV} (hu:u∈L.drop r):leC (L.getD r .bad) u:=by
 obtain ⟨i,hi,rfl⟩:=List.mem_iff_getElem.1 hu
 have hi':r+i<L.length:=by simp at hi;omega
 rw [aac (by omega),List.getElem_drop]
 rcases Nat.eq_zero_or_pos i with h | h
 ·subst h;exact ath _
 ·exact List.pairwise_iff_getElem.1 hs r (r+i) (by omega) hi' (by omega)
abbrev SymR:=(Unit×Int×Int×Int×Unit×(List PV))->Option (List PV)
theorem find4 {r0:SymR}{a m b:Nat}{xs:List PV} (ok:OkL xs) (ha:a<xs.length) (hb:b<=xs.length) (h0:m<=b):
 ∃ i,aba (B217_4step 0 r0) ((),(a:Int),(),(m:Int),(b:Int),xs)=some ((),(a:Int),((i:Nat):Int),xs)/\m<=i/\i<=b/\(m<i->cmpC (xs.getD (i-1) .bad) (xs.getD a .bad)<0)/\(i<b->¬cmpC (xs.getD i .bad) (xs.getD a .bad)<0):=by
 have hl:=ok.1
 obtain ⟨i,h1,h2,h3,h4,h5⟩:=aqz (step:=B217_4step 0 r0) (fun lo hi=>((),(a:Int),(),((lo:Nat):Int),((hi:Nat):Int),xs)) (fun lo=>((),(a:Int),((lo:Nat):Int),xs)) (fun h=>decide (cmpC (xs.getD h .bad) (xs.getD a .bad)<0)) m b
  (fun lo hi g1 g2 g3=>by
   have hd:decide ((lo:Int)<(hi:Int))=true:=decide_eq_true (by omega)
   have hh:(lo+hi) / 2<xs.length:=by omega
   simp only [B217_4step,B217_4,hd,half (show lo+hi<=4611686018427387904 by omega),aab,decide_eq_true hh,decide_eq_true ha,cond_true,Int.toNat_natCast,as6 ok hh ha,Option.bind_some,aa7 ((lo+hi) / 2) (by omega)]
   cases decide (cmpC (xs.getD ((lo+hi) / 2) .bad) (xs.getD a .bad)<0)<;>rfl)
  (fun lo _ _=>by
   have hd:decide ((lo:Int)<(lo:Int))=false:=decide_eq_false (by omega)
   simp only [B217_4step,B217_4,hd,cond_false]) h0
 exact ⟨i,h1,h2,h3,fun h=>of_decide_eq_true (h4 h),fun h=>of_decide_eq_false (h5 h)⟩
theorem a4v {r0:SymR}{a m:Nat}{xs:List PV} (ok:OkL xs) (hm:m<xs.length) (h0:a<=m):
 ∃ i,aba (B217_16step 0 r0) ((),(m:Int),(),(a:Int),(m:Int),xs)=some ((),(m:Int),((i:Nat):Int),xs)/\a<=i/\i<=m/\(a<i->¬cmpC (xs.getD m .bad) (xs.getD (i-1) .bad)<0)/\(i<m->cmpC (xs.getD m .bad) (xs.getD i .bad)<0):=by
 have hl:=ok.1
 obtain ⟨i,h1,h2,h3,h4,h5⟩:=aqz (step:=B217_16step 0 r0) (fun lo hi=>((),(m:Int),(),((lo:Nat):Int),((hi:Nat):Int),xs)) (fun lo=>((),(m:Int),((lo:Nat):Int),xs)) (fun h=>!(decide (cmpC (xs.getD m .bad) (xs.getD h .bad)<0))) a m
  (fun lo hi g1 g2 g3=>by
   have hd:decide ((lo:Int)<(hi:Int))=true:=decide_eq_true (by omega)
   have hh:(lo+hi) / 2<xs.length:=by omega
   simp only [B217_16step,B217_16,hd,half (show lo+hi<=4611686018427387904 by omega),aab,decide_eq_true hh,decide_eq_true hm,cond_true,Int.toNat_natCast,as6 ok hm hh,Option.bind_some,aa7 ((lo+hi) / 2) (by omega)]
   cases decide (cmpC (xs.getD m .bad) (xs.getD ((lo+hi) / 2) .bad)<0)<;>rfl)
  (fun lo _ _=>by
   have hd:decide ((lo:Int)<(lo:Int))=false:=decide_eq_false (by omega)
   simp only [B217_16step,B217_16,hd,cond_false]) h0
 refine ⟨i,h1,h2,h3,fun h=>?_,fun h=>?_⟩
 ·have:=h4 h;simpa using this
 ·have:=h5 h;simpa using this
theorem a4w {r0:SymR}{a m b mid n lo0 hi0 p:Nat}{xs:List PV} (ok:OkL xs) (hh0:hi0<=xs.length) (hp:∀ h,lo0<=h->h<hi0->h<=p/\p-h<xs.length) (hpp:p<=4611686018427387904) (h0:lo0<=hi0):
 ∃ i,aba (B217_34step 0 r0) ((),(a:Int),(m:Int),(b:Int),(),(mid:Int),(n:Int),(lo0:Int),(hi0:Int),(p:Int),xs)=some ((),(a:Int),(m:Int),(b:Int),(),(mid:Int),(n:Int),((i:Nat):Int),xs)/\lo0<=i/\i<=hi0/\
  (lo0<i->¬cmpC (xs.getD (p-(i-1)) .bad) (xs.getD (i-1) .bad)<0)/\(i<hi0->cmpC (xs.getD (p-i) .bad) (xs.getD i .bad)<0):=by
 have hl:=ok.1
 obtain ⟨i,h1,h2,h3,h4,h5⟩:=aqz (step:=B217_34step 0 r0) (fun lo hi=>((),(a:Int),(m:Int),(b:Int),(),(mid:Int),(n:Int),((lo:Nat):Int),((hi:Nat):Int),(p:Int),xs)) (fun lo=>((),(a:Int),(m:Int),(b:Int),(),(mid:Int),(n:Int),((lo:Nat):Int),xs)) (fun h=>!(decide (cmpC (xs.getD (p-h) .bad) (xs.getD h .bad)<0))) lo0 hi0
  (fun lo hi g1 g2 g3=>by
   have hd:decide ((lo:Int)<(hi:Int))=true:=decide_eq_true (by omega)
   have hh:(lo+hi) / 2<xs.length:=by omega
   obtain ⟨k1,k2⟩:=hp ((lo+hi) / 2) (by omega) (by omega)
   simp only [B217_34step,B217_34,hd,half (show lo+hi<=4611686018427387904 by omega),ahi k1 (by omega),aab,decide_eq_true hh,decide_eq_true k2,cond_true,Int.toNat_natCast,as6 ok k2 hh,Option.bind_some,aa7 ((lo+hi) / 2) (by omega)]
   cases decide (cmpC (xs.getD (p-(lo+hi) / 2) .bad) (xs.getD ((lo+hi) / 2) .bad)<0)<;>rfl)
  (fun lo _ _=>by
   have hd:decide ((lo:Int)<(lo:Int))=false:=decide_eq_false (by omega)
   simp only [B217_34step,B217_34,hd,cond_false]) h0
 refine ⟨i,h1,h2,h3,fun h=>?_,fun h=>?_⟩
 ·have:=h4 h;simpa using this
 ·have:=h5 h;simpa using this
theorem bubR {r0:SymR}{i:Nat}{x:PV}{W:List PV}:∀ (B U:List PV),i=U.length+B.length+1->(U++(x::(B++W))).length<=100000000->
 aba (B217_10step 0 r0) ((),(i:Int),((U.length:Nat):Int),U++(x::(B++W)))=some (U++(B++x::W)):=by
 intro B
 induction B with
 | nil=>
  intro U hi hl
  have hl':=hl;simp only [List.length_append,List.length_cons] at hl'
  refine aag ?_
  simp only [List.length_nil] at hi
  have hd:decide (((U.length:Nat):Int)<((i-1:Nat):Int))=false:=decide_eq_false (by omega)
  simp only [B217_10step,B217_10,ay8 (show 1<=i by omega) (by omega),hd,cond_false]
  rfl
 | cons y B ih=>
  intro U hi hl
  have hl':=hl;simp only [List.length_append,List.length_cons] at hl' hi
  have hd:decide (((U.length:Nat):Int)<((i-1:Nat):Int))=true:=decide_eq_true (by omega)
  have g1:U.length<(U++(x::(y::B++W))).length:=by simp
  have g2:U.length+1<(U++(x::(y::B++W))).length:=by simp
  have e:swp (U++(x::(y::B++W))) (U.length+1) U.length=(U++[y])++(x::(B++W)):=by
   have:=atx (U:=U) (V:=[]) (W:=B++W) (x:=x) (y:=y) (i:=U.length) (j:=U.length+1) rfl (by simp)
   simpa using this
  rw [aas (x1:=((),(i:Int),(((U++[y]).length:Nat):Int),(U++[y])++(x::(B++W)))),ih (U++[y]) (by simp;omega) (by simp;omega)]
  ·simp
  ·rw [<-e]
   simp only [B217_10step,B217_10,ay8 (show 1<=i by omega) (by omega),hd,cond_true,aa7 U.length (by omega),aab,decide_eq_true g1,decide_eq_true g2,Int.toNat_natCast,List.length_set,swp]
   simp
theorem bubL {r0:SymR}{y:PV}:∀ (R U W:List PV),(U++(R.reverse++y::W)).length<=100000000->
 aba (B217_22step 0 r0) ((),((U.length:Nat):Int),((U.length+R.length:Nat):Int),U++(R.reverse++y::W))=some (U++(y::(R.reverse++W))):=by
 intro R
 induction R with
 | nil=>
  intro U W hl
  refine aag ?_
  have hd:decide (((U.length+([]:List PV).length:Nat):Int)>((U.length:Nat):Int))=false:=decide_eq_false (by simp)
  simp only [B217_22step,B217_22,hd,cond_false]
  rfl
 | cons z R ih=>
  intro U W hl
  have hl':=hl;simp only [List.length_append,List.length_cons,List.length_reverse] at hl'
  have hd:decide (((U.length+(z::R).length:Nat):Int)>((U.length:Nat):Int))=true:=decide_eq_true (by simp<;>omega)
  have g1:U.length+(z::R).length<(U++((z::R).reverse++y::W)).length:=by simp
  have g2:U.length+(z::R).length-1<(U++((z::R).reverse++y::W)).length:=by simp<;>omega
  have w:IntKind.wrap .i64 (((U.length+(z::R).length:Nat):Int)-1)=((U.length+(z::R).length-1:Nat):Int):=ay8 (by simp only [List.length_cons];omega) (by simp only [List.length_cons];omega)
  have e:swp (U++((z::R).reverse++y::W)) (U.length+(z::R).length-1) (U.length+(z::R).length)=U++(R.reverse++y::(z::W)):=by
   have:=ays (U:=U++R.reverse) (V:=[]) (W:=W) (x:=z) (y:=y) (i:=U.length+(z::R).length-1) (j:=U.length+(z::R).length) (by simp) (by simp;omega)
   simpa using this
  rw [aas (x1:=((),((U.length:Nat):Int),((U.length+R.length:Nat):Int),U++(R.reverse++y::(z::W)))),ih U (z::W) (by simp;omega)]
  ·simp
  ·rw [<-e]
   simp only [B217_22step,B217_22,hd,cond_true,w,aab,decide_eq_true g1,decide_eq_true g2,Int.toNat_natCast,List.length_set,swp]
   simp
def aze (R:SymR->Prop) (k:Nat):Prop:=∀ (P A B Q:List PV),A≠[]->B≠[]->A.length+B.length<=k->Srt A->Srt B->OkL (P++(A++(B++Q)))->
 ∃ C,C.Perm (A++B)/\Srt C/\∀ r0,R r0->r0 ((),((P.length:Nat):Int),((P.length+A.length:Nat):Int),((P.length+A.length+B.length:Nat):Int),(),P++(A++(B++Q)))=some (P++(C++Q))
theorem aqi {R:SymR->Prop}{k:Nat} (H:aze R k) {P A B Q:List PV}{a s e:Nat} (ha:a=P.length) (hs:s=P.length+A.length) (he:e=P.length+A.length+B.length) (hA:Srt A) (hB:Srt B) (ok:OkL (P++(A++(B++Q)))) (hk:A.length+B.length<=k):
 ∃ C,C.Perm (A++B)/\Srt C/\∀ r0,R r0->(bif (bif decide ((a:Int)<(s:Int)) then decide ((s:Int)<(e:Int)) else false) then r0 ((),(a:Int),(s:Int),(e:Int),(),P++(A++(B++Q))) else some (P++(A++(B++Q))))=some (P++(C++Q)):=by
 subst ha;subst hs;subst he
 cases A with
 | nil=>
  have hd:decide (((P.length:Nat):Int)<((P.length+([]:List PV).length:Nat):Int))=false:=decide_eq_false (by simp)
  refine ⟨B,by simp,hB,fun r0 _=>?_⟩
  rw [hd];simp
 | cons x A=>
  cases B with
  | nil=>
   have hd:decide (((P.length+(x::A).length:Nat):Int)<((P.length+(x::A).length+([]:List PV).length:Nat):Int))=false:=decide_eq_false (by simp)
   refine ⟨x::A,by simp,hA,fun r0 _=>?_⟩
   rw [hd];simp
  | cons y B=>
   have hd1:decide (((P.length:Nat):Int)<((P.length+(x::A).length:Nat):Int))=true:=decide_eq_true (by simp<;>omega)
   have hd2:decide (((P.length+(x::A).length:Nat):Int)<((P.length+(x::A).length+(y::B).length:Nat):Int))=true:=decide_eq_true (by simp<;>omega)
   obtain ⟨C,h1,h2,h3⟩:=H P (x::A) (y::B) Q (by simp) (by simp) hk hA hB ok
   exact ⟨C,h1,h2,fun r0 hr=>by rw [hd1,hd2];exact h3 r0 hr⟩
end Go.Ab
namespace Go.Ab
open Go
set_option maxRecDepth 100000
def noR:SymR:=fun _=>none
theorem a5a {n:Nat} (h:n=1):(((n:Nat):Int)==(1:Int))=true:=by subst h;rfl
theorem ax2 {n:Nat} (h:n≠1):(((n:Nat):Int)==(1:Int))=false:=by simp;omega
theorem a1c {x:PV}{B P Q:List PV}{a m b:Nat} (ha:a=P.length) (hm:m=P.length+1) (hb:b=m+B.length) (hB:Srt B) (ok:OkL (P++([x]++(B++Q)))):
 ∃ C,C.Perm ([x]++B)/\Srt C/\∀ r0,B217 0 r0 () (a:Int) (m:Int) (b:Int) () (P++([x]++(B++Q)))=some (P++(C++Q)):=by
 have hl:=ok.1
 simp only [List.length_append,List.length_cons,List.length_nil] at hl
 obtain ⟨i,h1,h2,h3,h4,h5⟩:=find4 (r0:=noR) (a:=a) (m:=m) (b:=b) ok (by simp;omega) (by simp;omega) (by omega)
 have hxa:(P++([x]++(B++Q))).getD a .bad=x:=aee ha
 have hxb:∀ r,r<B.length->(P++([x]++(B++Q))).getD (m+r) .bad=B.getD r .bad:=by
  intro r hr
  have:=ake (U:=P++[x]) (B:=B) (Q:=Q) (r:=r) (i:=m+r) (d:=.bad) (by simp;omega) hr
  simpa using this
 generalize hr:i-m=r at*
 have hi:i=m+r:=by omega
 subst hi
 have eB:B=B.take r++B.drop r:=(List.take_append_drop _ _).symm
 have q1:∀ y,y∈B.take r->leC y x:=by
  intro y hy
  have hr0:0<r:=by
   rcases Nat.eq_zero_or_pos r with h | h
   ·subst h;simp at hy
   ·exact h
  have:=h4 (by omega)
  rw [hxa,show m+r-1=m+(r-1) by omega,hxb (r-1) (by omega)] at this
  exact acz (akm hB hr0 (by omega) hy) (by unfold leC;omega)
 have q2:∀ y,y∈B.drop r->leC x y:=by
  intro y hy
  have hr0:r<B.length:=by
   rcases Nat.lt_or_ge r B.length with h | h
   ·exact h
   ·rw [List.drop_eq_nil_of_le h] at hy;cases hy
  have:=h5 (by omega)
  rw [hxa,hxb r hr0] at this
  exact acz (ae2 this) (akl hB hr0 hy)
 refine ⟨B.take r++x::B.drop r,?_,?_,fun r0=>?_⟩
 ·refine List.perm_middle.trans ?_
  rw [<-eB]
  exact List.Perm.refl _
 ·have hB':=hB
  rw [eB,Srt,List.pairwise_append] at hB'
  rw [Srt,List.pairwise_append]
  refine ⟨hB'.1,List.pairwise_cons.2 ⟨q2,hB'.2.1⟩,fun u hu v hv=>?_⟩
  rcases List.mem_cons.1 hv with rfl | hv
  ·exact q1 u hu
  ·exact hB'.2.2 u hu v hv
 ·have e1:aah 0 (B217_4step 0 r0) ((),(a:Int),(),(m:Int),(b:Int),P++([x]++(B++Q)))=some ((),(a:Int),(((m+r:Nat)):Int),P++([x]++(B++Q))):=h1
  have l1:(B.take r).length=r:=by rw [List.length_take];omega
  have eX:P++([x]++(B++Q))=P++(x::(B.take r++(B.drop r++Q))):=by
   rw [show B.take r++(B.drop r++Q)=B++Q by rw [<-List.append_assoc,<-eB]]
   rfl
  have e2:aah 0 (B217_10step 0 r0) ((),((m+r:Nat):Int),(a:Int),P++([x]++(B++Q)))=some (P++((B.take r++x::B.drop r)++Q)):=by
   have:=bubR (r0:=r0) (i:=m+r) (x:=x) (W:=B.drop r++Q) (B.take r) P (by omega) (by rw [<-eX];exact ok.1)
   rw [<-eX] at this
   rw [ha]
   refine Eq.trans this ?_
   simp
  unfold B217
  rw [ahi (show a<=m by omega) (by omega),a5a (show m-a=1 by omega),cond_true,e1]
  simp only [Option.bind_some]
  rw [e2]
  rfl
theorem ayt {y:PV}{A P Q:List PV}{a m b:Nat} (ha:a=P.length) (hm:m=P.length+A.length) (hb:b=m+1) (hA1:A.length≠1) (hA:Srt A) (ok:OkL (P++(A++([y]++Q)))):
 ∃ C,C.Perm (A++[y])/\Srt C/\∀ r0,B217 0 r0 () (a:Int) (m:Int) (b:Int) () (P++(A++([y]++Q)))=some (P++(C++Q)):=by
 have hl:=ok.1
 simp only [List.length_append,List.length_cons,List.length_nil] at hl
 obtain ⟨i,h1,h2,h3,h4,h5⟩:=a4v (r0:=noR) (a:=a) (m:=m) ok (by simp;omega) (by omega)
 have hxm:(P++(A++([y]++Q))).getD m .bad=y:=by
  have:=aee (U:=P++A) (V:=Q) (x:=y) (d:=.bad) (i:=m) (by simp;omega)
  simpa using this
 have hxb:∀ r,r<A.length->(P++(A++([y]++Q))).getD (a+r) .bad=A.getD r .bad:=fun r hr=>ake (by omega) hr
 generalize hr:i-a=r at*
 have hi:i=a+r:=by omega
 subst hi
 have eA:A=A.take r++A.drop r:=(List.take_append_drop _ _).symm
 have q1:∀ u,u∈A.take r->leC u y:=by
  intro u hu
  have hr0:0<r:=by
   rcases Nat.eq_zero_or_pos r with h | h
   ·subst h;simp at hu
   ·exact h
  have:=h4 (by omega)
  rw [hxm,show a+r-1=a+(r-1) by omega,hxb (r-1) (by omega)] at this
  exact acz (akm hA hr0 (by omega) hu) (ae2 this)
 have q2:∀ u,u∈A.drop r->leC y u:=by
  intro u hu
  have hr0:r<A.length:=by
   rcases Nat.lt_or_ge r A.length with h | h
   ·exact h
   ·rw [List.drop_eq_nil_of_le h] at hu;cases hu
  have:=h5 (by omega)
  rw [hxm,hxb r hr0] at this
  exact acz (by unfold leC;omega) (akl hA hr0 hu)
 refine ⟨A.take r++y::A.drop r,?_,?_,fun r0=>?_⟩
 ·refine List.perm_middle.trans ?_
  rw [<-eA]
  exact (List.perm_append_comm (l₁:=[y]) (l₂:=A))
 ·have hA':=hA
  rw [eA,Srt,List.pairwise_append] at hA'
  rw [Srt,List.pairwise_append]
  refine ⟨hA'.1,List.pairwise_cons.2 ⟨q2,hA'.2.1⟩,fun u hu v hv=>?_⟩
  rcases List.mem_cons.1 hv with rfl | hv
  ·exact q1 u hu
  ·exact hA'.2.2 u hu v hv
 ·have e1:aah 0 (B217_16step 0 r0) ((),(m:Int),(),(a:Int),(m:Int),P++(A++([y]++Q)))=some ((),(m:Int),(((a+r:Nat)):Int),P++(A++([y]++Q))):=h1
  have l1:(A.take r).length=r:=by rw [List.length_take];omega
  have l2:(A.drop r).length=A.length-r:=by rw [List.length_drop]
  have eX:P++(A++([y]++Q))=(P++A.take r)++((A.drop r).reverse.reverse++y::Q):=by
   rw [List.reverse_reverse,List.append_assoc,show A.take r++(A.drop r++y::Q)=A++y::Q by rw [<-List.append_assoc,<-eA]]
   rfl
  have e2:aah 0 (B217_22step 0 r0) ((),((a+r:Nat):Int),(m:Int),P++(A++([y]++Q)))=some (P++((A.take r++y::A.drop r)++Q)):=by
   have:=bubL (r0:=r0) (y:=y) (A.drop r).reverse (P++A.take r) Q (by rw [<-eX];exact ok.1)
   rw [<-eX,List.length_append,List.length_reverse,l1,l2,show P.length+r=a+r by omega,show a+r+(A.length-r)=m by omega] at this
   refine Eq.trans this ?_
   simp
  unfold B217
  rw [ahi (show a<=m by omega) (by omega),ax2 (show m-a≠1 by omega),cond_false,ahi (show m<=b by omega) (by omega),a5a (show b-m=1 by omega),cond_true,e1]
  simp only [Option.bind_some]
  rw [e2]
  rfl
noncomputable def ayc (r0:SymR) (a m b mid s e:Int) (xs:List PV):Option (List PV):=
 (bif (bif decide (s<m) then decide (m<e) else false) then F251 0 () s m e () xs else some xs).bind fun y=>
 (bif (bif decide (a<s) then decide (s<mid) else false) then r0 ((),a,s,mid,(),y) else some y).bind fun z=>
 bif (bif decide (mid<e) then decide (e<b) else false) then r0 ((),mid,e,b,(),z) else some z
theorem a1d {R:SymR->Prop}{k:Nat} (H:aze R k) {P A1 A2 B1 B2 Q:List PV}{a s m mid e b:Nat} (ha:a=P.length) (hs:s=a+A1.length) (hm:m=s+A2.length) (hmid:mid=s+B1.length) (he:e=m+B1.length) (hb:b=e+B2.length)
 (hA:Srt (A1++A2)) (hB:Srt (B1++B2)) (x1:∀ u,u∈A1->∀ v,v∈B2->leC u v) (x2:∀ u,u∈B1->∀ v,v∈A2->leC u v) (k1:A1.length+B1.length<=k) (k2:A2.length+B2.length<=k) (ok:OkL (P++(A1++(A2++(B1++(B2++Q)))))):
 ∃ C,C.Perm ((A1++A2)++(B1++B2))/\Srt C/\∀ r0,R r0->ayc r0 (a:Int) (m:Int) (b:Int) (mid:Int) (s:Int) (e:Int) (P++(A1++(A2++(B1++(B2++Q)))))=some (P++(C++Q)):=by
 have hl:=ok.1
 simp only [List.length_append] at hl
 have step1:(bif (bif decide ((s:Int)<(m:Int)) then decide ((m:Int)<(e:Int)) else false) then F251 0 () (s:Int) (m:Int) (e:Int) () (P++(A1++(A2++(B1++(B2++Q))))) else some (P++(A1++(A2++(B1++(B2++Q))))))=some (P++(A1++(B1++(A2++(B2++Q))))):=by
  cases A2 with
  | nil=>
   have hd:decide ((s:Int)<(m:Int))=false:=decide_eq_false (by simp at hm;omega)
   rw [hd];simp
  | cons u A2=>
   cases B1 with
   | nil=>
    have hd:decide ((m:Int)<(e:Int))=false:=decide_eq_false (by simp at he;omega)
    rw [hd];cases decide ((s:Int)<(m:Int))<;>simp
   | cons v B1=>
    have hd1:decide ((s:Int)<(m:Int))=true:=decide_eq_true (by simp at hm;omega)
    have hd2:decide ((m:Int)<(e:Int))=true:=decide_eq_true (by simp at he;omega)
    have:=aya (a:=s) (m:=m) (b:=e) (X:=u::A2) (Y:=v::B1) (P:=P++A1) (Q:=B2++Q) (by simp) (by simp) (by simp;omega) (by simp at hm ⊢;omega) he (by simp at hl ⊢;omega)
    rw [hd1,hd2]
    simpa using this
 have hAp:=hA;rw [Srt,List.pairwise_append] at hAp
 have hBp:=hB;rw [Srt,List.pairwise_append] at hBp
 have ok2:OkL (P++(A1++(B1++(A2++(B2++Q))))):=ok.perm (by
  refine List.Perm.append_left P (List.Perm.append_left A1 ?_)
  rw [<-List.append_assoc,<-List.append_assoc A2]
  exact List.Perm.append_right _ List.perm_append_comm)
 obtain ⟨C1,c1,c2,c3⟩:=aqi H (P:=P) (A:=A1) (B:=B1) (Q:=A2++(B2++Q)) (a:=a) (s:=s) (e:=mid) ha (by omega) (by omega) hAp.1 hBp.1 ok2 k1
 have lc:=c1.length_eq
 rw [List.length_append] at lc
 have ok3:OkL ((P++C1)++(A2++(B2++Q))):=ok2.perm (by
  rw [List.append_assoc]
  refine List.Perm.append_left P ?_
  rw [<-List.append_assoc A1]
  exact List.Perm.append_right _ c1)
 obtain ⟨C2,d1,d2,d3⟩:=aqi H (P:=P++C1) (A:=A2) (B:=B2) (Q:=Q) (a:=mid) (s:=e) (e:=b) (by simp;omega) (by simp;omega) (by simp;omega) hAp.2.1 hBp.2.1 ok3 k2
 refine ⟨C1++C2,?_,?_,fun r0 hr=>?_⟩
 ·refine (List.Perm.append c1 d1).trans ?_
  rw [List.append_assoc,List.append_assoc]
  refine List.Perm.append_left A1 ?_
  rw [<-List.append_assoc,<-List.append_assoc A2]
  exact List.Perm.append_right _ List.perm_append_comm
 ·rw [Srt,List.pairwise_append]
  refine ⟨c2,d2,fun u hu v hv=>?_⟩
  have hu:=c1.mem_iff.1 hu
  have hv:=d1.mem_iff.1 hv
  rcases List.mem_append.1 hu with hu | hu<;>rcases List.mem_append.1 hv with hv | hv
  ·exact hAp.2.2 u hu v hv
  ·exact x1 u hu v hv
  ·exact x2 u hu v hv
  ·exact hBp.2.2 u hu v hv
 ·unfold ayc
  rw [step1,Option.bind_some,c3 r0 hr,Option.bind_some]
  have:=d3 r0 hr
  rw [List.append_assoc] at this
  rw [this]
  simp
theorem a3x {R:SymR->Prop}{k:Nat} (H:aze R k) {A B P Q:List PV}{a m b:Nat} (ha:a=P.length) (hm:m=P.length+A.length) (hb:b=m+B.length) (hA2:2<=A.length) (hB2:2<=B.length) (hk:A.length+B.length<=k+1) (hA:Srt A) (hB:Srt B) (ok:OkL (P++(A++(B++Q)))):
 ∃ C,C.Perm (A++B)/\Srt C/\∀ r0,R r0->B217 0 r0 () (a:Int) (m:Int) (b:Int) () (P++(A++(B++Q)))=some (P++(C++Q)):=by
 have hl:=ok.1
 simp only [List.length_append] at hl
 have hxa:∀ r,r<A.length->(P++(A++(B++Q))).getD (a+r) .bad=A.getD r .bad:=fun r hr=>ake (by omega) hr
 have hxb:∀ r,r<B.length->(P++(A++(B++Q))).getD (m+r) .bad=B.getD r .bad:=by
  intro r hr
  have:=ake (U:=P++A) (B:=B) (Q:=Q) (r:=r) (i:=m+r) (d:=.bad) (by simp;omega) hr
  simpa using this
 have hlx:(P++(A++(B++Q))).length=P.length+(A.length+(B.length+Q.length)):=by simp
 -- what the search gives
 have key:∀ (lo0 hi0:Nat),lo0<=hi0->hi0<=m->hi0<=(a+b) / 2->a<=lo0->(a+b) / 2+m<=lo0+b->(∀ s,lo0<=s->s<=hi0->(a<s->(a+b) / 2+m-s<b->lo0<s)/\(s<m->s<(a+b) / 2->s<hi0))->
  ∃ s,∃ C,C.Perm (A++B)/\Srt C/\a<=s/\s<=m/\s<=(a+b) / 2+m/\
   (∀ r0,aba (B217_34step 0 r0) ((),(a:Int),(m:Int),(b:Int),(),(((a+b) / 2:Nat):Int),(((a+b) / 2+m:Nat):Int),(lo0:Int),(hi0:Int),(((a+b) / 2+m-1:Nat):Int),P++(A++(B++Q)))=some ((),(a:Int),(m:Int),(b:Int),(),(((a+b) / 2:Nat):Int),(((a+b) / 2+m:Nat):Int),((s:Nat):Int),P++(A++(B++Q))))/\
   ∀ r0,R r0->ayc r0 (a:Int) (m:Int) (b:Int) (((a+b) / 2:Nat):Int) (s:Int) (((a+b) / 2+m-s:Nat):Int) (P++(A++(B++Q)))=some (P++(C++Q)):=by
  intro lo0 hi0 g1 g2 g3 g4 g5 g6
  obtain ⟨s,h1,h2,h3,h4,h5⟩:=a4w (r0:=noR) (a:=a) (m:=m) (b:=b) (mid:=(a+b) / 2) (n:=(a+b) / 2+m) (lo0:=lo0) (hi0:=hi0) (p:=(a+b) / 2+m-1) ok (by omega) (fun h k1 k2=>⟨by omega,by omega⟩) (by omega) g1
  obtain ⟨g7,g8⟩:=g6 s h2 h3
  have eA:A.take (s-a)++A.drop (s-a)=A:=List.take_append_drop _ _
  have eB:B.take ((a+b) / 2-s)++B.drop ((a+b) / 2-s)=B:=List.take_append_drop _ _
  have lA:(A.take (s-a)).length=s-a:=by rw [List.length_take];omega
  have lA2:(A.drop (s-a)).length=m-s:=by rw [List.length_drop];omega
  have lB:(B.take ((a+b) / 2-s)).length=(a+b) / 2-s:=by rw [List.length_take];omega
  have lB2:(B.drop ((a+b) / 2-s)).length=b-((a+b) / 2+m-s):=by rw [List.length_drop];omega
  have x1:∀ u,u∈A.take (s-a)->∀ v,v∈B.drop ((a+b) / 2-s)->leC u v:=by
   intro u hu v hv
   have hu0:0<s-a:=by
    rcases Nat.eq_zero_or_pos (s-a) with h | h
    ·rw [h] at hu;simp at hu
    ·exact h
   have hv0:(a+b) / 2-s<B.length:=by
    rcases Nat.lt_or_ge ((a+b) / 2-s) B.length with h | h
    ·exact h
    ·rw [List.drop_eq_nil_of_le h] at hv;cases hv
   have hq:=h4 (g7 (by omega) (by omega))
   rw [show (a+b) / 2+m-1-(s-1)=m+((a+b) / 2-s) by omega,show s-1=a+(s-a-1) by omega,hxa _ (by omega),hxb _ hv0] at hq
   exact acz (akm hA hu0 (by omega) hu) (acz (ae2 hq) (akl hB hv0 hv))
  have x2:∀ u,u∈B.take ((a+b) / 2-s)->∀ v,v∈A.drop (s-a)->leC u v:=by
   intro u hu v hv
   have hu0:0<(a+b) / 2-s:=by
    rcases Nat.eq_zero_or_pos ((a+b) / 2-s) with h | h
    ·rw [h] at hu;simp at hu
    ·exact h
   have hv0:s-a<A.length:=by
    rcases Nat.lt_or_ge (s-a) A.length with h | h
    ·exact h
    ·rw [List.drop_eq_nil_of_le h] at hv;cases hv
   have hq:=h5 (g8 (by omega) (by omega))
   have e1:(P++(A++(B++Q))).getD ((a+b) / 2+m-1-s) .bad=B.getD ((a+b) / 2-s-1) .bad:=by
    rw [show (a+b) / 2+m-1-s=m+((a+b) / 2-s-1) by omega];exact hxb _ (by omega)
   have e2:(P++(A++(B++Q))).getD s .bad=A.getD (s-a) .bad:=by
    have:=hxa (s-a) hv0
    rw [show a+(s-a)=s by omega] at this
    exact this
   rw [e1,e2] at hq
   exact acz (akm hB hu0 (by omega) hu) (acz (by unfold leC;omega) (akl hA hv0 hv))
  obtain ⟨C,c1,c2,c3⟩:=a1d H (P:=P) (A1:=A.take (s-a)) (A2:=A.drop (s-a)) (B1:=B.take ((a+b) / 2-s)) (B2:=B.drop ((a+b) / 2-s)) (Q:=Q) (a:=a) (s:=s) (m:=m) (mid:=(a+b) / 2) (e:=(a+b) / 2+m-s) (b:=b)
   ha (by omega) (by omega) (by omega) (by omega) (by omega) (by rw [eA];exact hA) (by rw [eB];exact hB) x1 x2 (by omega) (by omega) (by
    rw [<-List.append_assoc (B.take _),eB,<-List.append_assoc (A.take _),eA];exact ok)
  rw [eA,eB] at c1
  rw [<-List.append_assoc (B.take _),eB,<-List.append_assoc (A.take _),eA] at c3
  exact ⟨s,C,c1,c2,by omega,by omega,by omega,fun r0=>h1,c3⟩
 have hmid:IntKind.wrap .i64 ((((a+b) / 2:Nat):Int)+(m:Int))=(((a+b) / 2+m:Nat):Int):=aoq (by omega)
 have fin:∀ (r0:SymR) (s:Nat) (lo0 hi0:Int) (y:List PV),s<=(a+b) / 2+m->aah 0 (B217_34step 0 r0) ((),(a:Int),(m:Int),(b:Int),(),(((a+b) / 2:Nat):Int),(((a+b) / 2+m:Nat):Int),lo0,hi0,(((a+b) / 2+m-1:Nat):Int),P++(A++(B++Q)))=some ((),(a:Int),(m:Int),(b:Int),(),(((a+b) / 2:Nat):Int),(((a+b) / 2+m:Nat):Int),((s:Nat):Int),P++(A++(B++Q)))->
  ayc r0 (a:Int) (m:Int) (b:Int) (((a+b) / 2:Nat):Int) (s:Int) (((a+b) / 2+m-s:Nat):Int) (P++(A++(B++Q)))=some y->
  (lo0=(((a+b) / 2+m-b:Nat):Int)/\hi0=(((a+b) / 2:Nat):Int)/\(a+b) / 2<m∨lo0=(a:Int)/\hi0=(m:Int)/\¬(a+b) / 2<m)->
  B217 0 r0 () (a:Int) (m:Int) (b:Int) () (P++(A++(B++Q)))=some y:=by
  intro r0 s lo0 hi0 y hs h1 h2 hc
  have w1:IntKind.wrap .i64 ((((a+b) / 2+m:Nat):Int)-1)=(((a+b) / 2+m-1:Nat):Int):=ay8 (by omega) (by omega)
  have w2:IntKind.wrap .i64 ((((a+b) / 2+m:Nat):Int)-(s:Int))=(((a+b) / 2+m-s:Nat):Int):=ahi hs (by omega)
  unfold B217
  rw [ahi (show a<=m by omega) (by omega),ax2 (show m-a≠1 by omega),cond_false,ahi (show m<=b by omega) (by omega),ax2 (show b-m≠1 by omega),cond_false]
  simp only [half (show a+b<=4611686018427387904 by omega),hmid,w1]
  rw [<-h2]
  unfold ayc
  rcases hc with ⟨rfl,rfl,hlt⟩ | ⟨rfl,rfl,hlt⟩
  ·have hd:decide ((m:Int)>(((a+b) / 2:Nat):Int))=true:=decide_eq_true (by omega)
   have w3:IntKind.wrap .i64 ((((a+b) / 2+m:Nat):Int)-(b:Int))=(((a+b) / 2+m-b:Nat):Int):=ahi (by omega) (by omega)
   rw [hd,cond_true,w3,h1]
   simp only [Option.bind_some,w2]
   generalize (bif decide ((s:Int)<(m:Int)) then decide ((m:Int)<(((a+b) / 2+m-s:Nat):Int)) else false)=c1
   generalize (bif decide ((a:Int)<(s:Int)) then decide ((s:Int)<(((a+b) / 2:Nat):Int)) else false)=c2
   generalize (bif decide ((((a+b) / 2:Nat):Int)<(((a+b) / 2+m-s:Nat):Int)) then decide ((((a+b) / 2+m-s:Nat):Int)<(b:Int)) else false)=c3
   cases c1<;>cases c2<;>cases c3<;>simp
  ·have hd:decide ((m:Int)>(((a+b) / 2:Nat):Int))=false:=decide_eq_false (by omega)
   rw [hd,cond_false,h1]
   simp only [Option.bind_some,w2]
   generalize (bif decide ((s:Int)<(m:Int)) then decide ((m:Int)<(((a+b) / 2+m-s:Nat):Int)) else false)=c1
   generalize (bif decide ((a:Int)<(s:Int)) then decide ((s:Int)<(((a+b) / 2:Nat):Int)) else false)=c2
   generalize (bif decide ((((a+b) / 2:Nat):Int)<(((a+b) / 2+m-s:Nat):Int)) then decide ((((a+b) / 2+m-s:Nat):Int)<(b:Int)) else false)=c3
   cases c1<;>cases c2<;>cases c3<;>simp
 by_cases hlt:(a+b) / 2<m
 ·obtain ⟨s,C,c1,c2,c3,c4,c5,c6,c7⟩:=key ((a+b) / 2+m-b) ((a+b) / 2) (by omega) (by omega) (Nat.le_refl _) (by omega) (by omega) (fun s h1 h2=>⟨fun h3 h4=>by omega,fun h3 h4=>h4⟩)
  exact ⟨C,c1,c2,fun r0 hr=>fin r0 s _ _ _ c5 (c6 r0) (c7 r0 hr) (Or.inl ⟨rfl,rfl,hlt⟩)⟩
 ·obtain ⟨s,C,c1,c2,c3,c4,c5,c6,c7⟩:=key a m (by omega) (Nat.le_refl _) (by omega) (Nat.le_refl _) (by omega) (fun s h1 h2=>⟨fun h3 h4=>h3,fun h3 h4=>h3⟩)
  exact ⟨C,c1,c2,fun r0 hr=>fin r0 s _ _ _ c5 (c6 r0) (c7 r0 hr) (Or.inr ⟨rfl,rfl,hlt⟩)⟩
theorem a3w:∀ (k:Nat),aze (fun r=>∃ d,k<=d/\r=G217 0 d) k:=by
 intro k
 induction k with
 | zero=>
  intro P A B Q hA hB hk
  cases A with
  | nil=>exact absurd rfl hA
  | cons=>simp at hk
 | succ k ih=>
  intro P A B Q hA hB hk sA sB ok
  have hA0:0<A.length:=List.length_pos_iff.2 hA
  have hB0:0<B.length:=List.length_pos_iff.2 hB
  have fin:∀ C,(∀ r0,(∃ d,k<=d/\r0=G217 0 d)->B217 0 r0 () ((P.length:Nat):Int) ((P.length+A.length:Nat):Int) ((P.length+A.length+B.length:Nat):Int) () (P++(A++(B++Q)))=some (P++(C++Q)))->
   ∀ r0,(∃ d,k+1<=d/\r0=G217 0 d)->r0 ((),((P.length:Nat):Int),((P.length+A.length:Nat):Int),((P.length+A.length+B.length:Nat):Int),(),P++(A++(B++Q)))=some (P++(C++Q)):=by
   rintro C h r0 ⟨d,hd,rfl⟩
   obtain ⟨d',rfl⟩:∃ d',d=d'+1:=⟨d-1,by omega⟩
   exact h _ ⟨d',by omega,rfl⟩
  by_cases h1:A.length=1
  ·obtain ⟨x,rfl⟩:=List.length_eq_one_iff.1 h1
   obtain ⟨C,c1,c2,c3⟩:=a1c (x:=x) (B:=B) (P:=P) (Q:=Q) (a:=P.length) (m:=P.length+1) (b:=P.length+1+B.length) rfl rfl rfl sB ok
   exact ⟨C,c1,c2,fin C fun r0 _=>c3 r0⟩
  ·by_cases h2:B.length=1
   ·obtain ⟨y,rfl⟩:=List.length_eq_one_iff.1 h2
    obtain ⟨C,c1,c2,c3⟩:=ayt (y:=y) (A:=A) (P:=P) (Q:=Q) (a:=P.length) (m:=P.length+A.length) (b:=P.length+A.length+1) rfl rfl rfl h1 sA ok
    exact ⟨C,c1,c2,fin C fun r0 _=>c3 r0⟩
   ·obtain ⟨C,c1,c2,c3⟩:=a3x ih (A:=A) (B:=B) (P:=P) (Q:=Q) rfl rfl rfl (by omega) (by omega) hk sA sB ok
    exact ⟨C,c1,c2,fin C c3⟩
theorem aqj {P A B Q:List PV}{a m b:Nat} (ha:a=P.length) (hm:m=P.length+A.length) (hb:b=m+B.length) (hA:A≠[]) (hB:B≠[]) (sA:Srt A) (sB:Srt B) (ok:OkL (P++(A++(B++Q)))):
 ∃ C,C.Perm (A++B)/\Srt C/\F217 0 () (a:Int) (m:Int) (b:Int) () (P++(A++(B++Q)))=some (P++(C++Q)):=by
 subst ha;subst hm;subst hb
 obtain ⟨C,c1,c2,c3⟩:=a3w (A.length+B.length) P A B Q hA hB (Nat.le_refl _) sA sB ok
 exact ⟨C,c1,c2,au2 (A.length+B.length) fun n hn=>c3 _ ⟨n,hn,rfl⟩⟩
end Go.Ab
