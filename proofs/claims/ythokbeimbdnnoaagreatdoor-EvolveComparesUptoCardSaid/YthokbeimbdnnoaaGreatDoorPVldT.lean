/- The specification's examination of schemas ends; what it says (first part: what it asks). -/
import Derived.Test.YthokbeimbdnnoaaGreatDoorPArgsT
set_option linter.unusedVariables false
set_option linter.unusedSimpArgs false
set_option linter.unnecessarySimpa false
namespace Go.Ab
open Go
set_option maxRecDepth 100000
abbrev Ret {R:Type} (x:Option R) (G:R->Prop):Prop:=∃ r,x=some r/\G r
theorem abf {A R:Type}{x:Option A}{K:A->Option R}{G:R->Prop}{y:A} (h:x=some y) (k:Ret (K y) G):Ret (x.bind K) G:=by rw [h];exact k
theorem abj {A R:Type}{x:Option A}{K:A->Option R}{G:R->Prop}{P:A->Prop} (h:Ret x P) (k:∀ y,x=some y->P y->Ret (K y) G):Ret (x.bind K) G:=by obtain ⟨y,o,z⟩:=h;rw [o];exact k y o z
theorem adt {R:Type}{c:Bool}{x:Option R}{G:R->Prop} (h:c=true) (k:Ret x G):Ret (bif c then x else none) G:=by rw [h];exact k
theorem acs {M O J:Type}{step:M->Option (M⊕O)} (st:Nat->J->M) (n:Nat) (z:J->O) (Inv:Nat->J->Prop) (I:∀ i acc,i<n->Inv i acc->∃ h,step (st i acc)=some (.inl (st (i+1) h))/\Inv (i+1) h) (o:∀ acc,Inv n acc->step (st n acc)=some (.inr (z acc))):
 ∀ k i acc,i+k=n->Inv i acc->∃ h,aba step (st i acc)=some (z h)/\Inv n h:=by
 intro k
 induction k with
 | zero=>
  intro i acc hi H
  have:i=n:=by omega
  subst this
  exact ⟨acc,aai (o acc H),H⟩
 | succ k ih=>
  intro i acc hi H
  obtain ⟨h,Z,h2⟩:=I i acc (by omega) H
  rw [aat Z]
  exact ih (i+1) h (by omega) h2
theorem ac2 {J M:Type}{step:J->Option (J⊕M)} (st:Nat->J) (n:Nat) (z:Nat->M) (o:M) (h:∀ i,i<n->step (st i)=some (.inl (st (i+1)))\/step (st i)=some (.inr (z i))) (H:step (st n)=some (.inr o)):
 ∀ k i,i+k=n->∃ r,aba step (st i)=some r/\(r=o\/∃ j,j<n/\r=z j):=by
 intro k
 induction k with
 | zero=>
  intro i O
  have:i=n:=by omega
  subst this
  exact ⟨o,aai H,Or.inl rfl⟩
 | succ k Z=>
  intro i O
  rcases h i (by omega) with I | I
  ·rw [aat I];exact Z (i+1) (by omega)
  ·exact ⟨z i,aai I,Or.inr ⟨i,by omega,rfl⟩⟩
theorem a1p (c:Bool):imp false c=true:=by cases c<;>rfl
theorem a4c (c:Bool):imp true c=c:=by cases c<;>rfl
theorem ast (b:Bool):imp b true=true:=rfl
theorem decL (i n:Nat) (h:i<n):decide ((i:Int)<(n:Int))=true:=Ag (by omega)
theorem decN (n:Nat):decide (((n:Nat):Int)<(n:Int))=false:=An (by omega)
def Ad (a b:List PV) (n:Nat) (P:Prop):Prop:=∃ q,b=a++q/\q.length<=n/\(q=[]->P)
theorem Ad.refl (a:List PV):Ad a a 0 True:=⟨[],by simp,by simp,λ_=>trivial⟩
theorem Ad.trans {a b c:List PV}{n m:Nat}{P Q:Prop} (h:Ad a b n P) (k:Ad b c m Q):Ad a c (n+m) (P/\Q):=by obtain ⟨q,rfl,J,H⟩:=h;obtain ⟨p,rfl,M,I⟩:=k;refine ⟨q++p,by simp,by rw [Ak];omega,λe=>?_⟩;obtain ⟨o,z⟩:=List.append_eq_nil_iff.1 e;exact ⟨H o,I z⟩
theorem Ad.mono {a b:List PV}{n m:Nat}{P Q:Prop} (h:Ad a b n P) (I:n<=m) (z:P->Q):Ad a b m Q:=by obtain ⟨q,rfl,H,o⟩:=h;exact ⟨q,rfl,by omega,λe=>z (o e)⟩
theorem Ad.len {a b:List PV}{n:Nat}{P:Prop} (h:Ad a b n P):b.length<=a.length+n:=by obtain ⟨q,rfl,o,_⟩:=h;rw [Ak];omega
theorem Ad.nil {a b:List PV}{n:Nat}{P:Prop} (h:Ad a b n P) (e:b=[]):a=[]/\P:=by obtain ⟨q,rfl,_,H⟩:=h;obtain ⟨o,z⟩:=List.append_eq_nil_iff.1 e;exact ⟨o,H z⟩
theorem aw9 {bad:Bool}{num e:Int}{d:Bq}{acc:List PV} (h:acc.length<60000000000):∃ o,F75 0 () bad num e d acc=some (d,o)/\Ad acc o 1 (bad=false):=by
 unfold F75;cases bad with
 | false=>exact ⟨acc,rfl,[],by simp,by simp,λ_=>rfl⟩
 | true=>rw [Ag (show acc.length+[PV.agg [PV.str d,PV.int num,PV.int e]].length<=aae by simp;unfold aae;omega)];exact ⟨_,rfl,_,rfl,by simp,λh=>by cases h⟩
theorem abb {R:Type}{bad:Bool}{num e:Int}{d:Bq}{acc:List PV}{K:Bq×List PV->Option R}{G:R->Prop} (h:acc.length<60000000000) (k:∀ o,Ad acc o 1 (bad=false)->Ret (K (d,o)) G):Ret ((F75 0 () bad num e d acc).bind K) G:=by obtain ⟨o,z,H⟩:=aw9 (bad:=bad) (num:=num) (e:=e) (d:=d) h;rw [z];exact k o H
theorem ax9 (l:List PV) (s:Bq) (h:l.length<=1048576):Ret (F139 0 l s) λ_=>True:=by
 obtain ⟨r,H,I⟩:=ac2 (step:=S139_3step 0) (λi=>(l,s,((i:Nat):Int))) l.length (λ_=>.inl true) (.inr ()) (λi z=>by
  simp only [S139_3step,S139_3,decL i _ z,Af,aab,Ag z,Aj,aaz i (by omega)];cases (l.getD i .bad).asStr==s
  ·exact Or.inl rfl
  ·exact Or.inr rfl) (by
  simp only [S139_3step,S139_3,decN,Ah]) l.length 0 (by omega)
 have o:aag 0 (S139_3step 0) (l,s,(0:Int))=some r:=H;unfold F139;rw [o];rcases I with rfl | ⟨j,_,rfl⟩<;>exact ⟨_,rfl,trivial⟩
theorem akm (l:List PV) (n:Int) (h:l.length<=1048576):Ret (F143 0 l n) λ_=>True:=by
 obtain ⟨r,H,I⟩:=ac2 (step:=S143_3step 0) (λi=>(l,n,((i:Nat):Int))) l.length (λ_=>.inl true) (.inr ()) (λi z=>by
  simp only [S143_3step,S143_3,decL i _ z,Af,aab,Ag z,Aj,aaz i (by omega)];cases decide (((l.getD i .bad).fld 0).asInt<=n)<;>cases decide (n<=((l.getD i .bad).fld 1).asInt)
  ·exact Or.inl rfl
  ·exact Or.inl rfl
  ·exact Or.inl rfl
  ·exact Or.inr rfl) (by
  simp only [S143_3step,S143_3,decN,Ah]) l.length 0 (by omega)
 have o:aag 0 (S143_3step 0) (l,n,(0:Int))=some r:=H;unfold F143;rw [o];rcases I with rfl | ⟨j,_,rfl⟩<;>exact ⟨_,rfl,trivial⟩
theorem afb (s:PV) (n:Bq) (h:(s.fld 0).asList.length<=1048576):Ret (F151 0 s n) λr=>r=-1\/∃ j:Nat,j<(s.fld 0).asList.length/\r=(j:Int):=by
 obtain ⟨r,H,I⟩:=ac2 (step:=S151_3step 0) (λi=>(n,(),((i:Nat):Int),s)) (s.fld 0).asList.length (λi=>.inl (((i:Nat):Int),s)) (.inr s) (λi z=>by
  simp only [S151_3step,S151_3,decL i _ z,Af,aab,Ag z,Aj,aaz i (by omega)];cases (((s.fld 0).asList.getD i .bad).fld 0).asStr==n
  ·exact Or.inl rfl
  ·exact Or.inr rfl) (by
  simp only [S151_3step,S151_3,decN,Ah]) (s.fld 0).asList.length 0 (by omega)
 have o:aag 0 (S151_3step 0) (n,(),(0:Int),s)=some r:=H;unfold F151;rw [o];rcases I with rfl | ⟨j,J,rfl⟩
 ·exact ⟨_,rfl,Or.inl rfl⟩
 ·exact ⟨_,rfl,Or.inr ⟨j,J,rfl⟩⟩
theorem alt (s:PV) (n:Bq) (h:(s.fld 1).asList.length<=1048576):Ret (F207 0 s n) λr=>r=-1\/∃ j:Nat,j<(s.fld 1).asList.length/\r=(j:Int):=by
 obtain ⟨r,H,I⟩:=ac2 (step:=S207_3step 0) (λi=>(n,(),((i:Nat):Int),s)) (s.fld 1).asList.length (λi=>.inl (((i:Nat):Int),s)) (.inr s) (λi z=>by
  simp only [S207_3step,S207_3,decL i _ z,Af,aab,Ag z,Aj,aaz i (by omega)];cases (((s.fld 1).asList.getD i .bad).fld 0).asStr==n
  ·exact Or.inl rfl
  ·exact Or.inr rfl) (by
  simp only [S207_3step,S207_3,decN,Ah]) (s.fld 1).asList.length 0 (by omega)
 have o:aag 0 (S207_3step 0) (n,(),(0:Int),s)=some r:=H;unfold F207;rw [o];rcases I with rfl | ⟨j,J,rfl⟩
 ·exact ⟨_,rfl,Or.inl rfl⟩
 ·exact ⟨_,rfl,Or.inr ⟨j,J,rfl⟩⟩
theorem acx {R:Type}{c:Bool}{x y:Option R}{G:R->Prop} (h:Ret x G) (o:Ret y G):Ret (bif c then x else y) G:=by cases c<;>assumption
theorem ab8 {R:Type} (r:R):Ret (some r) λ_=>True:=⟨r,rfl,trivial⟩
theorem a00 (f:PV):Ret (F144 0 f) λ_=>True:=by unfold F144;repeat' (first | exact ab8 _ | refine acx ?_ ?_)
theorem a6r (s f:PV) (h:(s.fld 0).asList.length<=1048576) (o:(s.fld 1).asList.length<=1048576):Ret (F145 0 s f) λ_=>True:=by unfold F145;refine acx (abj (alt s _ o) λ_ _ _=>ab8 _) (acx (abj (afb s _ h) λ_ _ _=>ab8 _) (ab8 _))
theorem ae0 (s:Bq) (h:s.length<=1048576):Ret (F142 0 s) λ_=>True:=⟨_,arx s h,trivial⟩
theorem a0g (m:PV) {i:Nat} (hi:i<(m.fld 1).asList.length) (hl:(m.fld 1).asList.length<=1048576) (hu:(((m.fld 1).asList.getD i .bad).fld 5).asStr.length<=1048576):Ret (F146 0 m (i:Int)) λ_=>True:=by
 unfold F146;simp only [aab,Aj];refine adt (Ag hi) (acx (ab8 _) ?_);refine abj (P:=λ_=>True) (acx (ae0 _ hu) (ab8 _)) λb _ _=>acx (ab8 _) ?_;generalize hf:(m.fld 1).asList.getD i .bad=f;have key:∀ (k j:Nat) (e:Bool),j+k=(m.fld 1).asList.length->(e=true->1<=i)->∃ z,aba (S146_9step 0) ((i:Int),(),(),e,((j:Nat):Int),m,f)=some z/\((∃ b,z=.inl (b,m,f))\/∃ o,z=.inr ((i:Int),(),(),o,m,f)/\(o=true->1<=i)):=by
  intro k;induction k with
  | zero=>
   intro j e hj H;have:j=(m.fld 1).asList.length:=by omega
   subst this;refine ⟨_,aai ?_,Or.inr ⟨e,rfl,H⟩⟩;simp only [S146_9step,S146_9,decN,Ah]
  | succ k ih=>
   intro j e hj H;have J:j<(m.fld 1).asList.length:=by omega
   have M:S146_9step 0 ((i:Int),(),(),e,((j:Nat):Int),m,f)=some (.inr (.inl (false,m,f)))\/∃ o,(o=true->1<=i)/\S146_9step 0 ((i:Int),(),(),e,((j:Nat):Int),m,f)=some (.inl ((i:Int),(),(),o,((j+1:Nat):Int),m,f)):=by
    simp only [S146_9step,S146_9,decL j _ J,Af,aab,Ag J,Aj,aaz j (by omega)];cases (((m.fld 1).asList.getD j .bad).fld 1).asStr==(f.fld 5).asStr with
    | true=>exact Or.inl rfl
    | false=>
     refine Or.inr ?_;by_cases I:(j:Int)<(i:Int)
     ·simp only [Ah,Ag I,imp,Af];cases (((m.fld 1).asList.getD j .bad).fld 5).asStr==(f.fld 5).asStr with
      | true=>exact ⟨true,λ_=>by omega,rfl⟩
      | false=>exact ⟨e,H,rfl⟩
     ·simp only [Ah,An I,imp,Az,Af];exact ⟨e,H,by rfl⟩
   rcases M with M | ⟨o,Z,M⟩
   ·exact ⟨_,aai M,Or.inl ⟨false,rfl⟩⟩
   ·rw [aat M];exact ih (j+1) o (by omega) Z
 obtain ⟨z,h1,h2⟩:=key (m.fld 1).asList.length 0 false (by omega) (λh=>by cases h);have O:aag 0 (S146_9step 0) ((i:Int),(),(),false,(0:Int),m,f)=some z:=h1;rw [O];rcases h2 with ⟨b,rfl⟩ | ⟨o,rfl,H⟩
 ·exact ⟨_,rfl,trivial⟩
 ·simp only [Ae,apr];refine adt ?_ (ab8 _);cases o with
  | false=>exact a1p _
  | true=>have:=H rfl;rw [show IntKind.wrap .i64 ((i:Int)-1)=((i-1:Nat):Int) from by rw [show (i:Int)-1=((i-1:Nat):Int) by omega];exact aa9 (by omega),aab,Ag (show i-1<(m.fld 1).asList.length by omega)];rfl
theorem a2d (v:PV) (I:acv v):∃ w,F209 0 v=some w:=by
 obtain ⟨u,J,H⟩:=a0x I;have o:(v.fld 0).asInt=aav v:=rfl;have z:(v.fld 1).asInt=abn v:=rfl;unfold F209;simp only [o,z,J,amj u];cases (aav v==(6:Int)) with
 | false=>exact ⟨v,rfl⟩
 | true=>
  simp only [Af,Ae];cases h:aen u==(0:Int) with
  | false=>exact ⟨v,rfl⟩
  | true=>exact ⟨_,rfl⟩
theorem a0j (s f:PV) (h1:(s.fld 1).asList.length<=1048576) (hi:∀ x,x∈(s.fld 1).asList->(x.fld 2).asList.length<=1048576) (hv:acv (f.fld 7)):Ret (F147 0 s f) λb=>b=true->(f.fld 6).asBool=true->ac4 ((f.fld 4).fld 0).asInt (f.fld 7)=true:=by
 unfold F147;have o:∀ a b:PV,Ret (F208 0 a b) λ_=>True:=λa b=>by unfold F208;exact ab8 _
 cases hd:(f.fld 6).asBool with
 | false=>simp only [Az,Af];refine abj (o _ _) λb _ _=>⟨b,rfl,λ_ h=>by cases h⟩
 | true=>
  simp only [A3,Ah];generalize (bif ((f.fld 2).asInt != (2:Int)) then true else (!((f.fld 5).asStr==([]:Bq))))=c9;rw [adg _ _ hv];obtain ⟨w,hw⟩:=a2d (f.fld 7) hv;rw [hw];have bad:∀ {R:Type} (r:R),True:=λ_=>trivial;cases c9 with
  | true=>simp only [A3,Ah,Ae,Af];exact ⟨false,rfl,λh=>by cases h⟩
  | false=>
   simp only [Az,Af,Ae,Ah];cases Z:ac4 ((f.fld 4).fld 0).asInt (f.fld 7) with
   | false=>simp only [Az,Ah,A3,Ae,Af];exact ⟨false,rfl,λh=>by cases h⟩
   | true=>
    simp only [A3,Af,Az,Ae,Ah];have z:∀ {x:Option Bool},Ret x (λ_=>True)->Ret x λb=>b=true->True->True:=λ⟨r,h,_⟩=>⟨r,h,λ_ _=>trivial⟩;refine z ?_;refine abj (o _ _) λb _ _=>acx (ab8 _) ?_;refine abj (alt s _ h1) λk _ hk=>acx (ab8 _) ?_;rcases hk with rfl | ⟨j,J,rfl⟩
    ·exact ⟨false,rfl,trivial⟩
    ·have M:decide (((j:Nat):Int)<(0:Int))=false:=An (by omega);rw [M,Ah];have I:(s.fld 1).asList.getD j .bad∈(s.fld 1).asList:=by rw [aaf J];exact List.getElem_mem J
     have aa:=hi _ I;obtain ⟨r,q1,q2⟩:=ac2 (step:=S147_13step 0) (λi=>((),(),((j:Nat):Int),((i:Nat):Int),s,f,f.fld 7)) (((s.fld 1).asList.getD j .bad).fld 2).asList.length (λ_=>.inl (true,s,f,f.fld 7)) (.inr (s,f,f.fld 7)) (λi H=>by
      simp only [S147_13step,S147_13,aab,Ag J,Aj,Af,decL i _ H,Ag H,aaz i (by omega)];cases (IntKind.wrap .u64 (((((s.fld 1).asList.getD j .bad).fld 2).asList.getD i .bad).fld 1).asInt)==((f.fld 7).fld 1).asInt
      ·exact Or.inl rfl
      ·exact Or.inr rfl) (by
      simp only [S147_13step,S147_13,aab,Ag J,Aj,Af,decN,Ah]) _ 0 (Nat.zero_add _)
     have O:aag 0 (S147_13step 0) ((),(),((j:Nat):Int),(0:Int),s,f,f.fld 7)=some r:=q1;rw [O];rcases q2 with rfl | ⟨_,_,rfl⟩<;>exact ⟨_,rfl,trivial⟩
end Go.Ab
namespace Go.Ab
open Go
set_option maxRecDepth 100000
theorem adf {M Z O H:Type}{step:M->Option (M⊕Z)} (st:Nat->H->M) (xs:List O) (f:H->O->H) (z:H->Z) (Inv:Nat->H->Prop)
 (J:∀ i acc (h:i<xs.length),Inv i acc->step (st i acc)=some (.inl (st (i+1) (f acc xs[i])))/\Inv (i+1) (f acc xs[i])) (o:∀ acc,Inv xs.length acc->step (st xs.length acc)=some (.inr (z acc))):
 ∀ k i acc,i+k=xs.length->Inv i acc->aba step (st i acc)=some (z ((xs.drop i).foldl f acc))/\Inv xs.length ((xs.drop i).foldl f acc):=by
 intro k
 induction k with
 | zero=>
  intro i acc hi I
  have:i=xs.length:=by omega
  subst this
  rw [List.drop_length]
  exact ⟨aai (o acc I),I⟩
 | succ k ih=>
  intro i acc hi I
  have h:i<xs.length:=by omega
  obtain ⟨h1,h2⟩:=J i acc h I
  rw [aat h1,List.drop_eq_getElem_cons h]
  exact ih (i+1) _ (by omega) h2
theorem ajo {h o:Type} (g:h->o):∀ (l:List h) (acc:List o),l.foldl (λa x=>a++[g x]) acc=acc++l.map g:=by
 intro l;induction l with
 | nil=>intro acc;simp
 | cons x l z=>intro acc;rw [List.foldl_cons,z];simp
theorem axb {p:Nat->Bool}:∀ (k i:Nat),allF p i k=true->∀ j,i<=j->j<i+k->p j=true:=by
 intro k;induction k with
 | zero=>intro i _ j z H;omega
 | succ k J=>
  intro i h j z H;unfold allF at h;cases o:p i with
  | false=>rw [o] at h;cases h
  | true=>
   rw [o] at h;by_cases I:j=i
   ·subst I;exact o
   ·exact J (i+1) h j (by omega) (by omega)
theorem afi {l:List PV}{t num:Int}{d:Bq}{acc:List PV} (H:acc.length<60000000000) (I:l.length<=1048576) (J:∀ n,n∈l->agd n):∃ h,F148 0 () l t num d acc=some (d,h)/\Ad acc h 1 True:=by unfold F148;rw [ata l t I J];obtain ⟨h,o,z⟩:=aw9 (bad:=aua l t != (0:Int)) (num:=num) (e:=aua l t) (d:=d) H;refine ⟨h,?_,z.mono (Nat.le_refl _) λ_=>trivial⟩;rw [Ae,o];rfl
theorem arl {l:List PV}{a b:Int}{d:Bq}{acc:List PV} (hl:l.length<=1048576) (ha:acc.length+2*l.length<60000000000):∃ h,F149 0 () l a b d acc=some (d,h)/\Ad acc h (2*l.length) True:=by
 obtain ⟨h,H,J⟩:=acs (step:=S149_2step 0) (λi c=>((),l,a,b,((i:Nat):Int),d,c)) l.length (λc=>(d,c)) (λi c=>Ad acc c (2*i) True) (λi c Z O=>by
  have hc:=O.len;have o:Ret (S149_2step 0 ((),l,a,b,((i:Nat):Int),d,c)) λr=>∃ z,r=.inl ((),l,a,b,((i+1:Nat):Int),d,z)/\Ad acc z (2*(i+1)) True:=by
   simp only [S149_2step,S149_2,decL i _ Z,Af,aab,Ag Z,Aj,aaz i (by omega)];refine adt (ast _) (adt (ast _) (adt (ast _) ?_));refine abb (by omega) λc1 r1=>?_;have aa:=r1.len;refine adt (ast _) (adt ?_ ?_)
   ·by_cases M:(i:Int)>0
    ·rw [Ag M,show IntKind.wrap .i64 ((i:Int)-1)=((i-1:Nat):Int) from by rw [show (i:Int)-1=((i-1:Nat):Int) by omega];exact aa9 (by omega),aab,Ag (show i-1<l.length by omega)];rfl
    ·rw [An M];exact a1p _
   ·refine abb (show c1.length<_ from by omega) λc2 r2=>?_;exact ⟨_,rfl,c2,rfl,((O.trans r1).trans r2).mono (by omega) λ_=>trivial⟩
  obtain ⟨r,H,z,rfl,J⟩:=o;exact ⟨z,H,J⟩) (λc _=>by
  simp only [S149_2step,S149_2,decN,Ah]) l.length 0 acc (by omega) ((Ad.refl acc).mono (by omega) λ_=>trivial)
 refine ⟨h,?_,J⟩;have I:aag 0 (S149_2step 0) ((),l,a,b,(0:Int),d,acc)=some (d,h):=H;unfold F149;rw [I];rfl
theorem azd {s m:PV}{fin:List PV} (z:fin.length=(s.fld 0).asList.length) (Z:(s.fld 0).asList.length<=1048576) (hl:(m.fld 1).asList.length<=1048576):Ret (F140_v1 0 s m fin) λ_=>True:=by
 obtain ⟨r,I,J⟩:=ac2 (step:=S140_v1_3step 0) (λi=>(fin,(),(),((i:Nat):Int),s,m)) (m.fld 1).asList.length (λ_=>.inl (true,s,m)) (.inr (s,m)) (λi H=>by
  simp only [S140_v1_3step,S140_v1_3,decL i _ H,Af,aab,Ag H,Aj,aaz i (by omega)];generalize (m.fld 1).asList.getD i .bad=f;obtain ⟨k,O,o⟩:=afb s ((f.fld 4).fld 1).asStr Z;rw [O];cases (bif ((f.fld 2).asInt != (1:Int)) then true else (((f.fld 4).fld 0).asInt != (10:Int))) with
  | true=>exact Or.inl rfl
  | false=>
   simp only [Ah,Ae];rcases o with rfl | ⟨j,hj,rfl⟩
   ·exact Or.inl rfl
   ·have M:decide (((j:Nat):Int)>=(0:Int))=true:=Ag (by omega);rw [M,a4c,aab,Ag (show j<fin.length by omega),Af,Af];cases (!(fin.getD ((j:Nat):Int).toNat .bad).asBool) with
    | true=>exact Or.inr rfl
    | false=>exact Or.inl rfl) (by
  simp only [S140_v1_3step,S140_v1_3,decN,Ah]) (m.fld 1).asList.length 0 (by omega)
 have h:aag 0 (S140_v1_3step 0) (fin,(),(),(0:Int),s,m)=some r:=I;unfold F140_v1;rw [h];rcases J with rfl | ⟨j,_,rfl⟩<;>exact ⟨_,rfl,trivial⟩
theorem awd {s m:PV}{fin:List PV} (z:fin.length=(s.fld 0).asList.length) (Z:(s.fld 0).asList.length<=1048576) (hl:(m.fld 1).asList.length<=1048576):Ret (F140 0 s m () fin) λr=>r.2=fin:=by
 obtain ⟨r,I,J⟩:=ac2 (step:=S140_3step 0) (λi=>((),(),(),((i:Nat):Int),fin,s,m)) (m.fld 1).asList.length (λ_=>.inl (true,fin,s,m)) (.inr (fin,s,m)) (λi H=>by
  simp only [S140_3step,S140_3,decL i _ H,Af,aab,Ag H,Aj,aaz i (by omega)];generalize (m.fld 1).asList.getD i .bad=f;obtain ⟨k,O,o⟩:=afb s ((f.fld 4).fld 1).asStr Z;rw [O];cases (bif ((f.fld 2).asInt != (1:Int)) then true else (((f.fld 4).fld 0).asInt != (10:Int))) with
  | true=>exact Or.inl rfl
  | false=>
   simp only [Ah,Ae];rcases o with rfl | ⟨j,hj,rfl⟩
   ·exact Or.inl rfl
   ·have M:decide (((j:Nat):Int)>=(0:Int))=true:=Ag (by omega);rw [M,a4c,aab,Ag (show j<fin.length by omega),Af,Af];cases (!(fin.getD ((j:Nat):Int).toNat .bad).asBool) with
    | true=>exact Or.inr rfl
    | false=>exact Or.inl rfl) (by
  simp only [S140_3step,S140_3,decN,Ah]) (m.fld 1).asList.length 0 (by omega)
 have h:aag 0 (S140_3step 0) ((),(),(),(0:Int),fin,s,m)=some r:=I;unfold F140;rw [h];rcases J with rfl | ⟨j,_,rfl⟩<;>exact ⟨_,rfl,rfl⟩
theorem avu {s:PV} (hm:(s.fld 0).asList.length<=1048576) (hl:∀ m,m∈(s.fld 0).asList->(m.fld 1).asList.length<=1048576):Ret (F78 0 s) λl=>l.length=(s.fld 0).asList.length:=by
 have H:∀ (o:Bool) (h:Nat) (xs:List PV),xs.length=(s.fld 0).asList.length->∃ (z:Bool) (xs':List PV),aag 0 (S78_9step 0) ((),(),o,((h:Nat):Int),(0:Int),s,xs)=some ((),(),z,((h:Nat):Int),s,xs')/\xs'.length=(s.fld 0).asList.length:=by
  intro o h xs M;obtain ⟨⟨z,xs'⟩,h1,h2⟩:=acs (step:=S78_9step 0) (λi (c:Bool×List PV)=>((),(),c.1,((h:Nat):Int),((i:Nat):Int),s,c.2)) (s.fld 0).asList.length (λc=>((),(),c.1,((h:Nat):Int),s,c.2)) (λ_ c=>c.2.length=(s.fld 0).asList.length) (λi c hi J=>by
   obtain ⟨mo,ys⟩:=c;have J:ys.length=(s.fld 0).asList.length:=J;have O:(s.fld 0).asList.getD i .bad∈(s.fld 0).asList:=by rw [aaf hi];exact List.getElem_mem hi
   obtain ⟨⟨b,zs⟩,hn,hz⟩:=awd (m:=(s.fld 0).asList.getD i .bad) J hm (hl _ O);have hz:zs=ys:=hz;subst hz;simp only [S78_9step,S78_9,decL i _ hi,Af,aab,Ag hi,Ag (show i<zs.length by omega),Aj,aaz i (by omega),ast,hn,Ae];cases (zs.getD i .bad).asBool with
   | true=>exact ⟨(mo,zs),rfl,J⟩
   | false=>
    cases b with
    | true=>exact ⟨(mo,zs),rfl,J⟩
    | false=>exact ⟨(true,zs.set i (PV.bool true)),rfl,by simpa using J⟩) (λc _=>by
   simp only [S78_9step,S78_9,decN,Ah]) (s.fld 0).asList.length 0 (o,xs) (by omega) M
  exact ⟨z,xs',h1,h2⟩
 have I:∀ (k h:Nat) (o:Bool) (xs:List PV),h+k=(s.fld 0).asList.length->xs.length=(s.fld 0).asList.length->∃ xs',aba (S78_5step 0) ((),(),o,((h:Nat):Int),s,xs)=some ((),s,xs')/\xs'.length=(s.fld 0).asList.length:=by
  intro k;induction k with
  | zero=>
   intro h o xs hr M;have:h=(s.fld 0).asList.length:=by omega
   subst this;refine ⟨xs,aai ?_,M⟩;simp only [S78_5step,S78_5,decN,Ah]
  | succ k ih=>
   intro h o xs hr M;cases o with
   | false=>refine ⟨xs,aai ?_,M⟩;simp only [S78_5step,S78_5,decL h _ (show h<(s.fld 0).asList.length by omega),Af,Ah]
   | true=>
    obtain ⟨m',Z,h1,h2⟩:=H false h xs M;obtain ⟨xs',q1,q2⟩:=ih (h+1) m' Z (by omega) h2;refine ⟨xs',?_,q2⟩;rw [aat (x1:=((),(),m',((h+1:Nat):Int),s,Z))]
    ·exact q1
    ·simp only [S78_5step,S78_5,decL h _ (show h<(s.fld 0).asList.length by omega),Af,h1,Ae,aaz h (by omega)]
 obtain ⟨xs',q1,q2⟩:=I (s.fld 0).asList.length 0 true (List.replicate (s.fld 0).asList.length (PV.bool false)) (by omega) (by simp);unfold F78;have hd:decide ((0:Int)<=(((s.fld 0).asList.length:Nat):Int)/\(((s.fld 0).asList.length:Nat):Int)<=(((s.fld 0).asList.length:Nat):Int)/\(((s.fld 0).asList.length:Nat):Int)<=aae)=true:=Ag (by unfold aae;omega);have aa:aag 0 (S78_5step 0) ((),(),true,(0:Int),s,List.replicate (s.fld 0).asList.length (PV.bool false))=some ((),s,xs'):=q1;refine adt hd ?_;rw [Aj,aa];exact ⟨xs',rfl,q2⟩
def nmL (l:List PV):List PV:=l.map λm=>PV.str (m.fld 0).asStr
theorem a6b {w:Int}{s:PV} (h:(s.fld 0).asList.length<=1048576):aag 0 (S74_4step 0) (w,(),[],(0:Int),s)=some (w,(),(bif w==1 then nmL (s.fld 0).asList else []),s):=by
 cases z:w==(1:Int) with
 | false=>refine aai (x:=(w,(),[],(0:Int),s)) ?_;simp only [S74_4step,S74_4,z,Ah]
 | true=>
  obtain ⟨H,_⟩:=adf (step:=S74_4step 0) (λi c=>(w,(),c,((i:Nat):Int),s)) (s.fld 0).asList (λa x=>a++[PV.str (x.fld 0).asStr]) (λc=>(w,(),c,s)) (λi c=>c.length=i) (λi c o I=>by
   refine ⟨?_,by simp [I]⟩;simp only [S74_4step,S74_4,z,decL i _ o,Af,aab,Ag o,Aj,aaf o,Ag (show c.length+[PV.str (((s.fld 0).asList[i]).fld 0).asStr].length<=aae by simp;unfold aae;omega),aaz i (by omega)]) (λc _=>by
   simp only [S74_4step,S74_4,z,decN,Af,Ah]) (s.fld 0).asList.length 0 [] (by omega) rfl
  rw [As,ajo,A9] at H;exact H
theorem as3 {w:Int}{s:PV}{acc:List PV} (J:acc.length<=1048576) (h:(s.fld 1).asList.length<=1048576):aag 0 (S74_8step 0) (w,(),acc,(0:Int),s)=some (w,(),(bif w==2 then acc++nmL (s.fld 1).asList else acc),s):=by
 cases z:w==(2:Int) with
 | false=>refine aai (x:=(w,(),acc,(0:Int),s)) ?_;simp only [S74_8step,S74_8,z,Ah]
 | true=>
  obtain ⟨H,_⟩:=adf (step:=S74_8step 0) (λi c=>(w,(),c,((i:Nat):Int),s)) (s.fld 1).asList (λa x=>a++[PV.str (x.fld 0).asStr]) (λc=>(w,(),c,s)) (λi c=>c.length=acc.length+i) (λi c o I=>by
   refine ⟨?_,by simp [I];omega⟩;simp only [S74_8step,S74_8,z,decL i _ o,Af,aab,Ag o,Aj,aaf o,Ag (show c.length+[PV.str (((s.fld 1).asList[i]).fld 0).asStr].length<=aae by simp;unfold aae;omega),aaz i (by omega)]) (λc _=>by
   simp only [S74_8step,S74_8,z,decN,Af,Ah]) (s.fld 1).asList.length 0 acc (by omega) (by simp)
  rw [As,ajo] at H;exact H
theorem as4 {w:Int}{s:PV}{acc:List PV} (J:acc.length<=1048576) (h:(s.fld 2).asList.length<=1048576):aag 0 (S74_12step 0) (w,(),acc,(0:Int),s)=some ((bif w==3 then acc++nmL (s.fld 2).asList else acc),s):=by
 cases z:w==(3:Int) with
 | false=>refine aai (x:=(w,(),acc,(0:Int),s)) ?_;simp only [S74_12step,S74_12,z,Ah]
 | true=>
  obtain ⟨H,_⟩:=adf (step:=S74_12step 0) (λi c=>(w,(),c,((i:Nat):Int),s)) (s.fld 2).asList (λa x=>a++[PV.str (x.fld 0).asStr]) (λc=>(c,s)) (λi c=>c.length=acc.length+i) (λi c o I=>by
   refine ⟨?_,by simp [I];omega⟩;simp only [S74_12step,S74_12,z,decL i _ o,Af,aab,Ag o,Aj,aaf o,Ag (show c.length+[PV.str (((s.fld 2).asList[i]).fld 0).asStr].length<=aae by simp;unfold aae;omega),aaz i (by omega)]) (λc _=>by
   simp only [S74_12step,S74_12,z,decN,Af,Ah]) (s.fld 2).asList.length 0 acc (by omega) (by simp)
  rw [As,ajo] at H;exact H
structure SLen (s:PV):Prop where
 m:(s.fld 0).asList.length<=1048576
 e:(s.fld 1).asList.length<=1048576
 v:(s.fld 2).asList.length<=1048576
theorem ak2 {s:PV} (h:SLen s) {w:Int} (J:w=1\/w=2\/w=3):F74 0 s w=some (nmL (bif w==1 then (s.fld 0).asList else bif w==2 then (s.fld 1).asList else (s.fld 2).asList)):=by
 have I:∀ l:List PV,(nmL l).length=l.length:=λl=>by simp [nmL]
 have M:=h.m;have O:=h.e;have Z:=h.v;unfold F74;rw [a6b h.m];simp only [Ae];rcases J with rfl | rfl | rfl
 ·have o:((1:Int)==1)=true:=rfl;have z:((1:Int)==2)=false:=rfl;have H:((1:Int)==3)=false:=rfl;simp only [o,Af];rw [as3 (by rw [I];omega) h.e];simp only [z,Ah,Ae];rw [as4 (by rw [I];omega) h.v];simp only [H,Ah,Ae]
 ·have o:((2:Int)==1)=false:=rfl;have z:((2:Int)==2)=true:=rfl;have H:((2:Int)==3)=false:=rfl;simp only [o,Ah];rw [as3 (by simp) h.e];simp only [z,Af,Ae,A9];rw [as4 (by rw [I];omega) h.v];simp only [H,Ah,Ae]
 ·have o:((3:Int)==1)=false:=rfl;have z:((3:Int)==2)=false:=rfl;have H:((3:Int)==3)=true:=rfl;simp only [o,Ah];rw [as3 (by simp) h.e];simp only [z,Ah,Ae];rw [as4 (by simp) h.v];simp only [H,Af,Ae,A9]
def ascB (l:List PV) (i:Nat):Bool:=!(Op.bytesLess (l.getD (i+1) .bad).asStr (l.getD i .bad).asStr||(l.getD (i+1) .bad).asStr==(l.getD i .bad).asStr)
theorem a4u {l:List PV} (h:l.length<=1048576):Ret (F76 0 l) λb=>b=true->∀ i,i+1<l.length->ascB l i=true:=by
 have J:=aiy (step:=S76_3step 0) (λi=>(l,((i+1:Nat):Int))) (l.length-1) (ascB l) (.inl false) (.inr ()) (λi I=>by
  have w:IntKind.wrap .i64 (((i+1:Nat):Int)-1)=((i:Nat):Int):=by rw [show ((i+1:Nat):Int)-1=(i:Int) by omega];exact aa9 (by omega)
  simp only [S76_3step,S76_3,decL (i+1) _ (show i+1<l.length by omega),Af,aab,Ag (show i+1<l.length by omega),w,Ag (show i<l.length by omega),Aj,aaz (i+1) (by omega),ascB];cases (Op.bytesLess (l.getD (i+1) .bad).asStr (l.getD i .bad).asStr||(l.getD (i+1) .bad).asStr==(l.getD i .bad).asStr)<;>rfl) (by
  have H:decide (((l.length-1+1:Nat):Int)<(l.length:Int))=false:=An (by omega);simp only [S76_3step,S76_3,H,Ah]) (l.length-1) 0 (by omega)
 have z:aag 0 (S76_3step 0) (l,(1:Int))=some (bif allF (ascB l) 0 (l.length-1) then .inr () else .inl false):=J;unfold F76;rw [z];cases o:allF (ascB l) 0 (l.length-1) with
 | false=>exact ⟨false,rfl,λh=>by cases h⟩
 | true=>exact ⟨true,rfl,λ_ i I=>axb _ _ o i (by omega) (by omega)⟩
theorem ao9 {a b:List PV} (M:a.length<=1048576) (I:b.length<=1048576):Ret (F77 0 a b) λ_=>True:=by
 obtain ⟨r,z,H⟩:=ac2 (step:=S77_3step 0) (λi=>(a,b,((i:Nat):Int))) a.length (λ_=>.inl true) (.inr ()) (λi o=>by
  obtain ⟨c,J,_⟩:=ax9 b (a.getD i .bad).asStr I;simp only [S77_3step,S77_3,decL i _ o,Af,aab,Ag o,Aj,J,Ae,aaz i (by omega)];cases c with
  | true=>exact Or.inr rfl
  | false=>exact Or.inl rfl) (by
  simp only [S77_3step,S77_3,decN,Ah]) a.length 0 (by omega)
 have h:aag 0 (S77_3step 0) (a,b,(0:Int))=some r:=z;unfold F77;rw [h];rcases H with rfl | ⟨j,_,rfl⟩<;>exact ⟨_,rfl,trivial⟩
end Go.Ab
