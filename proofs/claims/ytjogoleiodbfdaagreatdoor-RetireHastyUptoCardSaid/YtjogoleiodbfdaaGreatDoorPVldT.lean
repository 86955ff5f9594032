/- The specification's examination of schemas ends; what it says (first part: what it asks). -/
import Derived.Test.YtjogoleiodbfdaaGreatDoorPArgsT
set_option linter.unusedVariables false
set_option linter.unusedSimpArgs false
set_option linter.unnecessarySimpa false
namespace Go.Ab
open Go
set_option maxRecDepth 100000
abbrev Ret {R:Type} (x:Option R) (G:R->Prop):Prop:=∃ r,x=some r/\G r
theorem abh {A R:Type}{x:Option A}{K:A->Option R}{G:R->Prop}{y:A} (h:x=some y) (k:Ret (K y) G):Ret (x.bind K) G:=by rw [h];exact k
theorem abl {A R:Type}{x:Option A}{K:A->Option R}{G:R->Prop}{P:A->Prop} (h:Ret x P) (k:∀ y,x=some y->P y->Ret (K y) G):Ret (x.bind K) G:=by obtain ⟨y,o,H⟩:=h;rw [o];exact k y o H
theorem ad5 {R:Type}{c:Bool}{x:Option R}{G:R->Prop} (h:c=true) (k:Ret x G):Ret (bif c then x else none) G:=by rw [h];exact k
theorem acv {M O β:Type}{step:M->Option (M⊕O)} (st:Nat->β->M) (n:Nat) (H:β->O) (Inv:Nat->β->Prop) (J:∀ i acc,i<n->Inv i acc->∃ h,step (st i acc)=some (.inl (st (i+1) h))/\Inv (i+1) h) (o:∀ acc,Inv n acc->step (st n acc)=some (.inr (H acc))):
 ∀ k i acc,i+k=n->Inv i acc->∃ h,aa9 step (st i acc)=some (H h)/\Inv n h:=by
 intro k
 induction k with
 | zero=>
  intro i acc hi I
  have:i=n:=by omega
  subst this
  exact ⟨acc,aah (o acc I),I⟩
 | succ k ih=>
  intro i acc hi I
  obtain ⟨h,Z,h2⟩:=J i acc (by omega) I
  rw [aaq Z]
  exact ih (i+1) h (by omega) h2
theorem ade {M O:Type}{step:M->Option (M⊕O)} (st:Nat->M) (n:Nat) (H:Nat->O) (o:O) (h:∀ i,i<n->step (st i)=some (.inl (st (i+1)))\/step (st i)=some (.inr (H i))) (I:step (st n)=some (.inr o)):
 ∀ k i,i+k=n->∃ r,aa9 step (st i)=some r/\(r=o\/∃ j,j<n/\r=H j):=by
 intro k
 induction k with
 | zero=>
  intro i Z
  have:i=n:=by omega
  subst this
  exact ⟨o,aah I,Or.inl rfl⟩
 | succ k ih=>
  intro i Z
  rcases h i (by omega) with J | J
  ·rw [aaq J];exact ih (i+1) (by omega)
  ·exact ⟨H i,aah J,Or.inr ⟨i,by omega,rfl⟩⟩
theorem a4m (c:Bool):imp false c=true:=by cases c<;>rfl
theorem a6r (c:Bool):imp true c=c:=by cases c<;>rfl
theorem at6 (b:Bool):imp b true=true:=rfl
theorem decL (i n:Nat) (h:i<n):decide ((i:Int)<(n:Int))=true:=Ag (by omega)
theorem decN (n:Nat):decide (((n:Nat):Int)<(n:Int))=false:=An (by omega)
def Ad (a b:List PV) (n:Nat) (P:Prop):Prop:=∃ q,b=a++q/\q.length<=n/\(q=[]->P)
theorem Ad.refl (a:List PV):Ad a a 0 True:=⟨[],by simp,by simp,λ_=>trivial⟩
theorem Ad.trans {a b c:List PV}{n m:Nat}{P Q:Prop} (h:Ad a b n P) (k:Ad b c m Q):Ad a c (n+m) (P/\Q):=by obtain ⟨q,rfl,M,I⟩:=h;obtain ⟨p,rfl,O,J⟩:=k;refine ⟨q++p,by simp,by rw [Ak];omega,λe=>?_⟩;obtain ⟨o,H⟩:=List.append_eq_nil_iff.1 e;exact ⟨I o,J H⟩
theorem Ad.mono {a b:List PV}{n m:Nat}{P Q:Prop} (h:Ad a b n P) (J:n<=m) (H:P->Q):Ad a b m Q:=by obtain ⟨q,rfl,I,o⟩:=h;exact ⟨q,rfl,by omega,λe=>H (o e)⟩
theorem Ad.len {a b:List PV}{n:Nat}{P:Prop} (h:Ad a b n P):b.length<=a.length+n:=by obtain ⟨q,rfl,o,_⟩:=h;rw [Ak];omega
theorem Ad.nil {a b:List PV}{n:Nat}{P:Prop} (h:Ad a b n P) (e:b=[]):a=[]/\P:=by obtain ⟨q,rfl,_,I⟩:=h;obtain ⟨o,H⟩:=List.append_eq_nil_iff.1 e;exact ⟨o,I H⟩
theorem ay7 {bad:Bool}{num e:Int}{d:Bt}{acc:List PV} (h:acc.length<60000000000):∃ o,F44 0 () bad num e d acc=some (d,o)/\Ad acc o 1 (bad=false):=by
 unfold F44;cases bad with
 | false=>exact ⟨acc,rfl,[],by simp,by simp,λ_=>rfl⟩
 | true=>rw [Ag (show acc.length+[PV.agg [PV.str d,PV.int num,PV.int e]].length<=aaf by simp;unfold aaf;omega)];exact ⟨_,rfl,_,rfl,by simp,λh=>by cases h⟩
theorem abe {R:Type}{bad:Bool}{num e:Int}{d:Bt}{acc:List PV}{K:Bt×List PV->Option R}{G:R->Prop} (h:acc.length<60000000000) (k:∀ o,Ad acc o 1 (bad=false)->Ret (K (d,o)) G):Ret ((F44 0 () bad num e d acc).bind K) G:=by obtain ⟨o,H,I⟩:=ay7 (bad:=bad) (num:=num) (e:=e) (d:=d) h;rw [H];exact k o I
theorem az9 (l:List PV) (s:Bt) (h:l.length<=1048576):Ret (F82 0 l s) λ_=>True:=by
 obtain ⟨r,I,J⟩:=ade (step:=S82_3step 0) (λi=>(l,s,((i:Nat):Int))) l.length (λ_=>.inl true) (.inr ()) (λi H=>by
  simp only [S82_3step,S82_3,decL i _ H,Af,aab,Ag H,Ai,aax i (by omega)];cases (l.getD i .bad).asStr==s
  ·exact Or.inl rfl
  ·exact Or.inr rfl) (by
  simp only [S82_3step,S82_3,decN,Ah]) l.length 0 (by omega)
 have o:aag 0 (S82_3step 0) (l,s,(0:Int))=some r:=I;unfold F82;rw [o];rcases J with rfl | ⟨j,_,rfl⟩<;>exact ⟨_,rfl,trivial⟩
theorem ali (l:List PV) (n:Int) (h:l.length<=1048576):Ret (F86 0 l n) λ_=>True:=by
 obtain ⟨r,I,J⟩:=ade (step:=S86_3step 0) (λi=>(l,n,((i:Nat):Int))) l.length (λ_=>.inl true) (.inr ()) (λi H=>by
  simp only [S86_3step,S86_3,decL i _ H,Af,aab,Ag H,Ai,aax i (by omega)];cases decide (((l.getD i .bad).fld 0).asInt<=n)<;>cases decide (n<=((l.getD i .bad).fld 1).asInt)
  ·exact Or.inl rfl
  ·exact Or.inl rfl
  ·exact Or.inl rfl
  ·exact Or.inr rfl) (by
  simp only [S86_3step,S86_3,decN,Ah]) l.length 0 (by omega)
 have o:aag 0 (S86_3step 0) (l,n,(0:Int))=some r:=I;unfold F86;rw [o];rcases J with rfl | ⟨j,_,rfl⟩<;>exact ⟨_,rfl,trivial⟩
theorem afo (s:PV) (n:Bt) (h:(s.fld 0).asList.length<=1048576):Ret (F94 0 s n) λr=>r=-1\/∃ j:Nat,j<(s.fld 0).asList.length/\r=(j:Int):=by
 obtain ⟨r,I,J⟩:=ade (step:=S94_3step 0) (λi=>(n,(),((i:Nat):Int),s)) (s.fld 0).asList.length (λi=>.inl (((i:Nat):Int),s)) (.inr s) (λi H=>by
  simp only [S94_3step,S94_3,decL i _ H,Af,aab,Ag H,Ai,aax i (by omega)];cases (((s.fld 0).asList.getD i .bad).fld 0).asStr==n
  ·exact Or.inl rfl
  ·exact Or.inr rfl) (by
  simp only [S94_3step,S94_3,decN,Ah]) (s.fld 0).asList.length 0 (by omega)
 have o:aag 0 (S94_3step 0) (n,(),(0:Int),s)=some r:=I;unfold F94;rw [o];rcases J with rfl | ⟨j,M,rfl⟩
 ·exact ⟨_,rfl,Or.inl rfl⟩
 ·exact ⟨_,rfl,Or.inr ⟨j,M,rfl⟩⟩
theorem amq (s:PV) (n:Bt) (h:(s.fld 1).asList.length<=1048576):Ret (F124 0 s n) λr=>r=-1\/∃ j:Nat,j<(s.fld 1).asList.length/\r=(j:Int):=by
 obtain ⟨r,I,J⟩:=ade (step:=S124_3step 0) (λi=>(n,(),((i:Nat):Int),s)) (s.fld 1).asList.length (λi=>.inl (((i:Nat):Int),s)) (.inr s) (λi H=>by
  simp only [S124_3step,S124_3,decL i _ H,Af,aab,Ag H,Ai,aax i (by omega)];cases (((s.fld 1).asList.getD i .bad).fld 0).asStr==n
  ·exact Or.inl rfl
  ·exact Or.inr rfl) (by
  simp only [S124_3step,S124_3,decN,Ah]) (s.fld 1).asList.length 0 (by omega)
 have o:aag 0 (S124_3step 0) (n,(),(0:Int),s)=some r:=I;unfold F124;rw [o];rcases J with rfl | ⟨j,M,rfl⟩
 ·exact ⟨_,rfl,Or.inl rfl⟩
 ·exact ⟨_,rfl,Or.inr ⟨j,M,rfl⟩⟩
theorem ac5 {R:Type}{c:Bool}{x y:Option R}{G:R->Prop} (h:Ret x G) (o:Ret y G):Ret (bif c then x else y) G:=by cases c<;>assumption
theorem ach {R:Type} (r:R):Ret (some r) λ_=>True:=⟨r,rfl,trivial⟩
theorem a3o (f:PV):Ret (F87 0 f) λ_=>True:=by unfold F87;repeat' (first | exact ach _ | refine ac5 ?_ ?_)
theorem a9l (s f:PV) (h:(s.fld 0).asList.length<=1048576) (o:(s.fld 1).asList.length<=1048576):Ret (F88 0 s f) λ_=>True:=by unfold F88;refine ac5 (abl (amq s _ o) λ_ _ _=>ach _) (ac5 (abl (afo s _ h) λ_ _ _=>ach _) (ach _))
theorem afc (s:Bt) (h:s.length<=1048576):Ret (F85 0 s) λ_=>True:=⟨_,as9 s h,trivial⟩
theorem a2s (m:PV) {i:Nat} (hi:i<(m.fld 1).asList.length) (hl:(m.fld 1).asList.length<=1048576) (hu:(((m.fld 1).asList.getD i .bad).fld 5).asStr.length<=1048576):Ret (F89 0 m (i:Int)) λ_=>True:=by
 unfold F89;simp only [aab,Ai];refine ad5 (Ag hi) (ac5 (ach _) ?_);refine abl (P:=λ_=>True) (ac5 (afc _ hu) (ach _)) λb _ _=>ac5 (ach _) ?_;generalize hf:(m.fld 1).asList.getD i .bad=f;have key:∀ (k j:Nat) (e:Bool),j+k=(m.fld 1).asList.length->(e=true->1<=i)->∃ z,aa9 (S89_9step 0) ((i:Int),(),(),e,((j:Nat):Int),m,f)=some z/\((∃ b,z=.inl (b,m,f))\/∃ o,z=.inr ((i:Int),(),(),o,m,f)/\(o=true->1<=i)):=by
  intro k;induction k with
  | zero=>
   intro j e hj H;have:j=(m.fld 1).asList.length:=by omega
   subst this;refine ⟨_,aah ?_,Or.inr ⟨e,rfl,H⟩⟩;simp only [S89_9step,S89_9,decN,Ah]
  | succ k ih=>
   intro j e hj H;have J:j<(m.fld 1).asList.length:=by omega
   have M:S89_9step 0 ((i:Int),(),(),e,((j:Nat):Int),m,f)=some (.inr (.inl (false,m,f)))\/∃ o,(o=true->1<=i)/\S89_9step 0 ((i:Int),(),(),e,((j:Nat):Int),m,f)=some (.inl ((i:Int),(),(),o,((j+1:Nat):Int),m,f)):=by
    simp only [S89_9step,S89_9,decL j _ J,Af,aab,Ag J,Ai,aax j (by omega)];cases (((m.fld 1).asList.getD j .bad).fld 1).asStr==(f.fld 5).asStr with
    | true=>exact Or.inl rfl
    | false=>
     refine Or.inr ?_;by_cases I:(j:Int)<(i:Int)
     ·simp only [Ah,Ag I,imp,Af];cases (((m.fld 1).asList.getD j .bad).fld 5).asStr==(f.fld 5).asStr with
      | true=>exact ⟨true,λ_=>by omega,rfl⟩
      | false=>exact ⟨e,H,rfl⟩
     ·simp only [Ah,An I,imp,Ay,Af];exact ⟨e,H,by rfl⟩
   rcases M with M | ⟨o,Z,M⟩
   ·exact ⟨_,aah M,Or.inl ⟨false,rfl⟩⟩
   ·rw [aaq M];exact ih (j+1) o (by omega) Z
 obtain ⟨z,h1,h2⟩:=key (m.fld 1).asList.length 0 false (by omega) (λh=>by cases h);have O:aag 0 (S89_9step 0) ((i:Int),(),(),false,(0:Int),m,f)=some z:=h1;rw [O];rcases h2 with ⟨b,rfl⟩ | ⟨o,rfl,H⟩
 ·exact ⟨_,rfl,trivial⟩
 ·simp only [Aa,aqt];refine ad5 ?_ (ach _);cases o with
  | false=>exact a4m _
  | true=>have:=H rfl;rw [show IntKind.wrap .i64 ((i:Int)-1)=((i-1:Nat):Int) from by rw [show (i:Int)-1=((i-1:Nat):Int) by omega];exact abb (by omega),aab,Ag (show i-1<(m.fld 1).asList.length by omega)];rfl
theorem a5b (v:PV) (J:ac3 v):∃ w,F127 0 v=some w:=by
 obtain ⟨u,M,I⟩:=a3l J;have o:(v.fld 0).asInt=aav v:=rfl;have H:(v.fld 1).asInt=abp v:=rfl;unfold F127;simp only [o,H,M,anj u];cases (aav v==(6:Int)) with
 | false=>exact ⟨v,rfl⟩
 | true=>
  simp only [Af,Aa];cases h:aez u==(0:Int) with
  | false=>exact ⟨v,rfl⟩
  | true=>exact ⟨_,rfl⟩
theorem a2w (s f:PV) (h1:(s.fld 1).asList.length<=1048576) (hi:∀ x,x∈(s.fld 1).asList->(x.fld 2).asList.length<=1048576) (hv:ac3 (f.fld 7)):Ret (F90 0 s f) λb=>b=true->(f.fld 6).asBool=true->adh ((f.fld 4).fld 0).asInt (f.fld 7)=true:=by
 unfold F90;have o:∀ a b:PV,Ret (F125 0 a b) λ_=>True:=λa b=>by unfold F125;exact ach _
 cases hd:(f.fld 6).asBool with
 | false=>simp only [Ay,Af];refine abl (o _ _) λb _ _=>⟨b,rfl,λ_ h=>by cases h⟩
 | true=>
  simp only [Az,Ah];generalize (bif ((f.fld 2).asInt != (2:Int)) then true else (!((f.fld 5).asStr==([]:Bt))))=c9;rw [adv _ _ hv];obtain ⟨w,hw⟩:=a5b (f.fld 7) hv;rw [hw];have bad:∀ {R:Type} (r:R),True:=λ_=>trivial;cases c9 with
  | true=>simp only [Az,Ah,Aa,Af];exact ⟨false,rfl,λh=>by cases h⟩
  | false=>
   simp only [Ay,Af,Aa,Ah];cases aa:adh ((f.fld 4).fld 0).asInt (f.fld 7) with
   | false=>simp only [Ay,Ah,Az,Aa,Af];exact ⟨false,rfl,λh=>by cases h⟩
   | true=>
    simp only [Az,Af,Ay,Aa,Ah];have H:∀ {x:Option Bool},Ret x (λ_=>True)->Ret x λb=>b=true->True->True:=λ⟨r,h,_⟩=>⟨r,h,λ_ _=>trivial⟩;refine H ?_;refine abl (o _ _) λb _ _=>ac5 (ach _) ?_;refine abl (amq s _ h1) λk _ hk=>ac5 (ach _) ?_;rcases hk with rfl | ⟨j,M,rfl⟩
    ·exact ⟨false,rfl,trivial⟩
    ·have O:decide (((j:Nat):Int)<(0:Int))=false:=An (by omega);rw [O,Ah];have J:(s.fld 1).asList.getD j .bad∈(s.fld 1).asList:=by rw [aae M];exact List.getElem_mem M
     have ab:=hi _ J;obtain ⟨r,q1,q2⟩:=ade (step:=S90_13step 0) (λi=>((),(),((j:Nat):Int),((i:Nat):Int),s,f,f.fld 7)) (((s.fld 1).asList.getD j .bad).fld 2).asList.length (λ_=>.inl (true,s,f,f.fld 7)) (.inr (s,f,f.fld 7)) (λi I=>by
      simp only [S90_13step,S90_13,aab,Ag M,Ai,Af,decL i _ I,Ag I,aax i (by omega)];cases (IntKind.wrap .u64 (((((s.fld 1).asList.getD j .bad).fld 2).asList.getD i .bad).fld 1).asInt)==((f.fld 7).fld 1).asInt
      ·exact Or.inl rfl
      ·exact Or.inr rfl) (by
      simp only [S90_13step,S90_13,aab,Ag M,Ai,Af,decN,Ah]) _ 0 (Nat.zero_add _)
     have Z:aag 0 (S90_13step 0) ((),(),((j:Nat):Int),(0:Int),s,f,f.fld 7)=some r:=q1;rw [Z];rcases q2 with rfl | ⟨_,_,rfl⟩<;>exact ⟨_,rfl,trivial⟩
end Go.Ab
namespace Go.Ab
open Go
set_option maxRecDepth 100000
theorem adu {M Z O β:Type}{step:M->Option (M⊕Z)} (st:Nat->β->M) (xs:List O) (f:β->O->β) (H:β->Z) (Inv:Nat->β->Prop)
 (J:∀ i acc (h:i<xs.length),Inv i acc->step (st i acc)=some (.inl (st (i+1) (f acc xs[i])))/\Inv (i+1) (f acc xs[i])) (o:∀ acc,Inv xs.length acc->step (st xs.length acc)=some (.inr (H acc))):
 ∀ k i acc,i+k=xs.length->Inv i acc->aa9 step (st i acc)=some (H ((xs.drop i).foldl f acc))/\Inv xs.length ((xs.drop i).foldl f acc):=by
 intro k
 induction k with
 | zero=>
  intro i acc hi I
  have:i=xs.length:=by omega
  subst this
  rw [List.drop_length]
  exact ⟨aah (o acc I),I⟩
 | succ k ih=>
  intro i acc hi I
  have h:i<xs.length:=by omega
  obtain ⟨h1,h2⟩:=J i acc h I
  rw [aaq h1,List.drop_eq_getElem_cons h]
  exact ih (i+1) _ (by omega) h2
theorem akh {h β:Type} (g:h->β):∀ (l:List h) (acc:List β),l.foldl (λa x=>a++[g x]) acc=acc++l.map g:=by
 intro l;induction l with
 | nil=>intro acc;simp
 | cons x l o=>intro acc;rw [List.foldl_cons,o];simp
theorem ay9 {p:Nat->Bool}:∀ (k i:Nat),allF p i k=true->∀ j,i<=j->j<i+k->p j=true:=by
 intro k;induction k with
 | zero=>intro i _ j H I;omega
 | succ k M=>
  intro i h j H I;unfold allF at h;cases o:p i with
  | false=>rw [o] at h;cases h
  | true=>
   rw [o] at h;by_cases J:j=i
   ·subst J;exact o
   ·exact M (i+1) h j (by omega) (by omega)
theorem afv {l:List PV}{t num:Int}{d:Bt}{acc:List PV} (I:acc.length<60000000000) (J:l.length<=1048576) (M:∀ n,n∈l->agt n):∃ h,F91 0 () l t num d acc=some (d,h)/\Ad acc h 1 True:=by unfold F91;rw [auq l t J M];obtain ⟨h,o,H⟩:=ay7 (bad:=avu l t != (0:Int)) (num:=num) (e:=avu l t) (d:=d) I;refine ⟨h,?_,H.mono (Nat.le_refl _) λ_=>trivial⟩;rw [Aa,o];rfl
theorem asw {l:List PV}{a b:Int}{d:Bt}{acc:List PV} (hl:l.length<=1048576) (ha:acc.length+2*l.length<60000000000):∃ h,F92 0 () l a b d acc=some (d,h)/\Ad acc h (2*l.length) True:=by
 obtain ⟨h,I,M⟩:=acv (step:=S92_2step 0) (λi c=>((),l,a,b,((i:Nat):Int),d,c)) l.length (λc=>(d,c)) (λi c=>Ad acc c (2*i) True) (λi c hi Z=>by
  have hc:=Z.len;have o:Ret (S92_2step 0 ((),l,a,b,((i:Nat):Int),d,c)) λr=>∃ H,r=.inl ((),l,a,b,((i+1:Nat):Int),d,H)/\Ad acc H (2*(i+1)) True:=by
   simp only [S92_2step,S92_2,decL i _ hi,Af,aab,Ag hi,Ai,aax i (by omega)];refine ad5 (at6 _) (ad5 (at6 _) (ad5 (at6 _) ?_));refine abe (by omega) λc1 r1=>?_;have aa:=r1.len;refine ad5 (at6 _) (ad5 ?_ ?_)
   ·by_cases O:(i:Int)>0
    ·rw [Ag O,show IntKind.wrap .i64 ((i:Int)-1)=((i-1:Nat):Int) from by rw [show (i:Int)-1=((i-1:Nat):Int) by omega];exact abb (by omega),aab,Ag (show i-1<l.length by omega)];rfl
    ·rw [An O];exact a4m _
   ·refine abe (show c1.length<_ from by omega) λc2 r2=>?_;exact ⟨_,rfl,c2,rfl,((Z.trans r1).trans r2).mono (by omega) λ_=>trivial⟩
  obtain ⟨r,I,H,rfl,M⟩:=o;exact ⟨H,I,M⟩) (λc _=>by
  simp only [S92_2step,S92_2,decN,Ah]) l.length 0 acc (by omega) ((Ad.refl acc).mono (by omega) λ_=>trivial)
 refine ⟨h,?_,M⟩;have J:aag 0 (S92_2step 0) ((),l,a,b,(0:Int),d,acc)=some (d,h):=I;unfold F92;rw [J];rfl
theorem a1g {s m:PV}{fin:List PV} (H:fin.length=(s.fld 0).asList.length) (hm:(s.fld 0).asList.length<=1048576) (hl:(m.fld 1).asList.length<=1048576):Ret (F83_v1 0 s m fin) λ_=>True:=by
 obtain ⟨r,J,M⟩:=ade (step:=S83_v1_3step 0) (λi=>(fin,(),(),((i:Nat):Int),s,m)) (m.fld 1).asList.length (λ_=>.inl (true,s,m)) (.inr (s,m)) (λi I=>by
  simp only [S83_v1_3step,S83_v1_3,decL i _ I,Af,aab,Ag I,Ai,aax i (by omega)];generalize (m.fld 1).asList.getD i .bad=f;obtain ⟨k,Z,o⟩:=afo s ((f.fld 4).fld 1).asStr hm;rw [Z];cases (bif ((f.fld 2).asInt != (1:Int)) then true else (((f.fld 4).fld 0).asInt != (10:Int))) with
  | true=>exact Or.inl rfl
  | false=>
   simp only [Ah,Aa];rcases o with rfl | ⟨j,hj,rfl⟩
   ·exact Or.inl rfl
   ·have O:decide (((j:Nat):Int)>=(0:Int))=true:=Ag (by omega);rw [O,a6r,aab,Ag (show j<fin.length by omega),Af,Af];cases (!(fin.getD ((j:Nat):Int).toNat .bad).asBool) with
    | true=>exact Or.inr rfl
    | false=>exact Or.inl rfl) (by
  simp only [S83_v1_3step,S83_v1_3,decN,Ah]) (m.fld 1).asList.length 0 (by omega)
 have h:aag 0 (S83_v1_3step 0) (fin,(),(),(0:Int),s,m)=some r:=J;unfold F83_v1;rw [h];rcases M with rfl | ⟨j,_,rfl⟩<;>exact ⟨_,rfl,trivial⟩
theorem aya {s m:PV}{fin:List PV} (H:fin.length=(s.fld 0).asList.length) (hm:(s.fld 0).asList.length<=1048576) (hl:(m.fld 1).asList.length<=1048576):Ret (F83 0 s m () fin) λr=>r.2=fin:=by
 obtain ⟨r,J,M⟩:=ade (step:=S83_3step 0) (λi=>((),(),(),((i:Nat):Int),fin,s,m)) (m.fld 1).asList.length (λ_=>.inl (true,fin,s,m)) (.inr (fin,s,m)) (λi I=>by
  simp only [S83_3step,S83_3,decL i _ I,Af,aab,Ag I,Ai,aax i (by omega)];generalize (m.fld 1).asList.getD i .bad=f;obtain ⟨k,Z,o⟩:=afo s ((f.fld 4).fld 1).asStr hm;rw [Z];cases (bif ((f.fld 2).asInt != (1:Int)) then true else (((f.fld 4).fld 0).asInt != (10:Int))) with
  | true=>exact Or.inl rfl
  | false=>
   simp only [Ah,Aa];rcases o with rfl | ⟨j,hj,rfl⟩
   ·exact Or.inl rfl
   ·have O:decide (((j:Nat):Int)>=(0:Int))=true:=Ag (by omega);rw [O,a6r,aab,Ag (show j<fin.length by omega),Af,Af];cases (!(fin.getD ((j:Nat):Int).toNat .bad).asBool) with
    | true=>exact Or.inr rfl
    | false=>exact Or.inl rfl) (by
  simp only [S83_3step,S83_3,decN,Ah]) (m.fld 1).asList.length 0 (by omega)
 have h:aag 0 (S83_3step 0) ((),(),(),(0:Int),fin,s,m)=some r:=J;unfold F83;rw [h];rcases M with rfl | ⟨j,_,rfl⟩<;>exact ⟨_,rfl,rfl⟩
theorem axm {s:PV} (hm:(s.fld 0).asList.length<=1048576) (hl:∀ m,m∈(s.fld 0).asList->(m.fld 1).asList.length<=1048576):Ret (F47 0 s) λl=>l.length=(s.fld 0).asList.length:=by
 have I:∀ (o:Bool) (h:Nat) (xs:List PV),xs.length=(s.fld 0).asList.length->∃ (H:Bool) (xs':List PV),aag 0 (S47_9step 0) ((),(),o,((h:Nat):Int),(0:Int),s,xs)=some ((),(),H,((h:Nat):Int),s,xs')/\xs'.length=(s.fld 0).asList.length:=by
  intro o h xs O;obtain ⟨⟨H,xs'⟩,h1,h2⟩:=acv (step:=S47_9step 0) (λi (c:Bool×List PV)=>((),(),c.1,((h:Nat):Int),((i:Nat):Int),s,c.2)) (s.fld 0).asList.length (λc=>((),(),c.1,((h:Nat):Int),s,c.2)) (λ_ c=>c.2.length=(s.fld 0).asList.length) (λi c hi M=>by
   obtain ⟨mo,ys⟩:=c;have M:ys.length=(s.fld 0).asList.length:=M;have Z:(s.fld 0).asList.getD i .bad∈(s.fld 0).asList:=by rw [aae hi];exact List.getElem_mem hi
   obtain ⟨⟨b,zs⟩,hn,hz⟩:=aya (m:=(s.fld 0).asList.getD i .bad) M hm (hl _ Z);have hz:zs=ys:=hz;subst hz;simp only [S47_9step,S47_9,decL i _ hi,Af,aab,Ag hi,Ag (show i<zs.length by omega),Ai,aax i (by omega),at6,hn,Aa];cases (zs.getD i .bad).asBool with
   | true=>exact ⟨(mo,zs),rfl,M⟩
   | false=>
    cases b with
    | true=>exact ⟨(mo,zs),rfl,M⟩
    | false=>exact ⟨(true,zs.set i (PV.bool true)),rfl,by simpa using M⟩) (λc _=>by
   simp only [S47_9step,S47_9,decN,Ah]) (s.fld 0).asList.length 0 (o,xs) (by omega) O
  exact ⟨H,xs',h1,h2⟩
 have J:∀ (k h:Nat) (o:Bool) (xs:List PV),h+k=(s.fld 0).asList.length->xs.length=(s.fld 0).asList.length->∃ xs',aa9 (S47_5step 0) ((),(),o,((h:Nat):Int),s,xs)=some ((),s,xs')/\xs'.length=(s.fld 0).asList.length:=by
  intro k;induction k with
  | zero=>
   intro h o xs hr O;have:h=(s.fld 0).asList.length:=by omega
   subst this;refine ⟨xs,aah ?_,O⟩;simp only [S47_5step,S47_5,decN,Ah]
  | succ k ih=>
   intro h o xs hr O;cases o with
   | false=>refine ⟨xs,aah ?_,O⟩;simp only [S47_5step,S47_5,decL h _ (show h<(s.fld 0).asList.length by omega),Af,Ah]
   | true=>
    obtain ⟨m',aa,h1,h2⟩:=I false h xs O;obtain ⟨xs',q1,q2⟩:=ih (h+1) m' aa (by omega) h2;refine ⟨xs',?_,q2⟩;rw [aaq (x1:=((),(),m',((h+1:Nat):Int),s,aa))]
    ·exact q1
    ·simp only [S47_5step,S47_5,decL h _ (show h<(s.fld 0).asList.length by omega),Af,h1,Aa,aax h (by omega)]
 obtain ⟨xs',q1,q2⟩:=J (s.fld 0).asList.length 0 true (List.replicate (s.fld 0).asList.length (PV.bool false)) (by omega) (by simp);unfold F47;have hd:decide ((0:Int)<=(((s.fld 0).asList.length:Nat):Int)/\(((s.fld 0).asList.length:Nat):Int)<=(((s.fld 0).asList.length:Nat):Int)/\(((s.fld 0).asList.length:Nat):Int)<=aaf)=true:=Ag (by unfold aaf;omega);have ab:aag 0 (S47_5step 0) ((),(),true,(0:Int),s,List.replicate (s.fld 0).asList.length (PV.bool false))=some ((),s,xs'):=q1;refine ad5 hd ?_;rw [Ai,ab];exact ⟨xs',rfl,q2⟩
def nmL (l:List PV):List PV:=l.map λm=>PV.str (m.fld 0).asStr
theorem a8w {w:Int}{s:PV} (h:(s.fld 0).asList.length<=1048576):aag 0 (S43_4step 0) (w,(),[],(0:Int),s)=some (w,(),(bif w==1 then nmL (s.fld 0).asList else []),s):=by
 cases H:w==(1:Int) with
 | false=>refine aah (x:=(w,(),[],(0:Int),s)) ?_;simp only [S43_4step,S43_4,H,Ah]
 | true=>
  obtain ⟨I,_⟩:=adu (step:=S43_4step 0) (λi c=>(w,(),c,((i:Nat):Int),s)) (s.fld 0).asList (λa x=>a++[PV.str (x.fld 0).asStr]) (λc=>(w,(),c,s)) (λi c=>c.length=i) (λi c o J=>by
   refine ⟨?_,by simp [J]⟩;simp only [S43_4step,S43_4,H,decL i _ o,Af,aab,Ag o,Ai,aae o,Ag (show c.length+[PV.str (((s.fld 0).asList[i]).fld 0).asStr].length<=aaf by simp;unfold aaf;omega),aax i (by omega)]) (λc _=>by
   simp only [S43_4step,S43_4,H,decN,Af,Ah]) (s.fld 0).asList.length 0 [] (by omega) rfl
  rw [Ap,akh,Ba] at I;exact I
theorem aui {w:Int}{s:PV}{acc:List PV} (M:acc.length<=1048576) (h:(s.fld 1).asList.length<=1048576):aag 0 (S43_8step 0) (w,(),acc,(0:Int),s)=some (w,(),(bif w==2 then acc++nmL (s.fld 1).asList else acc),s):=by
 cases H:w==(2:Int) with
 | false=>refine aah (x:=(w,(),acc,(0:Int),s)) ?_;simp only [S43_8step,S43_8,H,Ah]
 | true=>
  obtain ⟨I,_⟩:=adu (step:=S43_8step 0) (λi c=>(w,(),c,((i:Nat):Int),s)) (s.fld 1).asList (λa x=>a++[PV.str (x.fld 0).asStr]) (λc=>(w,(),c,s)) (λi c=>c.length=acc.length+i) (λi c o J=>by
   refine ⟨?_,by simp [J];omega⟩;simp only [S43_8step,S43_8,H,decL i _ o,Af,aab,Ag o,Ai,aae o,Ag (show c.length+[PV.str (((s.fld 1).asList[i]).fld 0).asStr].length<=aaf by simp;unfold aaf;omega),aax i (by omega)]) (λc _=>by
   simp only [S43_8step,S43_8,H,decN,Af,Ah]) (s.fld 1).asList.length 0 acc (by omega) (by simp)
  rw [Ap,akh] at I;exact I
theorem auj {w:Int}{s:PV}{acc:List PV} (M:acc.length<=1048576) (h:(s.fld 2).asList.length<=1048576):aag 0 (S43_12step 0) (w,(),acc,(0:Int),s)=some ((bif w==3 then acc++nmL (s.fld 2).asList else acc),s):=by
 cases H:w==(3:Int) with
 | false=>refine aah (x:=(w,(),acc,(0:Int),s)) ?_;simp only [S43_12step,S43_12,H,Ah]
 | true=>
  obtain ⟨I,_⟩:=adu (step:=S43_12step 0) (λi c=>(w,(),c,((i:Nat):Int),s)) (s.fld 2).asList (λa x=>a++[PV.str (x.fld 0).asStr]) (λc=>(c,s)) (λi c=>c.length=acc.length+i) (λi c o J=>by
   refine ⟨?_,by simp [J];omega⟩;simp only [S43_12step,S43_12,H,decL i _ o,Af,aab,Ag o,Ai,aae o,Ag (show c.length+[PV.str (((s.fld 2).asList[i]).fld 0).asStr].length<=aaf by simp;unfold aaf;omega),aax i (by omega)]) (λc _=>by
   simp only [S43_12step,S43_12,H,decN,Af,Ah]) (s.fld 2).asList.length 0 acc (by omega) (by simp)
  rw [Ap,akh] at I;exact I
structure SLen (s:PV):Prop where
 m:(s.fld 0).asList.length<=1048576
 e:(s.fld 1).asList.length<=1048576
 v:(s.fld 2).asList.length<=1048576
theorem alz {s:PV} (h:SLen s) {w:Int} (M:w=1\/w=2\/w=3):F43 0 s w=some (nmL (bif w==1 then (s.fld 0).asList else bif w==2 then (s.fld 1).asList else (s.fld 2).asList)):=by
 have J:∀ l:List PV,(nmL l).length=l.length:=λl=>by simp [nmL]
 have O:=h.m;have Z:=h.e;have h3:=h.v;unfold F43;rw [a8w h.m];simp only [Aa];rcases M with rfl | rfl | rfl
 ·have o:((1:Int)==1)=true:=rfl;have H:((1:Int)==2)=false:=rfl;have I:((1:Int)==3)=false:=rfl;simp only [o,Af];rw [aui (by rw [J];omega) h.e];simp only [H,Ah,Aa];rw [auj (by rw [J];omega) h.v];simp only [I,Ah,Aa]
 ·have o:((2:Int)==1)=false:=rfl;have H:((2:Int)==2)=true:=rfl;have I:((2:Int)==3)=false:=rfl;simp only [o,Ah];rw [aui (by simp) h.e];simp only [H,Af,Aa,Ba];rw [auj (by rw [J];omega) h.v];simp only [I,Ah,Aa]
 ·have o:((3:Int)==1)=false:=rfl;have H:((3:Int)==2)=false:=rfl;have I:((3:Int)==3)=true:=rfl;simp only [o,Ah];rw [aui (by simp) h.e];simp only [H,Ah,Aa];rw [auj (by simp) h.v];simp only [I,Af,Aa,Ba]
def ascB (l:List PV) (i:Nat):Bool:=!(Op.bytesLess (l.getD (i+1) .bad).asStr (l.getD i .bad).asStr||(l.getD (i+1) .bad).asStr==(l.getD i .bad).asStr)
theorem a7l {l:List PV} (h:l.length<=1048576):Ret (F45 0 l) λb=>b=true->∀ i,i+1<l.length->ascB l i=true:=by
 have M:=ajm (step:=S45_3step 0) (λi=>(l,((i+1:Nat):Int))) (l.length-1) (ascB l) (.inl false) (.inr ()) (λi J=>by
  have w:IntKind.wrap .i64 (((i+1:Nat):Int)-1)=((i:Nat):Int):=by rw [show ((i+1:Nat):Int)-1=(i:Int) by omega];exact abb (by omega)
  simp only [S45_3step,S45_3,decL (i+1) _ (show i+1<l.length by omega),Af,aab,Ag (show i+1<l.length by omega),w,Ag (show i<l.length by omega),Ai,aax (i+1) (by omega),ascB];cases (Op.bytesLess (l.getD (i+1) .bad).asStr (l.getD i .bad).asStr||(l.getD (i+1) .bad).asStr==(l.getD i .bad).asStr)<;>rfl) (by
  have I:decide (((l.length-1+1:Nat):Int)<(l.length:Int))=false:=An (by omega);simp only [S45_3step,S45_3,I,Ah]) (l.length-1) 0 (by omega)
 have H:aag 0 (S45_3step 0) (l,(1:Int))=some (bif allF (ascB l) 0 (l.length-1) then .inr () else .inl false):=M;unfold F45;rw [H];cases o:allF (ascB l) 0 (l.length-1) with
 | false=>exact ⟨false,rfl,λh=>by cases h⟩
 | true=>exact ⟨true,rfl,λ_ i J=>ay9 _ _ o i (by omega) (by omega)⟩
theorem aqc {a b:List PV} (O:a.length<=1048576) (J:b.length<=1048576):Ret (F46 0 a b) λ_=>True:=by
 obtain ⟨r,H,I⟩:=ade (step:=S46_3step 0) (λi=>(a,b,((i:Nat):Int))) a.length (λ_=>.inl true) (.inr ()) (λi o=>by
  obtain ⟨c,M,_⟩:=az9 b (a.getD i .bad).asStr J;simp only [S46_3step,S46_3,decL i _ o,Af,aab,Ag o,Ai,M,Aa,aax i (by omega)];cases c with
  | true=>exact Or.inr rfl
  | false=>exact Or.inl rfl) (by
  simp only [S46_3step,S46_3,decN,Ah]) a.length 0 (by omega)
 have h:aag 0 (S46_3step 0) (a,b,(0:Int))=some r:=H;unfold F46;rw [h];rcases I with rfl | ⟨j,_,rfl⟩<;>exact ⟨_,rfl,trivial⟩
end Go.Ab
