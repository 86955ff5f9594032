/- The specification's examination of schemas ends; what it says (first part: what it asks). -/
import Derived.Test.YtodichgnoiaanaaGreatDoorPArgsT
set_option linter.unusedVariables false
set_option linter.unusedSimpArgs false
set_option linter.unnecessarySimpa false
namespace Go.Ab
open Go
set_option maxRecDepth 100000
abbrev Ret {R:Type} (x:Option R) (G:R->Prop):Prop:=∃ r,x=some r/\G r
theorem abh {A R:Type}{x:Option A}{K:A->Option R}{G:R->Prop}{y:A} (h:x=some y) (k:Ret (K y) G):Ret (x.bind K) G:=by rw [h];exact k
theorem abn {A R:Type}{x:Option A}{K:A->Option R}{G:R->Prop}{P:A->Prop} (h:Ret x P) (k:∀ y,x=some y->P y->Ret (K y) G):Ret (x.bind K) G:=by grind
theorem afb {R:Type}{c:Bool}{x:Option R}{G:R->Prop} (h:c=true) (k:Ret x G):Ret (bif c then x else none) G:=by rw [h];exact k
theorem acy {H J z:Type}{step:H->Option (H⊕J)} (st:Nat->z->H) (n:Nat) (o:z->J) (Inv:Nat->z->Prop) (M:∀ i acc,i<n->Inv i acc->∃ h,step (st i acc)=some (.inl (st (i+1) h))/\Inv (i+1) h) (I:∀ acc,Inv n acc->step (st n acc)=some (.inr (o acc))):
 ∀ k i acc,i+k=n->Inv i acc->∃ h,aa3 step (st i acc)=some (o h)/\Inv n h:=by
 intro k
 induction k with
 | zero=>grind [aai]
 | succ k O=>grind [aao]
theorem adl {J M:Type}{step:J->Option (J⊕M)} (st:Nat->J) (n:Nat) (z:Nat->M) (o:M) (h:∀ i,i<n->step (st i)=some (.inl (st (i+1)))\/step (st i)=some (.inr (z i))) (H:step (st n)=some (.inr o)):
 ∀ k i,i+k=n->∃ r,aa3 step (st i)=some r/\(r=o\/∃ j,j<n/\r=z j):=by
 intro k
 induction k with
 | zero=>
  intro i O
  have:i=n:=by omega
  subst this
  exact ⟨o,aai H,Or.inl rfl⟩
 | succ k Z=>
  intro i O
  rcases h i (by omega) with I | I
  ·rw [aao I];exact Z (i+1) (by omega)
  ·exact ⟨z i,aai I,Or.inr ⟨i,by omega,rfl⟩⟩
theorem a3k (c:Bool):imp false c=true:=by cases c<;>rfl
theorem ba9 (c:Bool):imp true c=c:=by cases c<;>rfl
theorem arp (b:Bool):imp b true=true:=rfl
theorem decL (i n:Nat) (h:i<n):decide ((i:Int)<(n:Int))=true:=Ag (by omega)
theorem decN (n:Nat):decide (((n:Nat):Int)<(n:Int))=false:=An (by omega)
def Ad (a b:List PV) (n:Nat) (P:Prop):Prop:=∃ q,b=a++q/\q.length<=n/\(q=[]->P)
theorem Ad.refl (a:List PV):Ad a a 0 True:=⟨[],by simp,by simp,λ_=>trivial⟩
theorem Ad.trans {a b c:List PV}{n m:Nat}{P Q:Prop} (h:Ad a b n P) (k:Ad b c m Q):Ad a c (n+m) (P/\Q):=by obtain ⟨q,rfl,o,z⟩:=h;obtain ⟨p,rfl,H,I⟩:=k;refine ⟨q++p,by simp,by grind,λe=>?_⟩;grind [List.append_eq_nil_iff]
theorem Ad.mono {a b:List PV}{n m:Nat}{P Q:Prop} (h:Ad a b n P) (I:n<=m) (z:P->Q):Ad a b m Q:=by obtain ⟨q,rfl,H,o⟩:=h;exact ⟨q,rfl,by omega,λe=>z (o e)⟩
theorem Ad.len {a b:List PV}{n:Nat}{P:Prop} (h:Ad a b n P):b.length<=a.length+n:=by obtain ⟨q,rfl,o,_⟩:=h;grind
theorem Ad.nil {a b:List PV}{n:Nat}{P:Prop} (h:Ad a b n P) (e:b=[]):a=[]/\P:=by obtain ⟨q,rfl,_,o⟩:=h;grind [List.append_eq_nil_iff]
theorem a1q {bad:Bool}{num e:Int}{d:Bo}{acc:List PV} (h:acc.length<60000000000):∃ o,F21 0 () bad num e d acc=some (d,o)/\Ad acc o 1 (bad=false):=by
 unfold F21;cases bad with
 | false=>exact ⟨acc,rfl,[],by simp,by simp,λ_=>rfl⟩
 | true=>rw [Ag (show acc.length+[PV.agg [PV.str d,PV.int num,PV.int e]].length<=aae by grind [aae])];exact ⟨_,rfl,_,rfl,by simp,λh=>by cases h⟩
theorem abc {R:Type}{bad:Bool}{num e:Int}{d:Bo}{acc:List PV}{K:Bo×List PV->Option R}{G:R->Prop} (h:acc.length<60000000000) (k:∀ o,Ad acc o 1 (bad=false)->Ret (K (d,o)) G):Ret ((F21 0 () bad num e d acc).bind K) G:=by obtain ⟨o,z,H⟩:=a1q (bad:=bad) (num:=num) (e:=e) (d:=d) h;grind
theorem a3h (l:List PV) (s:Bo) (h:l.length<=1048576):Ret (F56 0 l s) λ_=>True:=by
 obtain ⟨r,H,I⟩:=adl (step:=S56_3step 0) (λi=>(l,s,((i:Nat):Int))) l.length (λ_=>.inl true) (.inr ()) (λi z=>by
  simp only [S56_3step,S56_3,decL i _ z,Af,aaa,Ag z,Ai,aat i (by omega)];grind) (by
  simp only [S56_3step,S56_3,decN,Ah]) l.length 0 (by omega)
 have o:aaf 0 (S56_3step 0) (l,s,(0:Int))=some r:=H;unfold F56;rw [o];rcases I with rfl | ⟨j,_,rfl⟩<;>exact ⟨_,rfl,trivial⟩
theorem amk (l:List PV) (n:Int) (h:l.length<=1048576):Ret (F60 0 l n) λ_=>True:=by
 obtain ⟨r,H,I⟩:=adl (step:=S60_3step 0) (λi=>(l,n,((i:Nat):Int))) l.length (λ_=>.inl true) (.inr ()) (λi z=>by
  simp only [S60_3step,S60_3,decL i _ z,Af,aaa,Ag z,Ai,aat i (by omega)];cases decide (((l.getD i .bad).fld 0).asInt<=n)<;>cases decide (n<=((l.getD i .bad).fld 1).asInt)
  ·exact Or.inl rfl
  ·exact Or.inl rfl
  ·exact Or.inl rfl
  ·exact Or.inr rfl) (by
  simp only [S60_3step,S60_3,decN,Ah]) l.length 0 (by omega)
 have o:aaf 0 (S60_3step 0) (l,n,(0:Int))=some r:=H;unfold F60;rw [o];rcases I with rfl | ⟨j,_,rfl⟩<;>exact ⟨_,rfl,trivial⟩
theorem af6 (s:PV) (n:Bo) (h:(s.fld 0).asList.length<=1048576):Ret (F68 0 s n) λr=>r=-1\/∃ j:Nat,j<(s.fld 0).asList.length/\r=(j:Int):=by
 obtain ⟨r,H,I⟩:=adl (step:=S68_3step 0) (λi=>(n,(),((i:Nat):Int),s)) (s.fld 0).asList.length (λi=>.inl (((i:Nat):Int),s)) (.inr s) (λi z=>by
  simp only [S68_3step,S68_3,decL i _ z,Af,aaa,Ag z,Ai,aat i (by omega)];grind) (by
  simp only [S68_3step,S68_3,decN,Ah]) (s.fld 0).asList.length 0 (by omega)
 have o:aaf 0 (S68_3step 0) (n,(),(0:Int),s)=some r:=H;unfold F68;rw [o];rcases I with rfl | ⟨j,J,rfl⟩
 ·exact ⟨_,rfl,Or.inl rfl⟩
 ·exact ⟨_,rfl,Or.inr ⟨j,J,rfl⟩⟩
theorem an5 (s:PV) (n:Bo) (h:(s.fld 1).asList.length<=1048576):Ret (F114 0 s n) λr=>r=-1\/∃ j:Nat,j<(s.fld 1).asList.length/\r=(j:Int):=by
 obtain ⟨r,H,I⟩:=adl (step:=S114_3step 0) (λi=>(n,(),((i:Nat):Int),s)) (s.fld 1).asList.length (λi=>.inl (((i:Nat):Int),s)) (.inr s) (λi z=>by
  simp only [S114_3step,S114_3,decL i _ z,Af,aaa,Ag z,Ai,aat i (by omega)];grind) (by
  simp only [S114_3step,S114_3,decN,Ah]) (s.fld 1).asList.length 0 (by omega)
 have o:aaf 0 (S114_3step 0) (n,(),(0:Int),s)=some r:=H;unfold F114;rw [o];rcases I with rfl | ⟨j,J,rfl⟩
 ·exact ⟨_,rfl,Or.inl rfl⟩
 ·exact ⟨_,rfl,Or.inr ⟨j,J,rfl⟩⟩
theorem ac8 {R:Type}{c:Bool}{x y:Option R}{G:R->Prop} (h:Ret x G) (o:Ret y G):Ret (bif c then x else y) G:=by grind
theorem acg {R:Type} (r:R):Ret (some r) λ_=>True:=⟨r,rfl,trivial⟩
theorem a7q (f:PV):Ret (F61 0 f) λ_=>True:=by unfold F61;repeat' (first | exact acg _ | refine ac8 ?_ ?_)
theorem bc3 (s f:PV) (h:(s.fld 0).asList.length<=1048576) (o:(s.fld 1).asList.length<=1048576):Ret (F62 0 s f) λ_=>True:=by unfold F62;refine ac8 (abn (an5 s _ o) λ_ _ _=>acg _) (ac8 (abn (af6 s _ h) λ_ _ _=>acg _) (acg _))
theorem afv (s:Bo) (h:s.length<=1048576):Ret (F59 0 s) λ_=>True:=⟨_,avm s h,trivial⟩
theorem a6t (m:PV) {i:Nat} (hi:i<(m.fld 1).asList.length) (hl:(m.fld 1).asList.length<=1048576) (hu:(((m.fld 1).asList.getD i .bad).fld 5).asStr.length<=1048576):Ret (F63 0 m (i:Int)) λ_=>True:=by
 unfold F63;simp only [aaa,Ai];refine afb (Ag hi) (ac8 (acg _) ?_);refine abn (P:=λ_=>True) (ac8 (afv _ hu) (acg _)) λb _ _=>ac8 (acg _) ?_;generalize hf:(m.fld 1).asList.getD i .bad=f;have key:∀ (k j:Nat) (e:Bool),j+k=(m.fld 1).asList.length->(e=true->1<=i)->∃ z,aa3 (S63_9step 0) ((i:Int),(),(),e,((j:Nat):Int),m,f)=some z/\((∃ b,z=.inl (b,m,f))\/∃ o,z=.inr ((i:Int),(),(),o,m,f)/\(o=true->1<=i)):=by
  intro k;induction k with
  | zero=>
   intro j e hj M;have:j=(m.fld 1).asList.length:=by omega
   subst this;refine ⟨_,aai ?_,Or.inr ⟨e,rfl,M⟩⟩;simp only [S63_9step,S63_9,decN,Ah]
  | succ k ih=>
   intro j e hj M;have I:j<(m.fld 1).asList.length:=by omega
   have J:S63_9step 0 ((i:Int),(),(),e,((j:Nat):Int),m,f)=some (.inr (.inl (false,m,f)))\/∃ o,(o=true->1<=i)/\S63_9step 0 ((i:Int),(),(),e,((j:Nat):Int),m,f)=some (.inl ((i:Int),(),(),o,((j+1:Nat):Int),m,f)):=by
    simp only [S63_9step,S63_9,decL j _ I,Af,aaa,Ag I,Ai,aat j (by omega)];cases (((m.fld 1).asList.getD j .bad).fld 1).asStr==(f.fld 5).asStr with
    | true=>exact Or.inl rfl
    | false=>
     refine Or.inr ?_;by_cases H:(j:Int)<(i:Int)
     ·simp only [Ah,Ag H,imp,Af];cases (((m.fld 1).asList.getD j .bad).fld 5).asStr==(f.fld 5).asStr with
      | true=>grind
      | false=>grind
     ·simp only [Ah,An H,imp,Av,Af];grind
   rcases J with J | ⟨o,Z,J⟩
   ·exact ⟨_,aai J,Or.inl ⟨false,rfl⟩⟩
   ·rw [aao J];exact ih (j+1) o (by omega) Z
 obtain ⟨z,h1,h2⟩:=key (m.fld 1).asList.length 0 false (by omega) (λh=>by cases h);have O:aaf 0 (S63_9step 0) ((i:Int),(),(),false,(0:Int),m,f)=some z:=h1;rw [O];rcases h2 with ⟨b,rfl⟩ | ⟨o,rfl,M⟩
 ·exact ⟨_,rfl,trivial⟩
 ·simp only [Aa,ana];refine afb ?_ (acg _);cases o with
  | false=>exact a3k _
  | true=>have:=M rfl;rw [show IntKind.wrap .i64 ((i:Int)-1)=((i-1:Nat):Int) from by grind [abe],aaa,Ag (show i-1<(m.fld 1).asList.length by omega)];rfl
theorem a9e (v:PV) (I:ac7 v):∃ w,F117 0 v=some w:=by
 obtain ⟨u,J,H⟩:=a7m I;have o:(v.fld 0).asInt=aa5 v:=rfl;have z:(v.fld 1).asInt=ab4 v:=rfl;unfold F117;simp only [o,z,J,aow u];cases (aa5 v==(6:Int)) with
 | false=>exact ⟨v,rfl⟩
 | true=>
  simp only [Af,Aa];cases h:ai5 u==(0:Int) with
  | false=>grind
  | true=>grind
theorem a6y (s f:PV) (h1:(s.fld 1).asList.length<=1048576) (hi:∀ x,x∈(s.fld 1).asList->(x.fld 2).asList.length<=1048576) (hv:ac7 (f.fld 7)):Ret (F64 0 s f) λb=>b=true->(f.fld 6).asBool=true->ad8 ((f.fld 4).fld 0).asInt (f.fld 7)=true:=by
 unfold F64;have o:∀ a b:PV,Ret (F115 0 a b) λ_=>True:=λa b=>by unfold F115;exact acg _
 cases hd:(f.fld 6).asBool with
 | false=>simp_all
 | true=>
  simp only [Ay,Ah];generalize (bif ((f.fld 2).asInt != (2:Int)) then true else (!((f.fld 5).asStr==([]:Bo))))=c9;rw [ad0 _ _ hv];obtain ⟨w,hw⟩:=a9e (f.fld 7) hv;rw [hw];have bad:∀ {R:Type} (r:R),True:=λ_=>trivial;cases c9 with
  | true=>simp_all
  | false=>
   simp only [Av,Af,Aa,Ah];cases O:ad8 ((f.fld 4).fld 0).asInt (f.fld 7) with
   | false=>simp_all
   | true=>
    simp only [Ay,Af,Av,Aa,Ah];have z:∀ {x:Option Bool},Ret x (λ_=>True)->Ret x λb=>b=true->True->True:=λ⟨r,h,_⟩=>⟨r,h,λ_ _=>trivial⟩;refine z ?_;refine abn (o _ _) λb _ _=>ac8 (acg _) ?_;refine abn (an5 s _ h1) λk _ hk=>ac8 (acg _) ?_;rcases hk with rfl | ⟨j,Z,rfl⟩
    ·grind
    ·have J:decide (((j:Nat):Int)<(0:Int))=false:=An (by omega);rw [J,Ah];have I:(s.fld 1).asList.getD j .bad∈(s.fld 1).asList:=by grind
     have aa:=hi _ I;obtain ⟨r,q1,q2⟩:=adl (step:=S64_13step 0) (λi=>((),(),((j:Nat):Int),((i:Nat):Int),s,f,f.fld 7)) (((s.fld 1).asList.getD j .bad).fld 2).asList.length (λ_=>.inl (true,s,f,f.fld 7)) (.inr (s,f,f.fld 7)) (λi H=>by
      simp only [S64_13step,S64_13,aaa,Ag Z,Ai,Af,decL i _ H,Ag H,aat i (by omega)];grind) (by
      simp only [S64_13step,S64_13,aaa,Ag Z,Ai,Af,decN,Ah]) _ 0 (Nat.zero_add _)
     have M:aaf 0 (S64_13step 0) ((),(),((j:Nat):Int),(0:Int),s,f,f.fld 7)=some r:=q1;rw [M];rcases q2 with rfl | ⟨_,_,rfl⟩<;>exact ⟨_,rfl,trivial⟩
end Go.Ab
namespace Go.Ab
open Go
set_option maxRecDepth 100000
theorem aa9 {H M J z:Type}{step:H->Option (H⊕M)} (st:Nat->z->H) (xs:List J) (f:z->J->z) (o:z->M) (Inv:Nat->z->Prop)
 (O:∀ i acc (h:i<xs.length),Inv i acc->step (st i acc)=some (.inl (st (i+1) (f acc xs[i])))/\Inv (i+1) (f acc xs[i])) (I:∀ acc,Inv xs.length acc->step (st xs.length acc)=some (.inr (o acc))):
 ∀ k i acc,i+k=xs.length->Inv i acc->aa3 step (st i acc)=some (o ((xs.drop i).foldl f acc))/\Inv xs.length ((xs.drop i).foldl f acc):=by
 intro k
 induction k with
 | zero=>grind [List.drop_length,aai]
 | succ k Z=>grind [aao,List.drop_eq_getElem_cons]
theorem ale {h o:Type} (g:h->o):∀ (l:List h) (acc:List o),l.foldl (λa x=>a++[g x]) acc=acc++l.map g:=by
 intro l;induction l with
 | nil=>intro acc;simp
 | cons x l z=>grind
theorem a1s {p:Nat->Bool}:∀ (k i:Nat),allF p i k=true->∀ j,i<=j->j<i+k->p j=true:=by
 intro k;induction k with
 | zero=>grind
 | succ k h=>grind [allF]
theorem agh {l:List PV}{t num:Int}{d:Bo}{acc:List PV} (z:acc.length<60000000000) (H:l.length<=1048576) (I:∀ n,n∈l->ahe n):∃ h,F65 0 () l t num d acc=some (d,h)/\Ad acc h 1 True:=by unfold F65;rw [aw8 l t H I];obtain ⟨h,J,o⟩:=a1q (bad:=ayb l t != (0:Int)) (num:=num) (e:=ayb l t) (d:=d) z;refine ⟨h,?_,o.mono (Nat.le_refl _) λ_=>trivial⟩;grind
theorem au8 {l:List PV}{a b:Int}{d:Bo}{acc:List PV} (hl:l.length<=1048576) (ha:acc.length+2*l.length<60000000000):∃ h,F66 0 () l a b d acc=some (d,h)/\Ad acc h (2*l.length) True:=by
 obtain ⟨h,h1,h2⟩:=acy (step:=S66_2step 0) (λi c=>((),l,a,b,((i:Nat):Int),d,c)) l.length (λc=>(d,c)) (λi c=>Ad acc c (2*i) True) (λi c I H=>by
  have hc:=H.len;have z:Ret (S66_2step 0 ((),l,a,b,((i:Nat):Int),d,c)) λr=>∃ o,r=.inl ((),l,a,b,((i+1:Nat):Int),d,o)/\Ad acc o (2*(i+1)) True:=by
   simp only [S66_2step,S66_2,decL i _ I,Af,aaa,Ag I,Ai,aat i (by omega)];refine afb (arp _) (afb (arp _) (afb (arp _) ?_));refine abc (by omega) λM J=>?_;have aa:=J.len;refine afb (arp _) (afb ?_ ?_)
   ·by_cases Z:(i:Int)>0
    ·rw [Ag Z,show IntKind.wrap .i64 ((i:Int)-1)=((i-1:Nat):Int) from by grind [abe],aaa,Ag (show i-1<l.length by omega)];rfl
    grind [decide_eq_false,a3k]
   ·refine abc (show M.length<_ from by omega) λO r2=>?_;exact ⟨_,rfl,O,rfl,((H.trans J).trans r2).mono (by omega) λ_=>trivial⟩
  grind) (λc _=>by
  simp only [S66_2step,S66_2,decN,Ah]) l.length 0 acc (by omega) ((Ad.refl acc).mono (by omega) λ_=>trivial)
 grind [aaf,S66_2step,F66]
theorem a5b {s m:PV}{fin:List PV} (z:fin.length=(s.fld 0).asList.length) (Z:(s.fld 0).asList.length<=1048576) (hl:(m.fld 1).asList.length<=1048576):Ret (F57_v1 0 s m fin) λ_=>True:=by
 obtain ⟨r,I,J⟩:=adl (step:=S57_v1_3step 0) (λi=>(fin,(),(),((i:Nat):Int),s,m)) (m.fld 1).asList.length (λ_=>.inl (true,s,m)) (.inr (s,m)) (λi H=>by
  simp only [S57_v1_3step,S57_v1_3,decL i _ H,Af,aaa,Ag H,Ai,aat i (by omega)];generalize (m.fld 1).asList.getD i .bad=f;obtain ⟨k,O,o⟩:=af6 s ((f.fld 4).fld 1).asStr Z;rw [O];cases (bif ((f.fld 2).asInt != (1:Int)) then true else (((f.fld 4).fld 0).asInt != (10:Int))) with
  | true=>exact Or.inl rfl
  | false=>
   simp only [Ah,Aa];rcases o with rfl | ⟨j,hj,rfl⟩
   ·exact Or.inl rfl
   ·have M:decide (((j:Nat):Int)>=(0:Int))=true:=Ag (by omega);rw [M,ba9,aaa,Ag (show j<fin.length by omega),Af,Af];grind) (by
  simp only [S57_v1_3step,S57_v1_3,decN,Ah]) (m.fld 1).asList.length 0 (by omega)
 have h:aaf 0 (S57_v1_3step 0) (fin,(),(),(0:Int),s,m)=some r:=I;unfold F57_v1;rw [h];rcases J with rfl | ⟨j,_,rfl⟩<;>exact ⟨_,rfl,trivial⟩
theorem a0r {s m:PV}{fin:List PV} (z:fin.length=(s.fld 0).asList.length) (Z:(s.fld 0).asList.length<=1048576) (hl:(m.fld 1).asList.length<=1048576):Ret (F57 0 s m () fin) λr=>r.2=fin:=by
 obtain ⟨r,I,J⟩:=adl (step:=S57_3step 0) (λi=>((),(),(),((i:Nat):Int),fin,s,m)) (m.fld 1).asList.length (λ_=>.inl (true,fin,s,m)) (.inr (fin,s,m)) (λi H=>by
  simp only [S57_3step,S57_3,decL i _ H,Af,aaa,Ag H,Ai,aat i (by omega)];generalize (m.fld 1).asList.getD i .bad=f;obtain ⟨k,O,o⟩:=af6 s ((f.fld 4).fld 1).asStr Z;rw [O];cases (bif ((f.fld 2).asInt != (1:Int)) then true else (((f.fld 4).fld 0).asInt != (10:Int))) with
  | true=>exact Or.inl rfl
  | false=>
   simp only [Ah,Aa];rcases o with rfl | ⟨j,hj,rfl⟩
   ·exact Or.inl rfl
   ·have M:decide (((j:Nat):Int)>=(0:Int))=true:=Ag (by omega);rw [M,ba9,aaa,Ag (show j<fin.length by omega),Af,Af];grind) (by
  simp only [S57_3step,S57_3,decN,Ah]) (m.fld 1).asList.length 0 (by omega)
 have h:aaf 0 (S57_3step 0) ((),(),(),(0:Int),fin,s,m)=some r:=I;unfold F57;rw [h];rcases J with rfl | ⟨j,_,rfl⟩<;>exact ⟨_,rfl,rfl⟩
theorem az5 {s:PV} (hm:(s.fld 0).asList.length<=1048576) (hl:∀ m,m∈(s.fld 0).asList->(m.fld 1).asList.length<=1048576):Ret (F24 0 s) λl=>l.length=(s.fld 0).asList.length:=by
 have H:∀ (o:Bool) (h:Nat) (xs:List PV),xs.length=(s.fld 0).asList.length->∃ (z:Bool) (xs':List PV),aaf 0 (S24_9step 0) ((),(),o,((h:Nat):Int),(0:Int),s,xs)=some ((),(),z,((h:Nat):Int),s,xs')/\xs'.length=(s.fld 0).asList.length:=by
  intro o h xs J;obtain ⟨⟨z,xs'⟩,h1,h2⟩:=acy (step:=S24_9step 0) (λi (c:Bool×List PV)=>((),(),c.1,((h:Nat):Int),((i:Nat):Int),s,c.2)) (s.fld 0).asList.length (λc=>((),(),c.1,((h:Nat):Int),s,c.2)) (λ_ c=>c.2.length=(s.fld 0).asList.length) (λi c hi M=>by
   obtain ⟨mo,ys⟩:=c;have M:ys.length=(s.fld 0).asList.length:=M;have O:(s.fld 0).asList.getD i .bad∈(s.fld 0).asList:=by grind
   obtain ⟨⟨b,zs⟩,hn,hz⟩:=a0r (m:=(s.fld 0).asList.getD i .bad) M hm (hl _ O);have hz:zs=ys:=hz;subst hz;simp only [S24_9step,S24_9,decL i _ hi,Af,aaa,Ag hi,Ag (show i<zs.length by omega),Ai,aat i (by omega),arp,hn,Aa];cases (zs.getD i .bad).asBool with
   | true=>exact ⟨(mo,zs),rfl,M⟩
   | false=>
    cases b with
    | true=>exact ⟨(mo,zs),rfl,M⟩
    | false=>simp_all) (λc _=>by
   simp only [S24_9step,S24_9,decN,Ah]) (s.fld 0).asList.length 0 (o,xs) (by omega) J
  exact ⟨z,xs',h1,h2⟩
 have I:∀ (k h:Nat) (o:Bool) (xs:List PV),h+k=(s.fld 0).asList.length->xs.length=(s.fld 0).asList.length->∃ xs',aa3 (S24_5step 0) ((),(),o,((h:Nat):Int),s,xs)=some ((),s,xs')/\xs'.length=(s.fld 0).asList.length:=by
  intro k;induction k with
  | zero=>
   intro h o xs hr J;have:h=(s.fld 0).asList.length:=by omega
   subst this;refine ⟨xs,aai ?_,J⟩;simp only [S24_5step,S24_5,decN,Ah]
  | succ k ih=>
   intro h o xs hr J;cases o with
   | false=>refine ⟨xs,aai ?_,J⟩;simp only [S24_5step,S24_5,decL h _ (show h<(s.fld 0).asList.length by omega),Af,Ah]
   | true=>
    obtain ⟨m',Z,h1,h2⟩:=H false h xs J;obtain ⟨xs',q1,q2⟩:=ih (h+1) m' Z (by omega) h2;refine ⟨xs',?_,q2⟩;rw [aao (x1:=((),(),m',((h+1:Nat):Int),s,Z))]
    ·exact q1
    ·simp only [S24_5step,S24_5,decL h _ (show h<(s.fld 0).asList.length by omega),Af,h1,Aa,aat h (by omega)]
 obtain ⟨xs',q1,q2⟩:=I (s.fld 0).asList.length 0 true (List.replicate (s.fld 0).asList.length (PV.bool false)) (by omega) (by simp);unfold F24;have hd:decide ((0:Int)<=(((s.fld 0).asList.length:Nat):Int)/\(((s.fld 0).asList.length:Nat):Int)<=(((s.fld 0).asList.length:Nat):Int)/\(((s.fld 0).asList.length:Nat):Int)<=aae)=true:=Ag (by unfold aae;omega);have aa:aaf 0 (S24_5step 0) ((),(),true,(0:Int),s,List.replicate (s.fld 0).asList.length (PV.bool false))=some ((),s,xs'):=q1;grind
def nmL (l:List PV):List PV:=l.map λm=>PV.str (m.fld 0).asStr
theorem bcm {w:Int}{s:PV} (h:(s.fld 0).asList.length<=1048576):aaf 0 (S20_4step 0) (w,(),[],(0:Int),s)=some (w,(),(bif w==1 then nmL (s.fld 0).asList else []),s):=by
 cases z:w==(1:Int) with
 | false=>refine aai (x:=(w,(),[],(0:Int),s)) ?_;simp only [S20_4step,S20_4,z,Ah]
 | true=>
  obtain ⟨H,_⟩:=aa9 (step:=S20_4step 0) (λi c=>(w,(),c,((i:Nat):Int),s)) (s.fld 0).asList (λa x=>a++[PV.str (x.fld 0).asStr]) (λc=>(w,(),c,s)) (λi c=>c.length=i) (λi c o I=>by
   refine ⟨?_,by simp [I]⟩;simp only [S20_4step,S20_4,z,decL i _ o,Af,aaa,Ag o,Ai,aag o,Ag (show c.length+[PV.str (((s.fld 0).asList[i]).fld 0).asStr].length<=aae by grind [aae]),aat i (by omega)]) (λc _=>by
   simp only [S20_4step,S20_4,z,decN,Af,Ah]) (s.fld 0).asList.length 0 [] (by omega) rfl
  rw [Ap,ale,A6] at H;exact H
theorem aw0 {w:Int}{s:PV}{acc:List PV} (J:acc.length<=1048576) (h:(s.fld 1).asList.length<=1048576):aaf 0 (S20_8step 0) (w,(),acc,(0:Int),s)=some (w,(),(bif w==2 then acc++nmL (s.fld 1).asList else acc),s):=by
 cases z:w==(2:Int) with
 | false=>refine aai (x:=(w,(),acc,(0:Int),s)) ?_;simp only [S20_8step,S20_8,z,Ah]
 | true=>
  obtain ⟨H,_⟩:=aa9 (step:=S20_8step 0) (λi c=>(w,(),c,((i:Nat):Int),s)) (s.fld 1).asList (λa x=>a++[PV.str (x.fld 0).asStr]) (λc=>(w,(),c,s)) (λi c=>c.length=acc.length+i) (λi c o I=>by
   refine ⟨?_,by simp [I];omega⟩;simp only [S20_8step,S20_8,z,decL i _ o,Af,aaa,Ag o,Ai,aag o,Ag (show c.length+[PV.str (((s.fld 1).asList[i]).fld 0).asStr].length<=aae by grind [aae]),aat i (by omega)]) (λc _=>by
   simp only [S20_8step,S20_8,z,decN,Af,Ah]) (s.fld 1).asList.length 0 acc (by omega) (by simp)
  rw [Ap,ale] at H;exact H
theorem aw1 {w:Int}{s:PV}{acc:List PV} (J:acc.length<=1048576) (h:(s.fld 2).asList.length<=1048576):aaf 0 (S20_12step 0) (w,(),acc,(0:Int),s)=some ((bif w==3 then acc++nmL (s.fld 2).asList else acc),s):=by
 cases z:w==(3:Int) with
 | false=>refine aai (x:=(w,(),acc,(0:Int),s)) ?_;simp only [S20_12step,S20_12,z,Ah]
 | true=>
  obtain ⟨H,_⟩:=aa9 (step:=S20_12step 0) (λi c=>(w,(),c,((i:Nat):Int),s)) (s.fld 2).asList (λa x=>a++[PV.str (x.fld 0).asStr]) (λc=>(c,s)) (λi c=>c.length=acc.length+i) (λi c o I=>by
   refine ⟨?_,by simp [I];omega⟩;simp only [S20_12step,S20_12,z,decL i _ o,Af,aaa,Ag o,Ai,aag o,Ag (show c.length+[PV.str (((s.fld 2).asList[i]).fld 0).asStr].length<=aae by grind [aae]),aat i (by omega)]) (λc _=>by
   simp only [S20_12step,S20_12,z,decN,Af,Ah]) (s.fld 2).asList.length 0 acc (by omega) (by simp)
  rw [Ap,ale] at H;exact H
structure SLen (s:PV):Prop where
 m:(s.fld 0).asList.length<=1048576
 e:(s.fld 1).asList.length<=1048576
 v:(s.fld 2).asList.length<=1048576
theorem am5 {s:PV} (h:SLen s) {w:Int} (J:w=1\/w=2\/w=3):F20 0 s w=some (nmL (bif w==1 then (s.fld 0).asList else bif w==2 then (s.fld 1).asList else (s.fld 2).asList)):=by
 have H:∀ l:List PV,(nmL l).length=l.length:=λl=>by simp [nmL]
 have M:=h.m;have O:=h.e;have Z:=h.v;unfold F20;rw [bcm h.m];simp only [Aa];rcases J with rfl | rfl | rfl
 ·have o:((1:Int)==1)=true:=rfl;have z:((1:Int)==2)=false:=rfl;have I:((1:Int)==3)=false:=rfl;simp only [o,Af];rw [aw0 (by rw [H];omega) h.e];simp only [z,Ah,Aa];rw [aw1 (by rw [H];omega) h.v];grind
 ·have o:((2:Int)==1)=false:=rfl;have z:((2:Int)==2)=true:=rfl;have I:((2:Int)==3)=false:=rfl;simp only [o,Ah];rw [aw0 (by simp) h.e];simp only [z,Af,Aa,A6];rw [aw1 (by rw [H];omega) h.v];grind
 ·have o:((3:Int)==1)=false:=rfl;have z:((3:Int)==2)=false:=rfl;have I:((3:Int)==3)=true:=rfl;simp only [o,Ah];rw [aw0 (by simp) h.e];simp only [z,Ah,Aa];rw [aw1 (by simp) h.v];grind
def ascB (l:List PV) (i:Nat):Bool:=!(Op.bytesLess (l.getD (i+1) .bad).asStr (l.getD i .bad).asStr||(l.getD (i+1) .bad).asStr==(l.getD i .bad).asStr)
theorem bbr {l:List PV} (h:l.length<=1048576):Ret (F22 0 l) λb=>b=true->∀ i,i+1<l.length->ascB l i=true:=by
 have J:=aoc (step:=S22_3step 0) (λi=>(l,((i+1:Nat):Int))) (l.length-1) (ascB l) (.inl false) (.inr ()) (λi I=>by
  have w:IntKind.wrap .i64 (((i+1:Nat):Int)-1)=((i:Nat):Int):=by grind [abe]
  simp only [S22_3step,S22_3,decL (i+1) _ (show i+1<l.length by omega),Af,aaa,Ag (show i+1<l.length by omega),w,Ag (show i<l.length by omega),Ai,aat (i+1) (by omega),ascB];grind) (by
  have H:decide (((l.length-1+1:Nat):Int)<(l.length:Int))=false:=An (by omega);simp only [S22_3step,S22_3,H,Ah]) (l.length-1) 0 (by omega)
 have z:aaf 0 (S22_3step 0) (l,(1:Int))=some (bif allF (ascB l) 0 (l.length-1) then .inr () else .inl false):=J;unfold F22;rw [z];cases o:allF (ascB l) 0 (l.length-1) with
 | false=>exact ⟨false,rfl,λh=>by cases h⟩
 | true=>exact ⟨true,rfl,λ_ i I=>a1s _ _ o i (by omega) (by omega)⟩
theorem ar5 {a b:List PV} (M:a.length<=1048576) (I:b.length<=1048576):Ret (F23 0 a b) λ_=>True:=by
 obtain ⟨r,z,H⟩:=adl (step:=S23_3step 0) (λi=>(a,b,((i:Nat):Int))) a.length (λ_=>.inl true) (.inr ()) (λi o=>by
  obtain ⟨c,J,_⟩:=a3h b (a.getD i .bad).asStr I;simp only [S23_3step,S23_3,decL i _ o,Af,aaa,Ag o,Ai,J,Aa,aat i (by omega)];grind) (by
  simp only [S23_3step,S23_3,decN,Ah]) a.length 0 (by omega)
 have h:aaf 0 (S23_3step 0) (a,b,(0:Int))=some r:=z;unfold F23;rw [h];rcases H with rfl | ⟨j,_,rfl⟩<;>exact ⟨_,rfl,trivial⟩
end Go.Ab
