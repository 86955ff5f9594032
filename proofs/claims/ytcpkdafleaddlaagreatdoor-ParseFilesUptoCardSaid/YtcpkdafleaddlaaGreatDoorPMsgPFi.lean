/- The program's parser and its specification: names, unions, reserved numbers and names, rpcs. -/
import Derived.Test.YtcpkdafleaddlaaGreatDoorPUnqFi
set_option linter.unusedVariables false
set_option linter.unusedSimpArgs false
set_option linter.unnecessarySimpa false
namespace Go.Ab
open Go
set_option maxRecDepth 100000
inductive PG {α R S Z:Type} (t:List PV) (ok:R->S) (er:PV×Z->S) (I:α->Nat->Prop) (mk:α->Int->R) (x:Rs α) (y:Option S):Prop
 | ok (v:α) (j:Nat):j<=t.length->I v j->x=.ok v (ts t j)->y=some (ok (mk v ((j:Nat):Int)))->PG t ok er I mk x y
 | er (j:Nat) (e:Int) (z:Z):j<=t.length->e≠0->x=.er (ts t j) e->y=some (er (PV.agg [PV.int ((j:Nat):Int),PV.int e],z))->PG t ok er I mk x y
theorem Par.pg {α R:Type}{t:List PV}{q:QF}{mk:α->Q0->R}{x:Rs α}{y:Option (R⊕(PV×Q0))} (h:Par t q mk x y):PG t Sum.inl Sum.inr (λ_ _=>True) (λv j=>mk v (t,j,q)) x y:=by
 rcases h with ⟨v,j,d,m,o⟩ | ⟨j,e,d,z,m,o⟩
 ·exact .ok v j d trivial m o
 ·exact .er j e _ d z m o
theorem PG.seq {α W R Y H Z Z':Type}{t:List PV}{I:α->Nat->Prop}{X:W->Nat->Prop}{mk:α->Int->R}{o:Y->H}{d:PV×Z'->H}{m:W->Int->Y}{x:Rs α}{y:Option (R⊕(PV×Z))}{f:α->List Tk->Rs W}{g:R->Option H}{E:PV×Z->Option H}
 (h:PG t Sum.inl Sum.inr I mk x y) (hc:∀ v j,j<=t.length->I v j->x=.ok v (ts t j)->PG t o d X m (f v (ts t j)) (g (mk v ((j:Nat):Int)))) (hE:∀ p z,∃ V,E (p,z)=some (d (p,V))):
 PG t o d X m (x.bind f) (y.bind λz=>sumE g E z):=by
 rcases h with ⟨v,j,O,hi,M,U⟩ | ⟨j,e,z,O,he,M,U⟩
 ·have:=hc v j O hi M;rw [M,U];exact this
 ·obtain ⟨V,hz⟩:=hE (PV.agg [PV.int ((j:Nat):Int),PV.int e]) z;rw [M,U];exact .er j e V O he rfl hz
theorem PG.swap {α W R Y H Z Z':Type}{t:List PV}{I:α->Nat->Prop}{X:W->Nat->Prop}{mk:α->Int->R}{o:Y->H}{d:PV×Z'->H}{m:W->Int->Y}{x:Rs α}{y:Option ((PV×Z)⊕R)}{f:α->List Tk->Rs W}{g:R->Option H}{E:PV×Z->Option H}
 (h:PG t Sum.inr Sum.inl I mk x y) (hc:∀ v j,j<=t.length->I v j->x=.ok v (ts t j)->PG t o d X m (f v (ts t j)) (g (mk v ((j:Nat):Int)))) (hE:∀ p z,∃ V,E (p,z)=some (d (p,V))):
 PG t o d X m (x.bind f) (y.bind λz=>sumE E g z):=by
 rcases h with ⟨v,j,O,hi,M,U⟩ | ⟨j,e,z,O,he,M,U⟩
 ·have:=hc v j O hi M;rw [M,U];exact this
 ·obtain ⟨V,hz⟩:=hE (PV.agg [PV.int ((j:Nat):Int),PV.int e]) z;rw [M,U];exact .er j e V O he rfl hz
section
variable {α R S Z:Type}{t:List PV}{ok:R->S}{er:PV×Z->S}{I:α->Nat->Prop}{mk:α->Int->R}
theorem PG.may (M:TOk t) (s:Bq) (k:Int) (H:kOf s=k) (i:Nat) (z:i<=t.length) (q:QF) {K:Bool×Q0->Option S}{x1 d:Rs α}
 (m:isS k s (ts t i)=true->i+1<=t.length->PG t ok er I mk x1 (K (true,(t,((i+1:Nat):Int),q)))) (o:isS k s (ts t i)=false->PG t ok er I mk d (K (false,(t,(i:Int),q)))):
 PG t ok er I mk (bif isS k s (ts t i) then x1 else d) ((F91 0 () s (t,(i:Int),q)).bind K):=by
 grind [alk,isS,ts,abl]
theorem PG.sign (M:TOk t) (s:Bq) (k:Int) (H:kOf s=k) (i:Nat) (z:i<=t.length) (q:QF) {K:Bool×Q0->Option S}{x1 d:Rs α}
 (m:isS k s (ts t i)=true->PG t ok er I mk x1 (K (true,(t,(i:Int),q)))) (o:isS k s (ts t i)=false->PG t ok er I mk d (K (false,(t,(i:Int),q)))):
 PG t ok er I mk (bif isS k s (ts t i) then x1 else d) ((F96 0 () s (t,(i:Int),q)).bind K):=by
 grind [aqs,isS,ts]
end
theorem abg {α:Type}{x:Rs α}{t:List PV}{i j:Nat}{v:α} (o:i<=t.length) (z:j<=t.length) (d:Sh x (ts t i)) (m:x=.ok v (ts t j)):i<j:=by have:=d v _ m;grind [adi]
theorem amk {α:Type}{x:Rs α}{t:List PV}{i j:Nat}{v:α} (o:i<=t.length) (z:j<=t.length) (d:Sh0 x (ts t i)) (m:x=.ok v (ts t j)):i<=j:=by have:=d v _ m;grind [adi]
theorem accL {n:Nat} (h:n<=68719476736):decide (n<=aaf)=true:=Ah h
theorem ars {s:Bq} (h:ae2 s=true):s.length<=120:=by unfold ae2 at h;grind
theorem aqi {o s:Bq} (h:ahi o s=true):(akj o s).length<=120:=by
 unfold ahi at h;simp only [Ai,Bd] at h;rcases h.2 with d | d
 ·have e:o=[]:=by simpa using d
  subst e;have:=h.1;unfold defP at this;simp only [Ai] at this;exact ars this.1
 grind [ars]
theorem a4v (o s:Bq) (d:o.length<=1048576) (m:s.length<=1048576):F288 0 o s=some (akj o s):=by
 unfold F288 akj;cases h:(o==[]) with
 | true=>rfl
 | false=>have z:decide (o.length+([46]:Bq).length<=aau)=true:=afb (by simp;omega);have H:decide ((o++([46]:Bq)).length+s.length<=aau)=true:=afb (by simp;omega);grind
theorem a5n (o s:Bq) (O:o.length<=120) (d:s.length<=1048576):F287 0 s () o=some (ahi o s,o):=by
 have M:(akj o s).length<=1048820:=by grind [akj]
 unfold F287 ahi;rw [aui s d,Aa,ah3,a4v o s (by omega) d];cases defP s with
 | false=>grind
 | true=>
  cases H:(o==[]) with
  | true=>rfl
  | false=>
   cases m:acj s with
   | false=>rfl
   | true=>
    have z:s.length<=120:=by unfold acj at m;grind
    have:=akh (akj o s) (by grind [akj]);grind
theorem aok (o:Bq) (X:o.length<=120) (t:List PV) (H:TOk t) (i:Nat) (W:i<=t.length) (O U:Bq) (V M ms es:List PV):
 PG t Sum.inl Sum.inr (λv _=>v.length<=120) (λv j=>(v,(t,j,O,U,(),(),(),V,M,ms,es))) (afk o (ts t i)) (F204 0 () o (t,(i:Int),O,U,(),(),(),V,M,ms,es)):=by
 have hl:=H.len
 unfold F204 afk ae9 F92_v2
 simp only [ael t i (O,U,(),(),(),V,M,ms,es),Aa]
 by_cases m:aaw (ts t i)=1
 ·have z:(aaw (ts t i) != 1)=false:=by rw [m];rfl
  have d:(aaw (ts t i)==1)=true:=by rw [m];rfl
  have h:i<t.length:=abt rfl d;have hx:abr (ts t i)=((t.getD i .bad).fld 1).asStr:=by rw [ad7 h];rfl
  simp only [z,d,Ae,Ad,aab,h,decide_true,Ag,a5n o _ X (aq0 H h),Aa,hx,aa9 (show i<=9223372036854775000 by omega)];cases Y:ahi o ((t.getD i .bad).fld 1).asStr with
  | true=>simp only [Am,Ae,Ad,ab0,a4v o _ (by omega) (aq0 H h),Aa,Rs.bind_ok];exact .ok _ (i+1) h (aqi Y) (by rw [aao]) rfl
  | false=>exact .er i 8 _ W (by decide) rfl rfl
 ·have z:(aaw (ts t i) != 1)=true:=bneI m;have d:(aaw (ts t i)==1)=false:=beqI m;simp only [z,d,Ad,Ae];exact .er i 2 _ W (by decide) rfl rfl
theorem a0v (t:List PV) (V:TOk t) (h5:t.length<=100000) (i0:Nat) (q:QF):∀ (m i:Nat) (d:List PV),t.length-i<=m->i<=t.length->d.length+i0<=i->
 PG t Sum.inl Sum.inr (λv j=>v.length+i0<=j) (λv j=>(v,(t,j,q))) (ake (ts t i) d) (aaz (S207_3step 0) ((),d,(t,(i:Int),q))):=by
 intro m
 induction m with
 | zero=>
  intro i d hm U ha
  rw [amy,show abd (ts t i)=.er (ts t i) 2 by rw [afp (by omega)];rfl]
  have M:S207_3step 0 ((),d,(t,(i:Int),q))=some (.inr (.inr (PV.agg [PV.int (i:Int),PV.int 2],(t,(i:Int),q)))):=by
   unfold S207_3step S207_3;rcases agr t V i U q with ⟨v,j,o,H,M⟩ | ⟨j,e,o,X,H,M⟩
   ·have:=abg U o (adn _) H;omega
   ·rw [show abd (ts t i)=.er (ts t i) 2 by rw [afp (by omega)];rfl] at H;grind [Rs.er.injEq,bby,aa7]
  exact .er i 2 (t,(i:Int),q) U (by decide) rfl (aac M)
 | succ m ih=>
  intro i d hm U ha
  rw [amy]
  have Y:∀ x:PV,decide (d.length+[x].length<=aaf)=true:=λx=>accL (by simp;omega)
  rcases agr t V i U q with ⟨v,j,o,H,M⟩ | ⟨j,e,o,X,H,M⟩
  ·have ab:=abg U o (adn _) H;rw [H,Rs.bind_ok];cases W:isS 4 [59] (ts t j) with
   | true=>refine .ok (d++[PV.str v]) (j+1) (abl W) (by simp;omega) (by rw [Ad,aao]) (aac ?_);simp only [S207_3step,S207_3,M,Aa,ab0,Y,Ad,alk [59] 4 (by decide) t V j o,W]
   | false=>
    rw [Ae];rcases ad9 [44] 4 (by decide) t V j o q with ⟨_,k,hk,z,O⟩ | ⟨k,e,hk,X,z,O⟩
    ·have aa:=abg o hk (aba _ _ _) z;rw [z,Rs.bind_ok];have st:S207_3step 0 ((),d,(t,(i:Int),q))=some (.inl ((),d++[PV.str v],(t,(k:Int),q))):=by
      simp only [S207_3step,S207_3,M,Aa,ab0,Y,Ad,Ae,alk [59] 4 (by decide) t V j o,W,O]
     grind [aan]
    ·rw [z,Rs.bind_er];refine .er k e (t,(k:Int),q) hk X rfl (aac ?_);simp only [S207_3step,S207_3,M,Aa,ab0,aa7,Y,Ad,Ae,alk [59] 4 (by decide) t V j o,W,O]
  ·rw [H,Rs.bind_er];refine .er j e (t,(j:Int),q) o X rfl (aac ?_);grind [S207_3step,S207_3,aa7]
theorem a8z (t:List PV) (O:TOk t) (o:t.length<=100000) (i:Nat) (M:i<=t.length) (q:QF):
 PG t Sum.inl Sum.inr (λv j=>v.length+i<=j) (λv j=>(v,(t,j,q))) (ake (ts t i) []) (F207 0 () (t,(i:Int),q)):=by
 unfold F207
 rw [aal]
 rcases a0v t O o i q t.length i [] (by omega) M (by simp) with ⟨v,j,d,U,m,V⟩ | ⟨j,e,z,d,H,m,V⟩
 ·exact .ok v j d U m (by grind [ab0])
 ·exact .er j e z d H m (by grind [aa7])
end Go.Ab
namespace Go.Ab
open Go
set_option maxRecDepth 100000
def afr (l:List PV):Prop:=l.length<=100000/\∀ x,x∈l->atm x
def ahk (v:PV):Prop:=a7x v/\(v.fld 8).asList.length<=100000
def amt (v:PV):Prop:=afr (v.fld 4).asList
def avv (v:PV):Prop:=afr (v.fld 2).asList
def aeg (v:PV):Prop:=(v.fld 2).asList.length<=100000/\(∀ x,x∈(v.fld 2).asList->avv x)/\(v.fld 3).asList.length<=100000/\afr (v.fld 4).asList
def atn (v:PV):Prop:=(v.fld 1).asList.length<=100000/\(∀ x,x∈(v.fld 1).asList->amt x)/\afr (v.fld 2).asList
def ahb (v:PV):Prop:=(v.fld 1).asList.length<=100000/\(∀ x,x∈(v.fld 1).asList->ahk x)/\(v.fld 2).asList.length<=100000/\(v.fld 3).asList.length<=100000/\afr (v.fld 4).asList
theorem ae6 {t:List PV}{i j:Nat}{v:List PV} (d:t.length<=100000) (h:acw parV aae (ts t i)=.ok v (ts t j)):afr v:=by have:=aqk h;rw [adi] at this;exact ⟨by omega,aql h⟩
theorem aez {P:PV->Prop}{l:List PV}{x:PV} (h:∀ y,y∈l->P y) (d:P x):∀ y,y∈l++[x]->P y:=λy m=>by grind
theorem a71 {P:PV->Prop}{l m:List PV} (h:∀ y,y∈l->P y) (d:∀ y,y∈m->P y):∀ y,y∈l++m->P y:=λy o=>by grind
theorem aeh {P:PV->Prop}:∀ y,y∈([]:List PV)->P y:=λy d=>by cases d
theorem Rs.bind_assoc {α β d:Type} (x:Rs α) (f:α->List Tk->Rs β) (g:β->List Tk->Rs d):(x.bind f).bind g=x.bind λv r=>(f v r).bind g:=by cases x<;>rfl
inductive PL {α β R S Z σ:Type} (t:List PV) (st:β->Int->σ) (spec:List Tk->β->Rs α) (J:β->Nat->Prop) (ok:R->S) (er:PV×Z->S) (I:α->Nat->Prop) (mk:α->Int->R) (i:Nat) (x:Rs α) (y:Option (σ⊕S)):Prop
 | go (b:β) (j:Nat):i<j->j<=t.length->J b j->x=spec (ts t j) b->y=some (.inl (st b ((j:Nat):Int)))->PL t st spec J ok er I mk i x y
 | done (v:α) (j:Nat):j<=t.length->I v j->x=.ok v (ts t j)->y=some (.inr (ok (mk v ((j:Nat):Int))))->PL t st spec J ok er I mk i x y
 | er (j:Nat) (e:Int) (z:Z):j<=t.length->e≠0->x=.er (ts t j) e->y=some (.inr (er (PV.agg [PV.int ((j:Nat):Int),PV.int e],z)))->PL t st spec J ok er I mk i x y
section
variable {α β R S Z σ:Type}{t:List PV}{st:β->Int->σ}{spec:List Tk->β->Rs α}{J:β->Nat->Prop}{ok:R->S}{er:PV×Z->S}{I:α->Nat->Prop}{mk:α->Int->R}{i:Nat}
theorem PL.loop {step:σ->Option (σ⊕S)} (h:∀ i b,i<=t.length->J b i->PL t st spec J ok er I mk i (spec (ts t i) b) (step (st b (i:Int)))):∀ (m i:Nat) (b:β),t.length-i<=m->i<=t.length->J b i->PG t ok er I mk (spec (ts t i) b) (aaz step (st b (i:Int))):=by
 intro m;induction m with
 | zero=>
  intro i b W O U;rcases h i b O U with ⟨V,j,d,o,_⟩ | ⟨v,j,d,o,H,M⟩ | ⟨j,e,z,d,o,H,M⟩
  ·omega
  ·exact .ok v j d o H (aac M)
  ·exact .er j e z d o H (aac M)
 | succ m Y=>
  intro i b W O U;rcases h i b O U with ⟨V,j,d,o,H,M,X⟩ | ⟨v,j,d,o,H,M⟩ | ⟨j,e,z,d,o,H,M⟩
  ·grind [aan]
  ·exact .ok v j d o H (aac M)
  ·exact .er j e z d o H (aac M)
theorem PL.seq {d H X:Type}{W:d->Nat->Prop}{m:d->Int->H}{U:Rs d}{Y:Option (H⊕(PV×X))}{f:d->List Tk->Rs α}{g:H->Option (σ⊕S)}{E:PV×X->Option (σ⊕S)}
 (h:PG t Sum.inl Sum.inr W m U Y) (hc:∀ v j,j<=t.length->W v j->U=.ok v (ts t j)->PL t st spec J ok er I mk i (f v (ts t j)) (g (m v ((j:Nat):Int)))) (hE:∀ p z,∃ V,E (p,z)=some (.inr (er (p,V)))):
 PL t st spec J ok er I mk i (U.bind f) (Y.bind λz=>sumE g E z):=by
 rcases h with ⟨v,j,M,hi,o,O⟩ | ⟨j,e,z,M,he,o,O⟩
 ·have:=hc v j M hi o;rw [o,O];exact this
 ·obtain ⟨V,hz⟩:=hE (PV.agg [PV.int ((j:Nat):Int),PV.int e]) z;rw [o,O];exact .er j e V M he rfl hz
theorem PL.may (M:TOk t) (s:Bq) (k:Int) (H:kOf s=k) (j:Nat) (z:j<=t.length) (q:QF) {K:Bool×Q0->Option (σ⊕S)}{x1 d:Rs α}
 (m:isS k s (ts t j)=true->j+1<=t.length->PL t st spec J ok er I mk i x1 (K (true,(t,((j+1:Nat):Int),q)))) (o:isS k s (ts t j)=false->PL t st spec J ok er I mk i d (K (false,(t,(j:Int),q)))):
 PL t st spec J ok er I mk i (bif isS k s (ts t j) then x1 else d) ((F91 0 () s (t,(j:Int),q)).bind K):=by
 grind [alk,isS,ts,abl]
theorem PL.sign (M:TOk t) (s:Bq) (k:Int) (H:kOf s=k) (j:Nat) (z:j<=t.length) (q:QF) {K:Bool×Q0->Option (σ⊕S)}{x1 d:Rs α}
 (m:isS k s (ts t j)=true->PL t st spec J ok er I mk i x1 (K (true,(t,(j:Int),q)))) (o:isS k s (ts t j)=false->PL t st spec J ok er I mk i d (K (false,(t,(j:Int),q)))):
 PL t st spec J ok er I mk i (bif isS k s (ts t j) then x1 else d) ((F96 0 () s (t,(j:Int),q)).bind K):=by
 grind [aqs,isS,ts]
end
section
variable {t:List PV}
theorem a68 (d:Int) (l:List Tk) (m:List PV):adh d l m=(numS d l).bind λa r=>bif isS 4 [45] r then ((numS d r.tail).bind λb o=>bif isS 4 [59] o then .ok (m++[PV.agg [PV.int a,PV.int b]]) o.tail else (eatS 4 [44] o).bind λ_ z=>adh d z (m++[PV.agg [PV.int a,PV.int b]]))
 else (bif isS 4 [59] r then .ok (m++[PV.agg [PV.int a,PV.int a]]) r.tail else (eatS 4 [44] r).bind λ_ z=>adh d z (m++[PV.agg [PV.int a,PV.int a]])):=by
 grind [as3,avk,Rs.bind_assoc,Rs.bind_ok,isS]
theorem avl (H:TOk t) (hn:∀ x,x∈t->-9223372036854775808<=(x.fld 2).asInt/\(x.fld 2).asInt<=9223372036854775807) (h5:t.length<=100000) (d:Int) (hm:0<=d/\d<=2147483647) (O:Nat) (aa:O<=t.length) (q:QF):
 PG t Sum.inl Sum.inr (λv j=>v.length+O<=j) (λv j=>(v,(t,j,q))) (adh d (ts t O) []) (F208 0 () d (t,(O:Int),q)):=by
 have lp:=PL.loop (t:=t) (st:=λ(b:List PV) j=>((),d,b,((t,j,q):Q0))) (spec:=λl b=>adh d l b) (J:=λb j=>b.length+O<=j) (ok:=Sum.inl) (er:=Sum.inr) (I:=λv j=>v.length+O<=j) (mk:=λv j=>(v,((t,j,q):Q0))) (step:=S208_3step 0) (λi b hi X=>by
  have ea:∀ x:PV,decide (b.length+[x].length<=aaf)=true:=λx=>accL (by simp;omega);show PL t _ _ _ _ _ _ _ i (adh d (ts t i) b) _;rw [a68];simp only [S208_3step,S208_3,ea,Ad];refine PL.seq (ase t H i hi d hm hn q).pg (λa j m _ W=>?_) (λp z=>⟨_,rfl⟩);have h1:=abg hi m (ajk d _) W;refine PL.may H [45] 4 (by decide) j m q (λ_ U=>?_) (λ_=>?_)
  ·simp only [Ad,aao];refine PL.seq (ase t H (j+1) U d hm hn q).pg (λc k Y _ ab=>?_) (λp z=>⟨_,rfl⟩);have h2:=abg U Y (ajk d _) ab;refine PL.may H [59] 4 (by decide) k Y q (λ_ o=>?_) (λ_=>?_)
   ·simp only [Ad,aao];exact .done _ (k+1) o (by simp;omega) rfl rfl
   ·simp only [Ae];refine PL.seq (ad9 [44] 4 (by decide) t H k Y q).pg (λ_ l V _ M=>?_) (λp z=>⟨_,rfl⟩);have h3:=abg Y V (aba _ _ _) M;exact .go (b++[PV.agg [PV.int a,PV.int c]]) l (by omega) V (by simp;omega) rfl rfl
  ·simp only [Ae];refine PL.may H [59] 4 (by decide) j m q (λ_ o=>?_) (λ_=>?_)
   ·simp only [Ad,aao];exact .done _ (j+1) o (by simp;omega) rfl rfl
   ·simp only [Ae];refine PL.seq (ad9 [44] 4 (by decide) t H j m q).pg (λ_ l V _ M=>?_) (λp z=>⟨_,rfl⟩);have h3:=abg m V (aba _ _ _) M;exact .go (b++[PV.agg [PV.int a,PV.int a]]) l (by omega) V (by simp;omega) rfl rfl) t.length O [] (by omega) aa (by simp)
 unfold F208
 rw [aal]
 rcases lp with ⟨v,j,X,hv,W,hy⟩ | ⟨j,e,z,X,he,W,hy⟩
 ·exact .ok v j X hv W (by rw [hy];rfl)
 ·exact .er j e z X he W (by rw [hy];rfl)
theorem a7n (po:ad0) (ht:TNum t) (h5:t.length<=100000) (O:Nat) (X:O<=t.length) (q:QF):
 PG t Sum.inl Sum.inr (λv j=>v.length+O<=j/\∀ x,x∈v->ahk x) (λv j=>(v,(t,j,q))) (aq2 parV aae (ts t O)) (F206 0 () (t,(O:Int),q)):=by
 have V:=ht.toTOk
 have lp:=λ(U:Bq)=>PL.loop (t:=t) (st:=λ(b:List PV) j=>((),U,b,((t,j,q):Q0))) (spec:=λl b=>abz parV aae U l b) (J:=λb j=>b.length+O<=j/\∀ x,x∈b->ahk x) (ok:=Sum.inl) (er:=Sum.inr) (I:=λv j=>v.length+O<=j/\∀ x,x∈v->ahk x) (mk:=λv j=>(v,((t,j,q):Q0))) (step:=S206_6step 0) (λi b hi hJ=>by
  obtain ⟨hj,Y⟩:=hJ;have ea:∀ x:PV,decide (b.length+[x].length<=aaf)=true:=λx=>accL (by simp;omega);show PL t _ _ _ _ _ _ _ i (abz parV aae U (ts t i) b) _;rw [alm];simp only [S206_6step,S206_6,ea,Ad];refine PL.seq (ax8 t V i hi q).pg (λty j o _ M=>?_) (λp z=>⟨_,rfl⟩);have h1:=abg hi o (aq1 _) M;refine PL.seq (as8 po 2 0 ty U false (by unfold typS at M;cases hq:ack (ts t i)<;>rw [hq] at M<;>simp only [Rs.bind] at M<;>cases M;exact atb _) t ht j o q).pg (λx k H _ d=>?_) (λp z=>⟨_,rfl⟩)
  have h2:=abg o H (alu parV aae _ _ _ _ _ _) d;have W:ahk x:=⟨as6 (bbt ht j) (λh=>by cases h) d,by have:=ao5 d;grind [adi]⟩;refine PL.may V [125] 4 (by decide) k H q (λ_ aa=>?_) (λ_=>?_)
  ·simp only [Ad,aao];exact .done (b++[x]) (k+1) aa ⟨by simp;omega,aez Y W⟩ rfl rfl
  ·simp only [Ae];exact .go (b++[x]) k (by omega) H ⟨by simp;omega,aez Y W⟩ rfl rfl)
 unfold F206 aq2
 refine PG.seq (ad9 [117,110,105,111,110] 1 (by decide) t V O X q).pg (λ_ j hj _ M=>?_) (λp z=>⟨_,rfl⟩)
 have h1:=abg X hj (aba _ _ _) M
 refine PG.seq (akv t V j hj q).pg (λU k H _ d=>?_) (λp z=>⟨_,rfl⟩)
 have h2:=abg hj H (afu _) d
 refine PG.seq (ad9 [123] 4 (by decide) t V k H q).pg (λ_ l hl _ ab=>?_) (λp z=>⟨_,rfl⟩)
 have h3:=abg H hl (aba _ _ _) ab
 simp only [aal]
 rcases lp U t.length l [] (by omega) hl ⟨by simp;omega,aeh⟩ with ⟨v,m,hm,hv,hx4,hy⟩ | ⟨m,e,z,hm,he,hx4,hy⟩
 ·exact .ok v m hm hv hx4 (by rw [hy];rfl)
 ·exact .er m e z hm he hx4 (by rw [hy];rfl)
theorem azn (d:TOk t) (i:Nat) (U:i<=t.length) (q:QF):
 PG t Sum.inl Sum.inr (λ_ _=>True) (λv j=>(v.1,v.2,(t,j,q))) (avd (ts t i)) (F289 0 () (t,(i:Int),q)):=by
 unfold F289 avd
 refine PG.seq (ad9 [40] 4 (by decide) t d i U q).pg (λ_ j O _ V=>?_) (λp z=>⟨_,rfl⟩)
 rw [alk [115,116,114,101,97,109] 1 (by decide) t d j O q]
 simp only [Aa]
 cases h:isS 1 [115,116,114,101,97,109] (ts t j) with
 | true=>
  simp only [Ad,aao]
  refine PG.seq (ail t d (j+1) (abl h) q).pg (λs k m _ H=>?_) (λp z=>⟨_,rfl⟩)
  refine PG.seq (ad9 [41] 4 (by decide) t d k m q).pg (λ_ l o _ M=>?_) (λp z=>⟨_,rfl⟩)
  exact .ok (true,s) l o trivial rfl rfl
 | false=>
  simp only [Ae]
  refine PG.seq (ail t d j O q).pg (λs k m _ H=>?_) (λp z=>⟨_,rfl⟩)
  refine PG.seq (ad9 [41] 4 (by decide) t d k m q).pg (λ_ l o _ M=>?_) (λp z=>⟨_,rfl⟩)
  exact .ok (false,s) l o trivial rfl rfl
theorem bc4 (po:ad0) (M:TNm t) (X:t.length<=100000) (i:Nat) (Y:i<=t.length) (q:QF):
 PG t Sum.inl Sum.inr (λv _=>amt v) (λv j=>(v,(t,j,q))) (rpcS parV aae (ts t i)) (F210 0 () (t,(i:Int),q)):=by
 have d:=M.toTOk
 unfold F210 rpcS
 refine PG.seq (ad9 [114,112,99] 1 (by decide) t d i Y q).pg (λ_ j hj _ _=>?_) (λp z=>⟨_,rfl⟩)
 refine PG.seq (akv t d j hj q).pg (λnm k hk _ _=>?_) (λp z=>⟨_,rfl⟩)
 refine PG.seq (azn d k hk q) (λa l hl _ _=>?_) (λp z=>⟨_,rfl⟩)
 refine PG.seq (ad9 [114,101,116,117,114,110,115] 1 (by decide) t d l hl q).pg (λ_ m hm _ _=>?_) (λp z=>⟨_,rfl⟩)
 refine PG.seq (azn d m hm q) (λb n hn _ _=>?_) (λp z=>⟨_,rfl⟩)
 obtain ⟨O,U⟩:=a
 obtain ⟨V,W⟩:=b
 simp only
 cases O<;>cases V<;>simp only [Ad,Ae]<;>refine PG.seq (agf po t M n hn q).pg (λls o ho _ H=>?_) (λp z=>⟨_,rfl⟩)<;>refine PG.seq (ad9 [59] 4 (by decide) t d o ho q).pg (λ_ u hu _ _=>?_) (λp z=>⟨_,rfl⟩)<;>exact .ok (PV.agg [PV.str nm,PV.str U,PV.str W,PV.int _,PV.slice ls]) u hu (ae6 X H) rfl rfl
end
end Go.Ab
namespace Go.Ab
open Go
set_option maxRecDepth 100000
section
variable {t:List PV}
theorem a9n (H:TOk t) (s:Bq) (k:Int) (z:kOf s=k) (i:Nat) (o:i<=t.length) (q:QF):
 ∃ (d:Bool) (j:Nat),i<=j/\j<=t.length/\isS k s (ts t i)=d/\(bif d then (ts t i).tail else ts t i)=ts t j/\F91 0 () s (t,(i:Int),q)=some (d,(t,(j:Int),q)):=by
 have h:=alk s k z t H i o q
 cases m:isS k s (ts t i) with
 | true=>
  rw [m] at h
  exact ⟨true,i+1,by omega,abl m,rfl,by rw [Ad,aao],h⟩
 | false=>grind
theorem a4u (l:List Tk) (d rs:List PV):ad3 parV aae l d rs=
 bif isS 4 [125] l then .ok (d,rs) l.tail
 else bif isS 1 [114,101,115,101,114,118,101,100] l then (adh 2147483647 l.tail []).bind λx r=>ad3 parV aae r d (rs++x)
 else (ai9 l).bind λm o=>(eatS 4 [61] o).bind λ_ z=>(numS 2147483647 z).bind λn H=>(acw parV aae H).bind λx M=>(eatS 4 [59] M).bind λ_ O=>ad3 parV aae O (d++[PV.agg [PV.str m,PV.int n,PV.slice x]]) rs:=by
 rw [ary]
 unfold a4s
 simp only [Rs.bind_assoc,Rs.bind_ok]
theorem amx (po:ad0) (ht:TNum t) (h5:t.length<=100000) (d:Bq) (ho:d.length<=120) (i:Nat) (hi:i<=t.length) (M O:Bq) (U H ms es:List PV) (aj:es.length<=1000000):
 PG t Sum.inl Sum.inr (λv _=>aeg v) (λv j=>((t,j,M,O,(),(),(),U,H,ms,es++[v]):Q0)) (an1 parV aae d (ts t i)) (F98 0 () d (t,(i:Int),M,O,(),(),(),U,H,ms,es)):=by
 have V:=ht.toTOk
 have hl:=ht.len
 obtain ⟨op,j0,ak,ae,e1,e2,e3⟩:=a9n V [111,112,101,110] 1 (by decide) i hi (M,O,(),(),(),U,H,ms,es)
 unfold F98 an1
 rw [e1,e2,e3,Aa]
 refine PG.seq (ad9 [101,110,117,109] 1 (by decide) t V j0 ae (M,O,(),(),(),U,H,ms,es)).pg (λ_ j Z _ _=>?_) (λp z=>⟨_,rfl⟩)
 have ea:∀ x:PV,decide (es.length+[x].length<=aaf)=true:=λx=>accL (by simp;omega)
 simp only [ea,Ad]
 refine PG.seq (aok d ho t V j Z M O U H ms _) (λW k hk ag _=>?_) (λp z=>⟨_,rfl⟩)
 refine PG.seq (agf po t ht.toTNm k hk (M,O,(),(),(),U,H,ms,_)).pg (λab l af _ ai=>?_) (λp z=>⟨_,rfl⟩)
 refine PG.seq (ad9 [123] 4 (by decide) t V l af (M,O,(),(),(),U,H,ms,_)).pg (λ_ m hm _ _=>?_) (λp z=>⟨_,rfl⟩)
 have lp:=PL.loop (t:=t) (st:=λ(b:List PV×List PV) (j:Int)=>((),(),(es.length:Int),t,j,M,O,(),(),(),U,H,ms,es++[PV.agg [PV.str [],PV.bool op,PV.slice [],PV.slice [],PV.slice []]],W,op,b.1,b.2,ab))
  (spec:=λl b=>ad3 parV aae l b.1 b.2) (J:=λb j=>b.1.length+b.2.length<=j/\∀ x,x∈b.1->avv x) (ok:=Sum.inr) (er:=Sum.inl) (I:=λv j=>v.1.length+v.2.length<=j/\∀ x,x∈v.1->avv x)
  (mk:=λv (j:Int)=>((),(),(es.length:Int),t,j,M,O,(),(),(),U,H,ms,es++[PV.agg [PV.str [],PV.bool op,PV.slice [],PV.slice [],PV.slice []]],W,op,v.1,v.2,ab)) (step:=S98_8step 0) (λi b hi ad=>by
  obtain ⟨hJ,aa⟩:=ad
  have eb:∀ x:PV,decide (b.1.length+[x].length<=aaf)=true:=λx=>accL (by simp;omega)
  show PL t _ _ _ _ _ _ _ i (ad3 parV aae (ts t i) b.1 b.2) _
  rw [a4u]
  simp only [S98_8step,S98_8]
  refine PL.may V [125] 4 (by decide) i hi (M,O,(),(),(),U,H,ms,_) (λ_ Y=>?_) (λ_=>?_)
  ·simp only [Am,Ae,aao];exact .done (b.1,b.2) (i+1) Y ⟨by simp;omega,aa⟩ rfl rfl
  ·simp only [Aj,Ad];refine PL.may V [114,101,115,101,114,118,101,100] 1 (by decide) i hi (M,O,(),(),(),U,H,ms,_) (λ_ Y=>?_) (λ_=>?_)
   ·simp only [Ad,aao];refine PL.seq (avl V ht.num h5 2147483647 (by decide) (i+1) Y (M,O,(),(),(),U,H,ms,_)) (λv j Z hv _=>?_) (λp z=>⟨_,rfl⟩);have al:v.length+(i+1)<=j:=hv;have ec:decide (b.2.length+v.length<=aaf)=true:=accL (by omega);simp only [ec,Ad];exact .go (b.1,b.2++v) j (by omega) Z ⟨by simp;omega,aa⟩ rfl rfl
   ·simp only [Ae];refine PL.seq (akv t V i hi (M,O,(),(),(),U,H,ms,_)).pg (λpn j Z _ X=>?_) (λp z=>⟨_,rfl⟩);have q1:=abg hi Z (afu _) X;refine PL.seq (ad9 [61] 4 (by decide) t V j Z (M,O,(),(),(),U,H,ms,_)).pg (λ_ k hk _ X=>?_) (λp z=>⟨_,rfl⟩);have q2:=abg Z hk (aba _ _ _) X;refine PL.seq (ase t V k hk 2147483647 (by decide) ht.num (M,O,(),(),(),U,H,ms,_)).pg (λn l hl _ X=>?_) (λp z=>⟨_,rfl⟩);have q3:=abg hk hl (ajk _ _) X;refine PL.seq (agf po t ht.toTNm l hl (M,O,(),(),(),U,H,ms,_)).pg (λns m hm _ X=>?_) (λp z=>⟨_,rfl⟩);have q4:=amk hl hm (ac7 parV aae _) X;have ah:afr ns:=ae6 h5 X;refine PL.seq (ad9 [59] 4 (by decide) t V m hm (M,O,(),(),(),U,H,ms,_)).pg (λ_ o ho _ X=>?_) (λp z=>⟨_,rfl⟩);have q5:=abg hm ho (aba _ _ _) X;simp only [eb,Ad];exact .go (b.1++[PV.agg [PV.str pn,PV.int n,PV.slice ns]],b.2) o (by omega) ho ⟨by simp;omega,aez aa ah⟩ rfl rfl)
  t.length m ([],[]) (by omega) hm ⟨by simp,aeh⟩
 simp only [aal]
 refine PG.swap lp (λv n hn hv _=>?_) (λp z=>⟨_,rfl⟩)
 have r0:aaa (es.length:Int) (es++[PV.agg [PV.str [],PV.bool op,PV.slice [],PV.slice [],PV.slice []]]).length=true:=by rw [aab];simp
 simp only [r0,Ad,Ag]
 refine .ok (PV.agg [PV.str W,PV.bool op,PV.slice v.1,PV.slice v.2,PV.slice ab]) n hn ⟨show v.1.length<=100000 by omega,hv.2,show v.2.length<=100000 by omega,ae6 h5 ai⟩ rfl ?_
 grind
theorem bde (po:ad0) (Z:TNum t) (h5:t.length<=100000) (i:Nat) (V:i<=t.length) (M O:Bq) (d H ms es:List PV) (ah:d.length<=1000000):
 PG t Sum.inl Sum.inr (λv _=>atn v) (λv j=>((t,j,M,O,(),(),(),d++[v],H,ms,es):Q0)) (svcS parV aae (ts t i)) (F99 0 () (t,(i:Int),M,O,(),(),(),d,H,ms,es)):=by
 have X:=Z.toTOk
 have hl:=Z.len
 unfold F99 svcS
 refine PG.seq (ad9 [115,101,114,118,105,99,101] 1 (by decide) t X i V (M,O,(),(),(),d,H,ms,es)).pg (λ_ j Y _ _=>?_) (λp z=>⟨_,rfl⟩)
 refine PG.seq (aok [] (by simp) t X j Y M O d H ms es) (λo k hk ae _=>?_) (λp z=>⟨_,rfl⟩)
 refine PG.seq (agf po t Z.toTNm k hk (M,O,(),(),(),d,H,ms,es)).pg (λU l ad _ ag=>?_) (λp z=>⟨_,rfl⟩)
 refine PG.seq (ad9 [123] 4 (by decide) t X l ad (M,O,(),(),(),d,H,ms,es)).pg (λ_ m hm _ _=>?_) (λp z=>⟨_,rfl⟩)
 have lp:=PL.loop (t:=t) (st:=λ(b:List PV) (j:Int)=>((),(),t,j,M,O,(),(),(),d,H,ms,es,o,b,U))
  (spec:=λl b=>ak0 parV aae l b) (J:=λb j=>b.length<=j/\∀ x,x∈b->amt x) (ok:=Sum.inr) (er:=Sum.inl) (I:=λv j=>v.length<=j/\∀ x,x∈v->amt x)
  (mk:=λv (j:Int)=>((),(),t,j,M,O,(),(),(),d,H,ms,es,o,v,U)) (step:=S99_5step 0) (λi b V aa=>by
  obtain ⟨hJ,W⟩:=aa
  have eb:∀ x:PV,decide (b.length+[x].length<=aaf)=true:=λx=>accL (by simp;omega)
  show PL t _ _ _ _ _ _ _ i (ak0 parV aae (ts t i) b) _
  rw [axs]
  simp only [S99_5step,S99_5]
  refine PL.may X [125] 4 (by decide) i V (M,O,(),(),(),d,H,ms,es) (λ_ ab=>?_) (λ_=>?_)
  ·simp only [Am,Ae,aao];exact .done b (i+1) ab ⟨by omega,W⟩ rfl rfl
  ·simp only [Aj,Ad];refine PL.seq (bc4 po Z.toTNm h5 i V (M,O,(),(),(),d,H,ms,es)) (λx j Y af hx=>?_) (λp z=>⟨_,rfl⟩);have q1:=abg V Y (a6q parV aae _) hx;simp only [eb,Ad];exact .go (b++[x]) j (by omega) Y ⟨by simp;omega,aez W af⟩ rfl rfl)
  t.length m [] (by omega) hm ⟨by simp,aeh⟩
 simp only [aal]
 refine PG.swap lp (λv n hn hv _=>?_) (λp z=>⟨_,rfl⟩)
 have ea:∀ x:PV,decide (d.length+[x].length<=aaf)=true:=λx=>accL (by simp;omega)
 simp only [ea,Ad]
 exact .ok (PV.agg [PV.str o,PV.slice v,PV.slice U]) n hn ⟨show v.length<=100000 by omega,hv.2,ae6 h5 ag⟩ rfl rfl
end
end Go.Ab
namespace Go.Ab
open Go
set_option maxRecDepth 100000
inductive PN {α R S Z:Type} (N:Nat) (t:List PV) (ok:R->S) (er:PV×Z->S) (I:α->Nat->Prop) (mk:α->Int->R) (x:Rs α) (y:Nat->Option S):Prop
 | ok (v:α) (j:Nat):j<=t.length->I v j->x=.ok v (ts t j)->(∀ n,N<=n->y n=some (ok (mk v ((j:Nat):Int))))->PN N t ok er I mk x y
 | er (j:Nat) (e:Int) (z:Z):j<=t.length->e≠0->x=.er (ts t j) e->(∀ n,N<=n->y n=some (er (PV.agg [PV.int ((j:Nat):Int),PV.int e],z)))->PN N t ok er I mk x y
theorem PG.pn {α R S Z:Type}{N:Nat}{t:List PV}{ok:R->S}{er:PV×Z->S}{I:α->Nat->Prop}{mk:α->Int->R}{x:Rs α}{y:Option S} (h:PG t ok er I mk x y):PN N t ok er I mk x (λ_=>y):=by
 rcases h with ⟨v,j,d,m,o,H⟩ | ⟨j,e,z,d,m,o,H⟩
 ·exact .ok v j d m o λ_ _=>H
 ·exact .er j e z d m o λ_ _=>H
theorem PN.pg {α R S Z:Type}{N:Nat}{t:List PV}{ok:R->S}{er:PV×Z->S}{I:α->Nat->Prop}{mk:α->Int->R}{x:Rs α}{y:Nat->Option S}{Y:Option S} (h:PN N t ok er I mk x y) (M:∀ z,(∀ n,N<=n->y n=some z)->Y=some z):PG t ok er I mk x Y:=by
 rcases h with ⟨v,j,d,m,o,H⟩ | ⟨j,e,z,d,m,o,H⟩
 ·exact .ok v j d m o (M _ H)
 ·exact .er j e z d m o (M _ H)
theorem PN.shift {α R S Z:Type}{N:Nat}{t:List PV}{ok:R->S}{er:PV×Z->S}{I:α->Nat->Prop}{mk:α->Int->R}{x:Rs α}{y H:Nat->Option S} (h:PN N t ok er I mk x y) (V:∀ n,H (n+1)=y n):PN (N+1) t ok er I mk x H:=by
 have U:∀ n,N+1<=n->H n=y (n-1):=λn M=>by grind
 rcases h with ⟨v,j,d,m,o,O⟩ | ⟨j,e,z,d,m,o,O⟩
 ·exact .ok v j d m o λn M=>by grind
 ·exact .er j e z d m o λn M=>by grind
theorem PN.seq {α β R X H Z Y:Type}{N:Nat}{t:List PV}{I:α->Nat->Prop}{W:β->Nat->Prop}{mk:α->Int->R}{o:X->H}{d:PV×Y->H}{m:β->Int->X}{x:Rs α}{y:Option (R⊕(PV×Z))}{f:α->List Tk->Rs β}{g:Nat->R->Option H}{E:PV×Z->Option H}
 (h:PG t Sum.inl Sum.inr I mk x y) (hc:∀ v j,j<=t.length->I v j->x=.ok v (ts t j)->PN N t o d W m (f v (ts t j)) (λn=>g n (mk v ((j:Nat):Int)))) (hE:∀ p z,∃ V,E (p,z)=some (d (p,V))):
 PN N t o d W m (x.bind f) (λn=>y.bind λz=>sumE (g n) E z):=by
 rcases h with ⟨v,j,O,hi,M,U⟩ | ⟨j,e,z,O,he,M,U⟩
 ·have:=hc v j O hi M;rw [M,U];exact this
 ·obtain ⟨V,hz⟩:=hE (PV.agg [PV.int ((j:Nat):Int),PV.int e]) z;rw [M,U];exact .er j e V O he rfl λ_ _=>hz
theorem PN.swap {α β R R' M Z Z':Type}{N:Nat}{t:List PV}{I:α->Nat->Prop}{I':β->Nat->Prop}{mk:α->Int->R}{H:R'->M}{d:PV×Z'->M}{o:β->Int->R'}{x:Rs α}{y:Nat->Option ((PV×Z)⊕R)}{f:α->List Tk->Rs β}{g:R->Option M}{E:PV×Z->Option M}
 (h:PN N t Sum.inr Sum.inl I mk x y) (hc:∀ v j,j<=t.length->I v j->x=.ok v (ts t j)->PG t H d I' o (f v (ts t j)) (g (mk v ((j:Nat):Int)))) (hE:∀ p z,∃ z',E (p,z)=some (d (p,z'))):
 PN N t H d I' o (x.bind f) (λn=>(y n).bind λz=>sumE E g z):=by
 rcases h with ⟨v,j,hj,hi,O,U⟩ | ⟨j,e,z,hj,he,O,U⟩
 ·have:=hc v j hj hi O;rw [O];rcases this with ⟨w,k,V,W,X,Y⟩ | ⟨k,e,z,V,W,X,Y⟩
  ·exact .ok w k V W X λn m=>by rw [U n m];exact Y
  ·exact .er k e z V W X λn m=>by rw [U n m];exact Y
 ·obtain ⟨z',hz⟩:=hE (PV.agg [PV.int ((j:Nat):Int),PV.int e]) z;rw [O];exact .er j e z' hj he rfl λn m=>by rw [U n m];exact hz
inductive PM {α β R S Z σ:Type} (N:Nat) (t:List PV) (st:β->Int->σ) (spec:List Tk->β->Rs α) (J:β->Nat->Prop) (ok:R->S) (er:PV×Z->S) (I:α->Nat->Prop) (mk:α->Int->R) (i:Nat) (x:Rs α) (y:Nat->Option (σ⊕S)):Prop
 | go (b:β) (j:Nat):i<j->j<=t.length->J b j->x=spec (ts t j) b->(∀ n,N<=n->y n=some (.inl (st b ((j:Nat):Int))))->PM N t st spec J ok er I mk i x y
 | done (v:α) (j:Nat):j<=t.length->I v j->x=.ok v (ts t j)->(∀ n,N<=n->y n=some (.inr (ok (mk v ((j:Nat):Int)))))->PM N t st spec J ok er I mk i x y
 | er (j:Nat) (e:Int) (z:Z):j<=t.length->e≠0->x=.er (ts t j) e->(∀ n,N<=n->y n=some (.inr (er (PV.agg [PV.int ((j:Nat):Int),PV.int e],z))))->PM N t st spec J ok er I mk i x y
section
variable {α β R S Z σ:Type}{N:Nat}{t:List PV}{st:β->Int->σ}{spec:List Tk->β->Rs α}{J:β->Nat->Prop}{ok:R->S}{er:PV×Z->S}{I:α->Nat->Prop}{mk:α->Int->R}{i:Nat}
theorem PM.loop {step:Nat->σ->Option (σ⊕S)} (h:∀ i b,i<=t.length->J b i->PM N t st spec J ok er I mk i (spec (ts t i) b) (λn=>step n (st b (i:Int)))):∀ (m i:Nat) (b:β),t.length-i<=m->i<=t.length->J b i->PN N t ok er I mk (spec (ts t i) b) (λn=>aaz (step n) (st b (i:Int))):=by
 intro m;induction m with
 | zero=>
  intro i b hm X Y;rcases h i b X Y with ⟨b',j,o,d,_⟩ | ⟨v,j,o,d,H,M⟩ | ⟨j,e,z,o,d,H,M⟩
  ·omega
  ·exact .ok v j o d H λn O=>aac (M n O)
  ·exact .er j e z o d H λn O=>aac (M n O)
 | succ m ih=>
  intro i b hm X Y;rcases h i b X Y with ⟨b',j,o,d,H,M,h5⟩ | ⟨v,j,o,d,H,M⟩ | ⟨j,e,z,o,d,H,M⟩
  ·rw [M];rcases ih j b' (by omega) d H with ⟨v,k,U,V,W,g4⟩ | ⟨k,e,z,U,V,W,g4⟩
   ·exact .ok v k U V W λn O=>by grind [aan]
   ·exact .er k e z U V W λn O=>by grind [aan]
  ·exact .ok v j o d H λn O=>aac (M n O)
  ·exact .er j e z o d H λn O=>aac (M n O)
theorem PM.seq {d X Z0:Type}{I0:d->Nat->Prop}{V:d->Int->X}{x0:Rs d}{y0:Nat->Option (X⊕(PV×Z0))}{f:d->List Tk->Rs α}{g:X->Option (σ⊕S)}{E:PV×Z0->Option (σ⊕S)}
 (h:PN N t Sum.inl Sum.inr I0 V x0 y0) (hc:∀ v j,j<=t.length->I0 v j->x0=.ok v (ts t j)->PL t st spec J ok er I mk i (f v (ts t j)) (g (V v ((j:Nat):Int)))) (hE:∀ p z,∃ z',E (p,z)=some (.inr (er (p,z')))):
 PM N t st spec J ok er I mk i (x0.bind f) (λn=>(y0 n).bind λz=>sumE g E z):=by
 rcases h with ⟨v,j,Y,hi,W,U⟩ | ⟨j,e,z,Y,he,W,U⟩
 ·have:=hc v j Y hi W;rw [W];rcases this with ⟨w,k,o,H,M,O,h5⟩ | ⟨w,k,o,H,M,O⟩ | ⟨k,e,z,o,H,M,O⟩
  ·exact .go w k o H M O λn m=>by rw [U n m];exact h5
  ·exact .done w k o H M λn m=>by rw [U n m];exact O
  ·exact .er k e z o H M λn m=>by rw [U n m];exact O
 ·obtain ⟨z',hz⟩:=hE (PV.agg [PV.int ((j:Nat):Int),PV.int e]) z;rw [W];exact .er j e z' Y he rfl λn m=>by rw [U n m];exact hz
theorem PM.may (M:TOk t) (s:Bq) (k:Int) (H:kOf s=k) (j:Nat) (z:j<=t.length) (q:QF) {K:Nat->Bool×Q0->Option (σ⊕S)}{x1 d:Rs α}
 (m:isS k s (ts t j)=true->j+1<=t.length->PM N t st spec J ok er I mk i x1 (λn=>K n (true,(t,((j+1:Nat):Int),q)))) (o:isS k s (ts t j)=false->PM N t st spec J ok er I mk i d (λn=>K n (false,(t,(j:Int),q)))):
 PM N t st spec J ok er I mk i (bif isS k s (ts t j) then x1 else d) (λn=>(F91 0 () s (t,(j:Int),q)).bind (K n)):=by
 grind [alk,isS,ts,abl]
theorem PM.sign (M:TOk t) (s:Bq) (k:Int) (H:kOf s=k) (j:Nat) (z:j<=t.length) (q:QF) {K:Nat->Bool×Q0->Option (σ⊕S)}{x1 d:Rs α}
 (m:isS k s (ts t j)=true->PM N t st spec J ok er I mk i x1 (λn=>K n (true,(t,(j:Int),q)))) (o:isS k s (ts t j)=false->PM N t st spec J ok er I mk i d (λn=>K n (false,(t,(j:Int),q)))):
 PM N t st spec J ok er I mk i (bif isS k s (ts t j) then x1 else d) (λn=>(F96 0 () s (t,(j:Int),q)).bind (K n)):=by
 grind [aqs,isS,ts]
end
section
variable {t:List PV}
theorem amv {α:Type} (a b:Bool) (x y:Rs α):(bif a||b then x else y)=bif a then x else (bif b then x else y):=by cases a<;>cases b<;>rfl
def MBok (L:Nat) (b:MB) (j:Nat):Prop:=b.fs.length<=j/\b.rs.length<=j/\b.gs.length<=j/\b.ms.length<=j/\b.es.length<=j/\L<=b.ms.length/\(∀ x,x∈b.fs->ahk x)/\(∀ x,x∈b.ms->ahb x)/\(∀ x,x∈b.es->aeg x)
theorem az7 (po:ad0) (ht:TNum t) (h5:t.length<=100000) (N d:Nat) (a2:Nat) (ha:a2<=15) (k0:Int) (m:Bq) (Y:m.length<=120) (M O:Bq) (U H:List PV) (ad:List PV)
 (ih:∀ (i:Nat) (ms es:List PV),i<=t.length->ms.length<=i->es.length<=i->(∀ x,x∈ms->ahb x)->(∀ x,x∈es->aeg x)->PN N t Sum.inl Sum.inr (λv j=>v.1.length<=j/\v.2.length<=j/\ms.length<=v.1.length/\(∀ x,x∈v.1->ahb x)/\(∀ x,x∈v.2->aeg x)) (λv j=>((t,j,M,O,(),(),(),U,H,v.1,v.2):Q0)) (msgS parV aae d m ms es (ts t i)) (λn=>G97 0 n ((),m,(((a2+1:Nat)):Int),(t,(i:Int),M,O,(),(),(),U,H,ms,es))))
 (i:Nat) (b:MB) (V:i<=t.length) (L:Nat) (hJ:MBok L b i):
 PM N t (λ(b:MB) (j:Int)=>((),(a2:Int),k0,(),t,j,M,O,(),(),(),U,H,b.ms,b.es,m,b.fs,b.rs,b.gs,ad)) (λl b=>aca parV aae (msgS parV aae d) m l b) (MBok L) Sum.inr Sum.inl (MBok L)
  (λ(v:MB) (j:Int)=>((),k0,(),t,j,M,O,(),(),(),U,H,v.ms,v.es,m,v.fs,v.rs,v.gs,ad)) i (aca parV aae (msgS parV aae d) m (ts t i) b) (λn=>B97_9step 0 (G97 0 n) ((),(a2:Int),k0,(),t,(i:Int),M,O,(),(),(),U,H,b.ms,b.es,m,b.fs,b.rs,b.gs,ad)):=by
 have h0:=ht.toTOk
 obtain ⟨j1,j2,j3,j4,j5,j6,o1,o2,o3⟩:=hJ
 rw [ag0 parV aae _ (ah9 parV aae d),amv]
 simp only [B97_9step,B97_9]
 refine PM.may h0 [125] 4 (by decide) i V (M,O,(),(),(),U,H,b.ms,b.es) (λ_ aa=>?_) (λ_=>?_)
 ·simp only [Am,Ae,aao];exact .done b (i+1) aa ⟨by omega,by omega,by omega,by omega,by omega,j6,o1,o2,o3⟩ rfl λ_ _=>rfl
 simp only [Aj,Ad]
 refine PM.sign h0 [117,110,105,111,110] 1 (by decide) i V (M,O,(),(),(),U,H,b.ms,b.es) (λ_=>?_) (λ_=>?_)
 ·simp only [Ad];refine PM.seq (a7n po ht h5 i V (M,O,(),(),(),U,H,b.ms,b.es)).pn (λv j o X W=>?_) (λp z=>⟨_,rfl⟩);have ae:v.length+i<=j:=X.1;have q1:=abg V o (am8 parV aae _) W;have ec:decide (b.fs.length+v.length<=aaf)=true:=accL (by omega);simp only [ec,Ad];exact .go { b with fs:=b.fs++v } j q1 o ⟨by simp;omega,by simp;omega,by simp;omega,by simp;omega,by simp;omega,j6,a71 o1 X.2,o2,o3⟩ rfl rfl
 simp only [Ae]
 refine PM.sign h0 [109,101,115,115,97,103,101] 1 (by decide) i V (M,O,(),(),(),U,H,b.ms,b.es) (λ_=>?_) (λ_=>?_)
 ·simp only [Ad];have w:IntKind.wrap .i64 ((a2:Int)+1)=((a2+1:Nat):Int):=aa9 (by omega);simp only [w];refine PM.seq (ih i b.ms b.es V j4 j5 o2 o3) (λv j o X W=>?_) (λp z=>⟨_,rfl⟩);have q1:=abg V o (ah9 parV aae d _ _ _ _) W;exact .go { b with ms:=v.1,es:=v.2 } j q1 o ⟨by simp;omega,by simp;omega,by simp;omega,X.1,X.2.1,Nat.le_trans j6 X.2.2.1,o1,X.2.2.2.1,X.2.2.2.2⟩ rfl rfl
 simp only [Ae]
 refine PM.sign h0 [101,110,117,109] 1 (by decide) i V (M,O,(),(),(),U,H,b.ms,b.es) (λ_=>?_) (λ_=>?_)
 ·simp only [Am,Ae,Ad];refine PM.seq (amx po ht h5 m Y i V M O U H b.ms b.es (by omega)).pn (λv j o ab W=>?_) (λp z=>⟨_,rfl⟩);have q1:=abg V o (aft parV aae _ _) W;exact .go { b with es:=b.es++[v] } j q1 o ⟨by simp;omega,by simp;omega,by simp;omega,by simp;omega,by simp;omega,j6,o1,o2,aez o3 ab⟩ rfl rfl
 simp only [Aj,Ad,Ae]
 refine PM.sign h0 [111,112,101,110] 1 (by decide) i V (M,O,(),(),(),U,H,b.ms,b.es) (λ_=>?_) (λ_=>?_)
 ·simp only [Ad];refine PM.seq (amx po ht h5 m Y i V M O U H b.ms b.es (by omega)).pn (λv j o ab W=>?_) (λp z=>⟨_,rfl⟩);have q1:=abg V o (aft parV aae _ _) W;exact .go { b with es:=b.es++[v] } j q1 o ⟨by simp;omega,by simp;omega,by simp;omega,by simp;omega,by simp;omega,j6,o1,o2,aez o3 ab⟩ rfl rfl
 simp only [Ae]
 refine PM.may h0 [114,101,115,101,114,118,101,100] 1 (by decide) i V (M,O,(),(),(),U,H,b.ms,b.es) (λ_ aa=>?_) (λ_=>?_)
 ·simp only [Ad,aao,ael t (i+1) (M,O,(),(),(),U,H,b.ms,b.es),Aa];cases h3:(aaw (ts t (i+1))==3) with
  | true=>simp only [Ad];refine PM.seq (a8z t h0 h5 (i+1) aa (M,O,(),(),(),U,H,b.ms,b.es)).pn (λv j o X W=>?_) (λp z=>⟨_,rfl⟩);have ae:v.length+(i+1)<=j:=X;have ec:decide (b.gs.length+v.length<=aaf)=true:=accL (by omega);simp only [ec,Ad];exact .go { b with gs:=b.gs++v } j (by omega) o ⟨by simp;omega,by simp;omega,by simp;omega,by simp;omega,by simp;omega,j6,o1,o2,o3⟩ rfl rfl
  | false=>simp only [Ae];refine PM.seq (avl h0 ht.num h5 65535 (by decide) (i+1) aa (M,O,(),(),(),U,H,b.ms,b.es)).pn (λv j o X W=>?_) (λp z=>⟨_,rfl⟩);have ae:v.length+(i+1)<=j:=X;have ec:decide (b.rs.length+v.length<=aaf)=true:=accL (by omega);simp only [ec,Ad];exact .go { b with rs:=b.rs++v } j (by omega) o ⟨by simp;omega,by simp;omega,by simp;omega,by simp;omega,by simp;omega,j6,o1,o2,o3⟩ rfl rfl
 ·simp only [Ae];refine PM.seq (a4a po t ht i V (M,O,(),(),(),U,H,b.ms,b.es)).pg.pn (λv j o _ W=>?_) (λp z=>⟨_,rfl⟩);have q1:=abg V o (akc parV aae _) W;have ec:decide (b.fs.length+[v].length<=aaf)=true:=accL (by simp;omega);simp only [ec,Ad];have af:ahk v:=⟨a8t (bbt ht i) W,by have:=a33 W;rw [adi] at this;omega⟩;exact .go { b with fs:=b.fs++[v] } j q1 o ⟨by simp;omega,by simp;omega,by simp;omega,by simp;omega,by simp;omega,j6,aez o1 af,o2,o3⟩ rfl rfl
theorem beh (po:ad0) (ht:TNum t) (h5:t.length<=100000) (V W:Bq) (X U:List PV):∀ (d O:Nat),O+d=16->∀ (o:Bq),o.length<=120->∀ (i:Nat) (ms es:List PV),i<=t.length->ms.length<=i->es.length<=i->(∀ x,x∈ms->ahb x)->(∀ x,x∈es->aeg x)->
 PN (d+1) t Sum.inl Sum.inr (λv j=>v.1.length<=j/\v.2.length<=j/\ms.length<=v.1.length/\(∀ x,x∈v.1->ahb x)/\(∀ x,x∈v.2->aeg x)) (λv j=>((t,j,V,W,(),(),(),X,U,v.1,v.2):Q0)) (msgS parV aae d o ms es (ts t i)) (λn=>G97 0 n ((),o,((O:Nat):Int),(t,(i:Int),V,W,(),(),(),X,U,ms,es))):=by
 have h0:=ht.toTOk
 intro d
 induction d with
 | zero=>
  intro O ha o ho i ms es hi hm he om oe
  have hd:decide (((O:Nat):Int)>=16)=true:=Ah (by omega)
  refine .er i 17 (t,(i:Int),V,W,(),(),(),X,U,ms,es) hi (by decide) rfl λn hn=>?_
  obtain ⟨m,rfl⟩:∃ m,n=m+1:=⟨n-1,by omega⟩
  simp only [G97,B97,hd,Ad]
 | succ d ih=>
  intro O ha o ho i ms es hi hm he om oe
  have hd:decide (((O:Nat):Int)>=16)=false:=Al (by omega)
  refine PN.shift (y:=λn=>B97 0 (G97 0 n) () o ((O:Nat):Int) (t,(i:Int),V,W,(),(),(),X,U,ms,es)) ?_ λn=>rfl
  simp only [B97,hd,Ae]
  unfold msgS
  refine PN.seq (ad9 [109,101,115,115,97,103,101] 1 (by decide) t h0 i hi (V,W,(),(),(),X,U,ms,es)).pg (λ_ j hj _ hx=>?_) (λp z=>⟨_,rfl⟩)
  have q1:=abg hi hj (aba _ _ _) hx
  refine PN.seq (aok o ho t h0 j hj V W X U ms es) (λH k hk M ah=>?_) (λp z=>⟨_,rfl⟩)
  have q2:=abg hj hk (ag3 _ _) ah
  have ec:∀ x:PV,decide (ms.length+[x].length<=aaf)=true:=λx=>accL (by simp;omega)
  simp only [ec,Ad]
  refine PN.seq (agf po t ht.toTNm k hk (V,W,(),(),(),X,U,ms++[ag2 H [] [] [] []],es)).pg (λaa l hl _ ad=>?_) (λp z=>⟨_,rfl⟩)
  have ag:=ae6 h5 ad
  have q3:=amk hk hl (ac7 parV aae _) ad
  refine PN.seq (ad9 [123] 4 (by decide) t h0 l hl (V,W,(),(),(),X,U,ms++[ag2 H [] [] [] []],es)).pg (λ_ m ab _ ai=>?_) (λp z=>⟨_,rfl⟩)
  have q4:=abg hl ab (aba _ _ _) ai
  simp only [aal]
  have lp:=PM.loop (step:=λn=>B97_9step 0 (G97 0 n)) (λi' b af hJ=>az7 po ht h5 (d+1) d O (by omega) (ms.length:Int) H M V W X U aa (λi2 aj ae h1 h2 h3 h4 h6=>ih (O+1) (by omega) H M i2 aj ae h1 h2 h3 h4 h6) i' b af (ms.length+1) hJ) t.length m ⟨[],[],[],ms++[ag2 H [] [] [] []],es⟩ (by omega) ab ⟨by simp,by simp,by simp,by simp;omega,show es.length<=m by omega,by simp,aeh,aez om ⟨Nat.zero_le _,aeh,Nat.zero_le _,Nat.zero_le _,Nat.zero_le _,aeh⟩,oe⟩
  refine PN.swap lp (λv n hn hv al=>?_) (λp z=>⟨_,rfl⟩)
  obtain ⟨g1,g2,g3,g4,g5,Y,p1,p2,p3⟩:=hv
  have Y:ms.length<v.ms.length:=Y
  have ak:ahb (ag2 H v.fs v.rs v.gs aa):=⟨show v.fs.length<=100000 by omega,p1,show v.rs.length<=100000 by omega,show v.gs.length<=100000 by omega,ag⟩
  have r0:aaa (ms.length:Int) v.ms.length=true:=by rw [aab];grind
  simp only [r0,Ad,Ag]
  exact .ok (v.ms.set ms.length (ag2 H v.fs v.rs v.gs aa),v.es) n hn ⟨by simp;exact g4,g5,by simp;omega,λx hx=>by rcases List.mem_or_eq_of_mem_set hx with hx | rfl;all_goals simp_all,p3⟩ rfl rfl
end
end Go.Ab
namespace Go.Ab
open Go
set_option maxRecDepth 100000
noncomputable section
section
variable {t:List PV}
theorem bcr (Z:ad0) (W:TNum t) (M:t.length<=100000) (m o:Bq) (H d:List PV) (i:Nat) (ms es:List PV) (U:i<=t.length) (V:ms.length<=i) (O:es.length<=i) (Y:∀ x,x∈ms->ahb x) (X:∀ x,x∈es->aeg x):
 PG t Sum.inl Sum.inr (λv j=>v.1.length<=j/\v.2.length<=j/\ms.length<=v.1.length/\(∀ x,x∈v.1->ahb x)/\(∀ x,x∈v.2->aeg x)) (λv j=>((t,j,m,o,(),(),(),H,d,v.1,v.2):Q0)) (msgS parV aae 16 [] ms es (ts t i)) (F97 0 () [] (0:Int) (t,(i:Int),m,o,(),(),(),H,d,ms,es)):=
 (beh Z W M m o H d 16 0 (by omega) [] (by simp) i ms es U V O Y X).pg λz h=>ali 17 h
theorem aww (U:TOk t) (h5:t.length<=100000) (d m:Bq) (o ms es:List PV) (i:Nat) (M:i<=t.length):
 PG t Sum.inr Sum.inl (λv j=>v.length<=j) (λv (j:Int)=>((),((t,j,d,m,(),(),(),o,v,ms,es):Q0))) (ac4 (ts t i) []) (aaz (S44_4step 0) ((),(t,(i:Int),d,m,(),(),(),o,[],ms,es))):=by
 refine PL.loop (t:=t) (st:=λ(b:List PV) (j:Int)=>((),((t,j,d,m,(),(),(),o,b,ms,es):Q0))) (spec:=λl b=>ac4 l b) (J:=λb j=>b.length<=j) (step:=S44_4step 0) (λi b M Y=>?_) t.length i [] (by omega) M (by simp)
 have X:∀ x:PV,decide (b.length+[x].length<=aaf)=true:=λx=>accL (by simp;omega)
 show PL t _ _ _ _ _ _ _ i (ac4 (ts t i) b) _
 rw [ald]
 simp only [S44_4step,S44_4]
 refine PL.may U [105,109,112,111,114,116] 1 (by decide) i M (d,m,(),(),(),o,b,ms,es) (λ_ H=>?_) (λ_=>?_)
 ·simp only [Ad,aao];refine PL.seq (agr t U (i+1) H (d,m,(),(),(),o,b,ms,es)).pg (λs j O _ Z=>?_) (λp z=>⟨_,rfl⟩);have q1:=abg H O (adn _) Z;simp only [X,Ad];refine PL.seq (ad9 [59] 4 (by decide) t U j O (d,m,(),(),(),o,b++[PV.str s],ms,es)).pg (λ_ k W _ V=>?_) (λp z=>⟨_,rfl⟩);have q2:=abg O W (aba _ _ _) V;exact .go (b++[PV.str s]) k (by omega) W (by simp;omega) rfl rfl
 ·simp only [Ae];exact .done b i M Y rfl rfl
def FBok (b:FB) (j:Nat):Prop:=b.ms.length<=j/\b.es.length<=j/\b.ss.length<=j/\(∀ x,x∈b.ms->ahb x)/\(∀ x,x∈b.es->aeg x)/\(∀ x,x∈b.ss->atn x)
theorem a8q (po:ad0) (Y:TNum t) (h5:t.length<=100000) (O U:Bq) (M:List PV) (i:Nat) (m:i<=t.length):
 PG t Sum.inr Sum.inl FBok (λ(v:FB) (j:Int)=>((t,j,O,U,(),(),(),v.ss,M,v.ms,v.es):Q0)) (afs parV aae (ts t i) ⟨[],[],[]⟩) (aaz (S44_7step 0) ((),(t,(i:Int),O,U,(),(),(),[],M,[],[]))):=by
 have h0:=Y.toTOk
 refine PL.loop (t:=t) (st:=λ(b:FB) (j:Int)=>((),((t,j,O,U,(),(),(),b.ss,M,b.ms,b.es):Q0))) (spec:=λl b=>afs parV aae l b) (J:=FBok) (step:=S44_7step 0) (λi b m hJ=>?_) t.length i ⟨[],[],[]⟩ (by omega) m ⟨by simp,by simp,by simp,aeh,aeh,aeh⟩
 obtain ⟨j1,j2,j3,Z,o2,o3⟩:=hJ
 show PL t _ _ _ _ _ _ _ i (afs parV aae (ts t i) b) _
 rw [awh,amv]
 simp only [S44_7step,S44_7]
 by_cases aa:i<t.length
 ·have d:decide ((i:Int)<(t.length:Int))=true:=Ah (by omega);have V:(ts t i).isEmpty=false:=by grind [ad7]
  rw [d,V];simp only [Ad,Ae];refine PL.sign h0 [109,101,115,115,97,103,101] 1 (by decide) i m (O,U,(),(),(),b.ss,M,b.ms,b.es) (λ_=>?_) (λ_=>?_)
  ·simp only [Ad];refine PL.seq (bcr po Y h5 O U b.ss M i b.ms b.es m j1 j2 Z o2) (λv j o hv W=>?_) (λp z=>⟨_,rfl⟩);have X:=abg m o (ah9 parV aae 16 _ _ _ _) W;exact .go { b with ms:=v.1,es:=v.2 } j X o ⟨hv.1,hv.2.1,by simp;omega,hv.2.2.2.1,hv.2.2.2.2,o3⟩ rfl rfl
  simp only [Ae];refine PL.sign h0 [101,110,117,109] 1 (by decide) i m (O,U,(),(),(),b.ss,M,b.ms,b.es) (λ_=>?_) (λ_=>?_)
  ·simp only [Am,Ae,Ad];refine PL.seq (amx po Y h5 [] (by simp) i m O U b.ss M b.ms b.es (by omega)) (λv j o H W=>?_) (λp z=>⟨_,rfl⟩);have X:=abg m o (aft parV aae _ _) W;exact .go { b with es:=b.es++[v] } j X o ⟨by simp;omega,by simp;omega,by simp;omega,Z,aez o2 H,o3⟩ rfl rfl
  simp only [Aj,Ad,Ae];refine PL.sign h0 [111,112,101,110] 1 (by decide) i m (O,U,(),(),(),b.ss,M,b.ms,b.es) (λ_=>?_) (λ_=>?_)
  ·simp only [Ad];refine PL.seq (amx po Y h5 [] (by simp) i m O U b.ss M b.ms b.es (by omega)) (λv j o H W=>?_) (λp z=>⟨_,rfl⟩);have X:=abg m o (aft parV aae _ _) W;exact .go { b with es:=b.es++[v] } j X o ⟨by simp;omega,by simp;omega,by simp;omega,Z,aez o2 H,o3⟩ rfl rfl
  ·simp only [Ae];refine PL.seq (bde po Y h5 i m O U b.ss M b.ms b.es (by omega)) (λv j o H W=>?_) (λp z=>⟨_,rfl⟩);have X:=abg m o (a7e parV aae _) W;exact .go { b with ss:=b.ss++[v] } j X o ⟨by simp;omega,by simp;omega,by simp;omega,Z,o2,aez o3 H⟩ rfl rfl
 ·have d:decide ((i:Int)<(t.length:Int))=false:=Al (by omega);have V:(ts t i).isEmpty=true:=by grind [afp]
  rw [d,V];simp only [Ad,Ae];exact .done b i m ⟨j1,j2,j3,Z,o2,o3⟩ rfl rfl
def amd (l:List Tk):Rs (Bq×List PV×FB):=(avj l).bind λz r=>(ac4 r []).bind λd m=>(afs parV aae m ⟨[],[],[]⟩).bind λb o=>.ok (z,d,b) o
theorem alb (d:Bq) (l:List Tk):bcg parV aae d l=(amd l).bind λv r=>.ok (PV.agg [PV.str d,PV.str v.1,PV.slice v.2.1,PV.slice v.2.2.ms,PV.slice v.2.2.es,PV.slice v.2.2.ss]) r:=by unfold bcg amd;simp only [Rs.bind_assoc,Rs.bind_ok]
def a2p (n:Nat) (v:Bq×List PV×FB) (j:Nat):Prop:=v.2.1.length<=n/\FBok v.2.2 n
theorem fb_le {b:FB}{j n:Nat} (h:FBok b j) (d:j<=n):FBok b n:=⟨Nat.le_trans h.1 d,Nat.le_trans h.2.1 d,Nat.le_trans h.2.2.1 d,h.2.2.2⟩
theorem aud (po:ad0) (ht:TNum t) (X:t.length<=100000) (o d:Bq) (i:Nat) (hi:i<=t.length):
 PG t Sum.inl Sum.inr (a2p t.length) (λ(v:Bq×List PV×FB) (j:Int)=>((t,j,o,v.1,(),(),(),v.2.2.ss,v.2.1,v.2.2.ms,v.2.2.es):Q0)) ((ac4 (ts t i) []).bind λm r2=>(afs parV aae r2 ⟨[],[],[]⟩).bind λb r3=>.ok (d,m,b) r3)
  ((aaz (S44_4step 0) ((),(t,(i:Int),o,d,(),(),(),[],[],[],[]))).bind λz=>sumE (λO=>some (.inr O)) (λU=>(aaz (S44_7step 0) ((),U.2)).bind λz=>sumE (λV=>some (.inr V)) (λW=>some (.inl W)) z) z):=by
 refine PG.swap (aww ht.toTOk X o d [] [] [] i hi) (λm j Y M _=>?_) (λp z=>⟨_,rfl⟩)
 refine PG.swap (a8q po ht X o d m j Y) (λb k Z H _=>?_) (λp z=>⟨_,rfl⟩)
 exact .ok (d,m,b) k Z ⟨Nat.le_trans M Y,fb_le H Z⟩ rfl rfl
theorem ayu (V:ad0) (H:TNum t) (O:t.length<=100000) (d:Bq):
 PG t Sum.inl Sum.inr (a2p t.length) (λ(v:Bq×List PV×FB) (j:Int)=>((t,j,d,v.1,(),(),(),v.2.2.ss,v.2.1,v.2.2.ms,v.2.2.es):Q0)) (amd (ts t 0)) (F44 0 () (t,(0:Int),d,[],(),(),(),[],[],[],[])):=by
 have m:=H.toTOk
 unfold F44 amd avj
 rw [show (0:Int)=((0:Nat):Int) from rfl,alk [115,112,97,99,101] 1 (by decide) t m 0 (by omega) (d,[],(),(),(),[],[],[],[]),Aa]
 simp only [aal]
 cases h:isS 1 [115,112,97,99,101] (ts t 0) with
 | true=>
  simp only [Ad,Rs.bind_assoc,Rs.bind_ok,aao]
  refine PG.seq (bax t m 1 (abl h) (d,[],(),(),(),[],[],[],[])).pg (λM j o _ _=>?_) (λp z=>⟨_,rfl⟩)
  refine PG.seq (ad9 [59] 4 (by decide) t m j o (d,M,(),(),(),[],[],[],[])).pg (λ_ k U _ _=>?_) (λp z=>⟨_,rfl⟩)
  grind [aud]
 | false=>
  simp only [Ae,Rs.bind_ok]
  grind [aud]
end
def atf:PV:=PV.agg [PV.str [],PV.str [],PV.slice [],PV.slice [],PV.slice [],PV.slice []]
def a5b (xs:List PV) (j:Nat):Int:=((xs.getD (if xs.length-1<j then xs.length-1 else j) .bad).fld 3).asInt
def awo (d:Bq) (xs:List PV):PV×Int×Int:=
 match bcg parV aae d (ts xs 0) with
 | .ok v _=>(v,0,0)
 | .er r e=>(atf,a5b xs (xs.length-r.length),e)
theorem au0:∃ v,amd []=.ok v []:=by refine ⟨([],[],⟨[],[],[]⟩),?_⟩;unfold amd avj;rw [show isS 1 [115,112,97,99,101] []=false from rfl,Ae,Rs.bind_ok,ald,show isS 1 [105,109,112,111,114,116] []=false from rfl,Ae,Rs.bind_ok,awh];rfl
def avu (v:PV):Prop:=(v.fld 2).asList.length<=100000/\(v.fld 3).asList.length<=100000/\(v.fld 4).asList.length<=100000/\(v.fld 5).asList.length<=100000/\(∀ x,x∈(v.fld 3).asList->ahb x)/\(∀ x,x∈(v.fld 4).asList->aeg x)/\(∀ x,x∈(v.fld 5).asList->atn x)
theorem apd:avu atf:=⟨Nat.zero_le _,Nat.zero_le _,Nat.zero_le _,Nat.zero_le _,aeh,aeh,aeh⟩
theorem a8u (X:ad0) (d:Bq) (xs:List PV) (V:TNum xs) (o:xs.length<=100000):avu (awo d xs).1:=by
 unfold awo;rw [alb];rcases ayu X V o d with ⟨v,j,U,⟨Y,Z,h3,h4,H,M,O⟩,m,W⟩ | ⟨j,e,z,U,he,m,W⟩
 ·rw [m];exact ⟨show v.2.1.length<=_ by omega,show v.2.2.ms.length<=_ by omega,show v.2.2.es.length<=_ by omega,show v.2.2.ss.length<=_ by omega,H,M,O⟩
 ·rw [m];exact apd
theorem auy (po:ad0) (d m:Bq) (xs:List PV) (l0:Int) (hs:F28 0 m=some (xs,l0,0)) (ht:TNum xs) (Z:xs.length<=100000):F15 0 d m=some (awo d xs):=by
 unfold F15 awo;rw [hs,Aa,alb];simp only [show ((0:Int) != 0)=false from rfl,Ae];unfold F43;rcases ayu po ht Z d with ⟨v,j,hj,_,o,H⟩ | ⟨j,e,z,hj,M,o,H⟩
 ·rw [H,o,Rs.bind_ok];rfl
 ·rw [H,o,Rs.bind_er];have aa:0<xs.length:=by
   grind [Nat.eq_zero_or_pos,afp,au0]
  have w:IntKind.wrap .i64 ((xs.length:Int)-1)=((xs.length-1:Nat):Int):=by grind [abi]
  have O:((((PV.agg [PV.int ((j:Nat):Int),PV.int e]).fld 1).asInt) != (0:Int))=true:=bneI M;have U:((PV.agg [PV.int ((j:Nat):Int),PV.int e]).fld 0).asInt=(j:Int):=rfl;have V:((PV.agg [PV.int ((j:Nat):Int),PV.int e]).fld 1).asInt=e:=rfl;have W:(if ((xs.length-1:Nat):Int)<(j:Int) then ((xs.length-1:Nat):Int) else (j:Int))=((if xs.length-1<j then xs.length-1 else j:Nat):Int):=by grind
  have X:aaa ((if xs.length-1<j then xs.length-1 else j:Nat):Int) xs.length=true:=by grind [aab,decide_eq_true]
  have Y:xs.length-(ts xs j).length=j:=by rw [adi];omega
  simp only [Aa,aa7,O,U,V,w,W,X,Ad,Ag,Y,bneI M];rfl
end
end Go.Ab
namespace Go.Ab
open Go
set_option maxRecDepth 100000
noncomputable section
def spC (c:UInt8):Bool:=c==32||c==9||c==13||c==10
def af8:Bq->Bool
 | 47::47::_=>true
 | _=>false
def ao3 (c:UInt8) (r:Bq):Int:=
 bif spC c then 1 else bif af8 (c::r) then 2 else bif ady c r then 3 else bif digC c then 4 else bif c==34 then 5 else bif aig c then 6 else 0
theorem pre47 (r:Bq):F230 0 (47::r) ([47,47]:Bq)=some (af8 (47::r)):=by
 unfold F230 F297;have e:((([47,47]:Bq).length:Nat):Int)=(2:Int):=rfl;simp only [e];cases r with
 | nil=>rfl
 | cons d r=>
  have z:decide (((47::d::r:Bq).length:Int)>=2)=true:=Ah (by simp only [Ao];omega);have H:decide ((0:Int)<=0/\(0:Int)<=2/\(2:Int)<=((47::d::r:Bq).length:Int))=true:=Ah (by simp only [Ao];omega);have M:(((47::d::r:Bq).take (2:Int).toNat).drop (0:Int).toNat==([47,47]:Bq))=af8 (47::d::r):=by
   show ([47,d]==([47,47]:Bq))=_;by_cases o:d=47
   ·subst o;rfl
   ·have:af8 (47::d::r)=false:=by
     unfold af8;split
     ·rename_i m;simp only [List.cons.injEq] at m;exact absurd m.2.1 o
     ·rfl
    rw [this,At];intro q;simp only [List.cons.injEq] at q;exact o q.2.1
  simp only [z,H,M,imp,Ad,Aa]
theorem a86 {c:UInt8} (r:Bq) (h:c≠47):af8 (c::r)=false:=by
 unfold af8;split
 ·rename_i d;simp only [List.cons.injEq] at d;exact absurd d.1 h
 ·rfl
theorem a63 {c:UInt8} (h:spC c=false):c≠32/\c≠9/\c≠13/\c≠10:=by unfold spC at h;simp only [Bool.or_eq_false_iff,At] at h;exact ⟨h.1.1.1,h.1.1.2,h.1.2,h.2⟩
theorem ak5 (c:UInt8) (r:Bq):F123 0 (c::r)=some (ao3 c r):=by
 unfold ao3;cases m:spC c with
 | true=>have o:(c::r).getD (0:Int).toNat 0=c:=rfl;unfold F123;simp only [in0,o,Ad,bqI (c:=c) (k:=32) (n:=32) rfl,bqI (c:=c) (k:=9) (n:=9) rfl,bqI (c:=c) (k:=13) (n:=13) rfl,bqI (c:=c) (k:=10) (n:=10) rfl];unfold spC at m;cases O:(c==32)<;>cases U:(c==9)<;>cases V:(c==13)<;>cases W:(c==10)<;>first | rfl | (rw [O,U,V,W] at m;cases m)
 | false=>
  obtain ⟨n1,n2,n3,n4⟩:=a63 m;simp only [Ae];by_cases d:c=47
  ·subst d;have H:(((47::r:Bq).take (1:Int).toNat).drop (0:Int).toNat)=[47]:=rfl;have M:decide ((0:Int)<=(0:Int)/\(0:Int)<=(1:Int)/\(1:Int)<=((47::r:Bq).length:Int))=true:=Ah (by simp only [Ao];omega);have o:(47::r:Bq).getD (0:Int).toNat 0=47:=rfl;have X:(((47:UInt8).toNat:Int)==(32:Int))=false:=rfl;have Y:(((47:UInt8).toNat:Int)==(9:Int))=false:=rfl;have Z:(((47:UInt8).toNat:Int)==(13:Int))=false:=rfl;have k4:(((47:UInt8).toNat:Int)==(10:Int))=false:=rfl;have k5:(((47:UInt8).toNat:Int)==(46:Int))=false:=rfl;have k6:(((47:UInt8).toNat:Int)==(34:Int))=false:=rfl;have z:letB 47=false:=by decide
   have l2:digC 47=false:=by decide
   have l3:aig 47=false:=by decide
   have l4:ady 47 r=false:=by unfold ady;rw [z];rfl
   unfold F123;simp only [in0,H,M,o,Ad,X,Y,Z,k4,k5,k6,Ae,pre47,Aa,agc,aj8,a6z,z,l2,l3,l4,imp,Aj,Bool.true_or,Bool.or_true,aag];cases af8 (47::r)<;>rfl
  ·rw [bau c r ⟨n1,n2,n3,n4,d⟩,a86 r d];rfl
def skipS:Bool->Bq->Nat
 | _,[]=>0
 | true,c::r=>bif c==10 then skipS false r+1 else skipS true r+1
 | false,c::r=>bif spC c then skipS false r+1 else bif af8 (c::r) then skipS true r+1 else 0
theorem as1:∀ (s:Bq) (b:Bool),skipS b s<=s.length:=by
 intro s;induction s with
 | nil=>intro b;cases b<;>exact Nat.le_refl _
 | cons c r d=>
  intro b;have m:=d true;have o:=d false;cases b
  ·simp only [skipS,Ao];cases spC c<;>cases af8 (c::r)<;>simp only [Ad,Ae]<;>omega
  ·simp only [skipS,Ao];cases (c==10)<;>simp only [Ad,Ae]<;>omega
def ne10 (c:UInt8):Bool:=!(c==10)
theorem avg:∀ s:Bq,skipS true s=runN ne10 s+skipS false (s.drop (runN ne10 s)):=by
 intro s;induction s with
 | nil=>rfl
 | cons c r d=>
  rw [acz];unfold ne10;cases h:(c==10) with
  | true=>have e:c=10:=eq_of_beq h;subst e;simp [skipS,spC]
  | false=>simp only [skipS,h,Ae,Aj,A6,List.drop_succ_cons];rw [d];unfold ne10;omega
theorem bar (c:UInt8):F125 0 (c.toNat:Int)=some (ne10 c):=by unfold F125 ne10;show some (!((c.toNat:Int)==10))=_;rw [bqI (c:=c) (k:=10) (n:=10) rfl]
theorem beu (s:Bq) (m:s.length<=1048576):F124 0 s ()=some ((runN ne10 s:Nat):Int):=by
 have h:=asu (p:=ne10) (step:=S124_3step 0) s (λi d=>by
  simp only [S124_3step,S124_3,abh,d,decide_true,aab,imp,Ad,Ag,bar,Aa,Am,Bool.false_or,Bool.true_or,aa9 (show i<=9223372036854775000 by omega)];cases ne10 (s.getD i 0)<;>rfl) (by
  simp only [S124_3step,S124_3,abh,Nat.lt_irrefl,decide_false,aab,imp,Ae,Aj,Bool.true_or,Ad,Aa]) s.length 0 (by omega) (by omega)
 unfold F124;rw [aal,show (0:Int)=((0:Nat):Int) from rfl,h,A1,Nat.zero_add];rfl
theorem as4 {c:UInt8}{r:Bq}:(ao3 c r==1)=spC c:=by
 unfold ao3;cases spC c with
 | true=>rfl
 | false=>cases af8 (c::r)<;>cases ady c r<;>cases digC c<;>cases (c==34)<;>cases aig c<;>rfl
theorem azp {c:UInt8}{r:Bq} (h:spC c=false):(ao3 c r==2)=af8 (c::r):=by unfold ao3;rw [h];cases af8 (c::r)<;>cases ady c r<;>cases digC c<;>cases (c==34)<;>cases aig c<;>rfl
theorem a1z (d:Bq) (hl:d.length<=1048576):∀ (m i:Nat),d.length-i<=m->i<=d.length->∃ z,aaz (S59_3step 0) (d,(i:Int))=some z/\(z=.inl ((i+skipS false (d.drop i):Nat):Int)\/z=.inr ((i+skipS false (d.drop i):Nat):Int)):=by
 intro m;induction m with
 | zero=>intro i hm W;have H:decide ((i:Int)<(d.length:Int))=false:=Al (by omega);rw [Aq (by omega)];exact ⟨.inr (i:Int),aac (by simp only [S59_3step,S59_3,H,Ae]),Or.inr rfl⟩
 | succ m ih=>
  intro i hm W;by_cases M:i<d.length
  ·have H:decide ((i:Int)<(d.length:Int))=true:=Ah (by omega);rw [aaj M 0];obtain ⟨c,hc⟩:∃ c,d.getD i 0=c:=⟨_,rfl⟩;have U:d.drop i=c::d.drop (i+1):=by rw [aaj M 0,hc]
   rw [hc];cases o:spC c with
   | true=>
    obtain ⟨z,X,Y⟩:=ih (i+1) (by omega) (by omega);have st:S59_3step 0 (d,(i:Int))=some (.inl (d,((i+1:Nat):Int))):=by simp only [S59_3step,S59_3,H,ao0 d W,Ad,aih,U,ak5,as4,o,Aa,aa9 (show i<=9223372036854775000 by omega)]
    refine ⟨z,by rw [aan st,X],?_⟩;simp only [skipS,o,Ad];rw [show i+(skipS false (d.drop (i+1))+1)=i+1+skipS false (d.drop (i+1)) by omega];exact Y
   | false=>
    cases V:af8 (c::d.drop (i+1)) with
    | true=>
     have hn:c≠10:=(a63 o).2.2.2;have aa:ne10 c=true:=by unfold ne10;rw [At.2 hn];rfl
     have hr:runN ne10 (d.drop i)=runN ne10 (d.drop (i+1))+1:=by rw [U,acz,if_pos aa]
     have Z:=aid ne10 (d.drop i);rw [Ar] at Z;obtain ⟨z,X,Y⟩:=ih (i+runN ne10 (d.drop i)) (by omega) (by omega);have O:=beu (d.drop i) (by rw [Ar];omega);have w:IntKind.wrap .i64 ((i:Int)+((runN ne10 (d.drop i):Nat):Int))=((i+runN ne10 (d.drop i):Nat):Int):=by rw [abi (by omega) (by omega)];omega
     have st:S59_3step 0 (d,(i:Int))=some (.inl (d,((i+runN ne10 (d.drop i):Nat):Int))):=by rw [<-w];simp only [S59_3step,S59_3,H,ao0 d W,Ad,aih,O,Aa];rw [U];simp only [ak5,as4,azp o,o,V,Aa,Ad,Ae]
     refine ⟨z,by rw [aan st,X],?_⟩;have ab:skipS false (c::d.drop (i+1))=runN ne10 (d.drop i)+skipS false (d.drop (i+runN ne10 (d.drop i))):=by simp only [skipS,o,V,Ad,Ae];rw [avg,A8,hr];rw [show i+1+runN ne10 (d.drop (i+1))=i+(runN ne10 (d.drop (i+1))+1) by omega];omega
     rw [ab,<-Nat.add_assoc];exact Y
    | false=>
     refine ⟨.inl (i:Int),aac ?_,?_⟩
     ·simp only [S59_3step,S59_3,H,ao0 d W,Ad,aih,U,ak5,as4,azp o,o,V,Aa,Ae]
     ·simp [skipS,o,V]
  ·have H:decide ((i:Int)<(d.length:Int))=false:=Al (by omega);rw [Aq (by omega)];exact ⟨.inr (i:Int),aac (by simp only [S59_3step,S59_3,H,Ae]),Or.inr rfl⟩
theorem bas (s:Bq) (o:s.length<=1048576):F59 0 s=some ((skipS false s:Nat):Int):=by obtain ⟨z,m,d⟩:=a1z s o s.length 0 (by omega) (by omega);rw [A1,Nat.zero_add] at d;unfold F59;rw [aal,show (0:Int)=((0:Nat):Int) from rfl,m];rcases d with rfl | rfl<;>rfl
theorem aqu:∀ (s:Bq) (b:Bool) (c:UInt8) (r:Bq),s.drop (skipS b s)=c::r->spC c=false/\af8 (c::r)=false:=by
 intro s;induction s with
 | nil=>intro b c r h;cases b<;>simp at h
 | cons a s d=>
  intro b c r h;cases b with
  | true=>
   simp only [skipS] at h;cases z:(a==10)<;>simp only [z,Ad,Ae,List.drop_succ_cons] at h
   ·exact d true c r h
   ·exact d false c r h
  | false=>
   simp only [skipS] at h;cases o:spC a<;>simp only [o,Ad,Ae] at h
   ·cases m:af8 (a::s)<;>simp only [m,Ad,Ae,List.drop_succ_cons,A1] at h
    ·simp only [List.cons.injEq] at h;obtain ⟨rfl,rfl⟩:=h;exact ⟨o,m⟩
    ·exact d true c r h
   ·exact d false c r (by simpa using h)
end
end Go.Ab
namespace Go.Ab
open Go
set_option maxRecDepth 100000
noncomputable section
theorem bbe:∀ l:Bq,eat l<=l.length:=by
 intro l;induction l with
 | nil=>exact Nat.le_refl _
 | cons c r d=>
  rw [aek];split
  ·simp;omega
  ·split
   ·split
    ·split<;>simp<;>omega
    ·omega
   ·omega
def aeb:Bq->Nat
 | []=>0
 | c::r=>bif c==46 then eat r+1 else eat (c::r)
theorem ar6 (s:Bq):aeb s<=s.length:=by
 cases s with
 | nil=>exact Nat.le_refl _
 | cons c r=>have d:=bbe r;have m:=bbe (c::r);simp only [aeb,Ao] at*;cases (c==46)<;>simp only [Ad,Ae]<;>omega
theorem aw9 (c:UInt8) (r:Bq) (d:(c::r).length<=1048576):F234 0 (c::r)=some ((aeb (c::r):Nat):Int):=by
 unfold F234;have m:(c::r).getD (0:Int).toNat 0=c:=rfl;simp only [in0,m,Ad,bqI (c:=c) (k:=46) (n:=46) rfl,aeb];cases o:(c==46) with
 | true=>have h:=ama (c::r) d (c::r).length 1 (by omega) (by simp);simp only [Ad,aal];rw [show (1:Int)=((1:Nat):Int) from rfl,h];show some (((1+eat r:Nat):Nat):Int)=_;rw [Nat.add_comm]
 | false=>have h:=ama (c::r) d (c::r).length 0 (by omega) (by omega);simp only [Ae,aal];rw [show (0:Int)=((0:Nat):Int) from rfl,h,A1,Nat.zero_add];rfl
def aoj (s:Bq):(Tk×Nat)⊕Int:=bif aik (s.take (aeb s)) then .inl (⟨1,s.take (aeb s),0⟩,aeb s) else .inr 8
def arw (s:Bq):(Tk×Nat)⊕Int:=
 bif (decide (1<runN digC s)&&s.getD 0 0==48)||(decide (runN digC s<s.length)&&alnB (s.getD (runN digC s) 0)) then .inr 2
 else bif (abu (Lib.parseUintB 64 (s.take (runN digC s)))).2 then .inl (⟨2,[],IntKind.wrap .i64 (abu (Lib.parseUintB 64 (s.take (runN digC s)))).1⟩,runN digC s) else .inr 6
def unqV (s:Bq):Bq×Int×Int:=(F131 0 s).getD ([],0,2)
def a1f (s:Bq):(Tk×Nat)⊕Int:=bif (unqV s).2.2==0 then .inl (⟨3,(unqV s).1,0⟩,(unqV s).2.1.toNat) else .inr 2
def amr:Bq->(Tk×Nat)⊕Int
 | []=>.inr 2
 | c::r=>bif ady c r then aoj (c::r) else bif digC c then arw (c::r) else bif c==34 then a1f (c::r) else bif aig c then .inl (⟨4,[c],0⟩,1) else .inr 2
inductive RdOk (y:Option (PV×Int×Int)):(Tk×Nat)⊕Int->Prop
 | ok (k:Tk) (n:Nat):y=some (PV.agg [PV.int k.k,PV.str k.s,PV.int k.n,PV.int 0],(n:Int),0)->RdOk y (.inl (k,n))
 | er (e:Int) (v:PV) (m:Int):e≠0->y=some (v,m,e)->RdOk y (.inr e)
theorem a6j {x:(Tk×Nat)⊕Int} (h:RdOk none x):False:=by
 cases h with
 | ok k n h=>cases h
 | er e v m d h=>cases h
theorem ai2 (c:UInt8) (r:Bq):amr (c::r)=bif ady c r then aoj (c::r) else bif digC c then arw (c::r) else bif c==34 then a1f (c::r) else bif aig c then .inl (⟨4,[c],0⟩,1) else .inr 2:=rfl
theorem a5m (c:UInt8) (r:Bq) (O:(c::r).length<=1048576):RdOk (F129 0 (c::r)) (aoj (c::r)):=by
 have U:=ar6 (c::r);have o:decide ((0:Int)<=(0:Int)/\(0:Int)<=((aeb (c::r):Nat):Int)/\((aeb (c::r):Nat):Int)<=((c::r).length:Int))=true:=Ah (by omega);have z:((c::r).take ((aeb (c::r):Nat):Int).toNat).drop (0:Int).toNat=(c::r).take (aeb (c::r)):=by rw [Ag];rfl
 obtain ⟨y,H,M⟩:=a7j ((c::r).take (aeb (c::r))) (by rw [List.length_take];omega);have d:F129 0 (c::r)=bif !aik ((c::r).take (aeb (c::r))) then some (PV.agg [PV.int 0,PV.str [],PV.int 0,PV.int 0],0,8) else some (PV.agg [PV.int 1,PV.str ((c::r).take (aeb (c::r))),PV.int 0,PV.int 0],((aeb (c::r):Nat):Int),0):=by unfold F129;simp only [aw9 c r O,Aa,o,z,Ad,H,M]
 unfold aoj;cases m:aik ((c::r).take (aeb (c::r))) with
 | true=>rw [m] at d;exact .ok _ _ d
 | false=>rw [m] at d;exact .er _ _ _ (by decide) d
theorem a9g (c:UInt8) (r:Bq) (U:(c::r).length<=1048576):RdOk (F130 0 (c::r)) (arw (c::r)):=by
 have d:=aid digC (c::r);have z:=a6r (c::r) U;obtain ⟨n,V⟩:∃ n,runN digC (c::r)=n:=⟨_,rfl⟩;unfold arw;rw [V] at d z ⊢;have M:decide ((0:Int)<=(0:Int)/\(0:Int)<=(n:Int)/\(n:Int)<=((c::r).length:Int))=true:=Ah (by omega);have O:((c::r).take n).drop (0:Int).toNat=(c::r).take n:=rfl;have X:decide ((n:Int)>(1:Int))=decide (1<n):=decide_eq_decide.2 (by omega);have Z:decide ((n:Int)<((c::r).length:Int))=decide (n<(c::r).length):=decide_eq_decide.2 (by omega);have Y:((((c::r).getD (0:Int).toNat 0).toNat:Int)==(48:Int))=((c::r).getD 0 0==48):=bqI (k:=48) rfl;have W:=agz ((c::r).take n) (by rw [List.length_take];omega);have key:F130 0 (c::r)=bif (decide (1<n)&&(c::r).getD 0 0==48)||(decide (n<(c::r).length)&&alnB ((c::r).getD n 0)) then some (PV.agg [PV.int 0,PV.str [],PV.int 0,PV.int 0],0,2)
  else bif !(abu (Lib.parseUintB 64 ((c::r).take n))).2 then some (PV.agg [PV.int 0,PV.str [],PV.int 0,PV.int 0],0,6) else some (PV.agg [PV.int 2,PV.str [],PV.int (IntKind.wrap .i64 (abu (Lib.parseUintB 64 ((c::r).take n))).1),PV.int 0],(n:Int),0):=by
  unfold F130
  simp only [z,Aa,X,Z,Y,in0,aab,imp,Bool.true_or,Bool.or_true,aag,Ad,Ag,a4g,M,O,W]
  by_cases o:n<(c::r).length
  ·simp only [o,decide_true,Bool.true_and,Ad,Bool.true_or,Bool.or_true];cases decide (1<n)<;>cases ((c::r).getD 0 0==48)<;>cases alnB ((c::r).getD n 0)<;>rfl
  ·simp only [o,decide_false,Bool.false_and,Ae,aag,Aj,Bool.true_or,Ad];cases decide (1<n)<;>cases ((c::r).getD 0 0==48)<;>rfl
 cases m:(decide (1<n)&&(c::r).getD 0 0==48)||(decide (n<(c::r).length)&&alnB ((c::r).getD n 0)) with
 | true=>rw [m] at key;exact .er _ _ _ (by decide) key
 | false=>
  rw [m] at key;cases H:(abu (Lib.parseUintB 64 ((c::r).take n))).2 with
  | true=>rw [H] at key;exact .ok _ _ key
  | false=>rw [H] at key;exact .er _ _ _ (by decide) key
theorem azg (c:UInt8) (r:Bq) (o:(c::r).length<=1048576) (H:spC c=false) (z:af8 (c::r)=false):RdOk (F61 0 (c::r)) (amr (c::r)):=by
 have m:=ak5 c r;unfold ao3 at m;rw [H,z,Ae,Ae] at m;rw [ai2];unfold F61;rw [m,Aa];cases M:ady c r with
 | true=>
  simp only [Ad,show ((3:Int)==3)=true from rfl];have h:=a5m c r o;cases d:F129 0 (c::r) with
  | none=>rw [d] at h;exact (a6j h).elim
  | some y=>rw [d] at h;rw [Aa];exact h
 | false=>
  cases O:digC c with
  | true=>
   simp only [Ad,Ae,show ((4:Int)==3)=false from rfl,show ((4:Int)==4)=true from rfl];have h:=a9g c r o;cases d:F130 0 (c::r) with
   | none=>rw [d] at h;exact (a6j h).elim
   | some y=>rw [d] at h;rw [Aa];exact h
  | false=>
   cases U:(c==34) with
   | true=>
    simp only [Ad,Ae,show ((5:Int)==3)=false from rfl,show ((5:Int)==4)=false from rfl,show ((5:Int)==5)=true from rfl];unfold a1f unqV;rcases ajz (c::r) o with ⟨a,q,W,d⟩ | ⟨_,d⟩
    ·rw [d];exact .ok ⟨3,a,0⟩ (aa4 a).length rfl
    ·rw [d];exact .er 2 _ _ (by decide) rfl
   | false=>
    cases V:aig c with
    | true=>have e:decide ((0:Int)<=(0:Int)/\(0:Int)<=(1:Int)/\(1:Int)<=((c::r).length:Int))=true:=Ah (by simp only [Ao];omega);simp only [Ad,Ae,show ((6:Int)==3)=false from rfl,show ((6:Int)==4)=false from rfl,show ((6:Int)==5)=false from rfl,show ((6:Int)==6)=true from rfl,e];exact .ok ⟨4,[c],0⟩ 1 rfl
    | false=>exact .er 2 _ _ (by decide) rfl
def WfTk (k:Tk):Prop:=(k.k=1/\aik k.s=true/\k.n=0)\/(k.k=2/\k.s=[]/\∃ u:Nat,u<18446744073709551616/\k.n=IntKind.wrap .i64 (u:Int))\/(k.k=3/\k.n=0)\/(k.k=4/\k.n=0/\∃ c,k.s=[c]/\aig c=true)
theorem a5z {l:Bq}{u:Nat} (h:Lib.parseUintB 64 l=.ok u):u<18446744073709551616:=by have:=Lib.parseUintB_le h;omega
theorem am5 {c:UInt8}{r:Bq} (hl:(c::r).length<=1048576) {k:Tk}{n:Nat} (h:amr (c::r)=.inl (k,n)):1<=n/\n<=(c::r).length/\WfTk k/\k.s.length<=(c::r).length:=by
 rw [ai2] at h;cases m:ady c r with
 | true=>
  rw [m] at h;simp only [Ad] at h;unfold aoj at h;cases O:aik ((c::r).take (aeb (c::r)))<;>rw [O] at h<;>simp only [Ad,Ae] at h<;>cases h;have d:=ar6 (c::r);refine ⟨?_,d,Or.inl ⟨rfl,O,rfl⟩,by simp only [List.length_take];omega⟩;rcases Nat.eq_zero_or_pos (aeb (c::r)) with U | U
  ·rw [U,List.take_zero] at O;exact absurd O (by decide)
  ·exact U
 | false=>
  cases o:digC c with
  | true=>
   rw [m,o] at h;simp only [Ad,Ae] at h;have d:=aid digC (c::r);have H:1<=runN digC (c::r):=by rw [acz,if_pos o];omega
   unfold arw at h;cases Z:(decide (1<runN digC (c::r))&&(c::r).getD 0 0==48)||(decide (runN digC (c::r)<(c::r).length)&&alnB ((c::r).getD (runN digC (c::r)) 0))<;>rw [Z] at h<;>simp only [Ad,Ae] at h
   ·cases M:Lib.parseUintB 64 ((c::r).take (runN digC (c::r))) with
    | ok u=>rw [M] at h;simp only [abu,Ad] at h;cases h;exact ⟨H,d,Or.inr (Or.inl ⟨rfl,rfl,u,a5z M,rfl⟩),Nat.zero_le _⟩
    | range=>rw [M] at h;cases h
    | «syntax»=>rw [M] at h;cases h
   ·cases h
  | false=>
   cases V:(c==34) with
   | true=>
    rw [m,o,V] at h;simp only [Ad,Ae] at h;unfold a1f unqV at h;rcases ajz (c::r) hl with ⟨a,q,Y,X⟩ | ⟨_,X⟩
    ·rw [X] at h;simp only [Option.getD_some,show ((0:Int)==0)=true from rfl,Ad,Ag] at h;cases h;have hq:(aa4 a).length<=(c::r).length:=by rw [Y];simp
     have aa:=am4 a;refine ⟨?_,hq,Or.inr (Or.inr (Or.inl ⟨rfl,rfl⟩)),by show a.length<=_;omega⟩;obtain ⟨z,hz⟩:=a1g a;rw [hz];simp
    ·rw [X] at h;cases h
   | false=>
    cases W:aig c with
    | true=>rw [m,o,V,W] at h;simp only [Ad,Ae] at h;cases h;exact ⟨Nat.le_refl _,by simp,Or.inr (Or.inr (Or.inr ⟨rfl,rfl,c,rfl,W⟩)),by simp⟩
    | false=>rw [m,o,V,W] at h;cases h
def tokV (k:Tk) (d:Nat):PV:=PV.agg [PV.int k.k,PV.str k.s,PV.int k.n,PV.int (d:Int)]
def cnt10 (s:Bq):Nat:=s.count 10
theorem ayn (s:Bq):cnt10 s<=s.length:=List.count_le_length
def avc:Nat->Nat->Bq->List PV->List PV⊕(Nat×Int)
 | 0,_,_,acc=>.inl acc
 | f+1,line,s,acc=>
  match s.drop (skipS false s) with
  | []=>.inl acc
  | c::r=>match amr (c::r) with
   | .inr e=>.inr (line+cnt10 (s.take (skipS false s)),e)
   | .inl (k,n)=>avc f (line+cnt10 (s.take (skipS false s))+cnt10 ((c::r).take n)) ((c::r).drop n) (acc++[tokV k (line+cnt10 (s.take (skipS false s)))])
def a6t (s:Bq):List PV×Int×Int:=match avc (s.length+1) 1 s [] with | .inl xs=>(xs,0,0) | .inr (l,e)=>([],(l:Int),e)
theorem lcnt (l:Bq):ati 0 l ([10]:Bq)=some ((cnt10 l:Nat):Int):=rfl
theorem a1w {d:Bq} (hl:d.length<=16384):∀ (f i:Nat) (z:List PV) (o:Nat),d.length-i<f->i<=d.length->z.length<=i->o<=i+1->
 aaz (S28_7step 0) (d,z,(o:Int),(i:Int))=some (match avc f o (d.drop i) z with | .inl xs=>.inl xs | .inr (l,e)=>.inr ([],(l:Int),e)):=by
 intro f
 induction f with
 | zero=>intro i z o hm;omega
 | succ f ih=>
  intro i z o hm hi ha ae
  unfold avc
  have aa:=as1 (d.drop i) false
  rw [Ar] at aa
  by_cases ag:i<d.length
  ·have W:decide ((i:Int)<(d.length:Int))=true:=Ah (by omega);have h1:=bas (d.drop i) (by rw [Ar];omega);obtain ⟨k,hk⟩:∃ k,skipS false (d.drop i)=k:=⟨_,rfl⟩;rw [hk] at aa h1 ⊢;have w1:IntKind.wrap .i64 ((i:Int)+(k:Int))=((i+k:Nat):Int):=by rw [abi (by omega) (by omega)];omega
   have e2:decide (0<=(i:Int)/\(i:Int)<=((i+k:Nat):Int)/\((i+k:Nat):Int)<=(d.length:Int))=true:=Ah (by omega);have t1:(d.take (((i+k:Nat):Int)).toNat).drop ((i:Int)).toNat=(d.drop i).take k:=by rw [Ag,Ag,List.drop_take,show i+k-i=k by omega]
   have hc:=ayn ((d.drop i).take k);rw [List.length_take,Ar] at hc;have w2:IntKind.wrap .i64 ((o:Int)+((cnt10 ((d.drop i).take k):Nat):Int))=((o+cnt10 ((d.drop i).take k):Nat):Int):=by rw [abi (by omega) (by omega)];omega
   have X:(d.drop i).drop k=d.drop (i+k):=by rw [A8]
   rw [X];by_cases Y:i+k=d.length
   ·have e3:(((i+k:Nat):Int)==(d.length:Int))=true:=by rw [Y];simp
    have H:d.drop (i+k)=[]:=Aq (by omega);rw [H];refine aac ?_;simp only [S28_7step,S28_7,W,ao0 d hi,Ad,aih,h1,w1,e2,lcnt,e3,Aa]
   ·have e3:(((i+k:Nat):Int)==(d.length:Int))=false:=by rw [At];omega
    have Z:i+k<d.length:=by omega
    obtain ⟨c,ad⟩:∃ c,d.getD (i+k) 0=c:=⟨_,rfl⟩;have V:d.drop (i+k)=c::d.drop (i+k+1):=by rw [aaj Z 0,ad]
    have M:=aqu (d.drop i) false c (d.drop (i+k+1)) (by rw [hk,X,V]);have U:(c::d.drop (i+k+1)).length<=1048576:=by rw [<-V,Ar];omega
    have O:=azg c (d.drop (i+k+1)) U M.1 M.2;rw [V];cases hx:amr (c::d.drop (i+k+1)) with
    | inr e=>
     rw [hx] at O;cases O with
     | er _ v m he hy=>rw [<-V] at hy;refine aac ?_;simp only [S28_7step,S28_7,W,ao0 d hi,ao0 d (show i+k<=d.length by omega),Ad,Ae,aih,h1,w1,w2,e2,lcnt,t1,e3,hy,hx,bneI he,Aa]
    | inl kn=>
     obtain ⟨tk,n⟩:=kn;obtain ⟨ah,af,ai,_⟩:=am5 U hx;rw [<-V,Ar] at af;rw [hx] at O;cases O with
     | ok _ _ hy=>
      rw [<-V] at hy;have w3:IntKind.wrap .i64 (((i+k:Nat):Int)+(n:Int))=((i+k+n:Nat):Int):=by rw [abi (by omega) (by omega)];omega
      have e4:decide (0<=((i+k:Nat):Int)/\((i+k:Nat):Int)<=((i+k+n:Nat):Int)/\((i+k+n:Nat):Int)<=(d.length:Int))=true:=Ah (by omega);have t2:(d.take (((i+k+n:Nat):Int)).toNat).drop (((i+k:Nat):Int)).toNat=(d.drop (i+k)).take n:=by rw [Ag,Ag,List.drop_take,show i+k+n-(i+k)=n by omega]
      have ab:=ayn ((d.drop (i+k)).take n);rw [List.length_take,Ar] at ab;have w4:IntKind.wrap .i64 (((o+cnt10 ((d.drop i).take k):Nat):Int)+((cnt10 ((d.drop (i+k)).take n):Nat):Int))=((o+cnt10 ((d.drop i).take k)+cnt10 ((d.drop (i+k)).take n):Nat):Int):=by rw [abi (by omega) (by omega)];omega
      have ea:∀ x:PV,decide (z.length+[x].length<=aaf)=true:=λx=>Ah (by simp only [Ao,Ba];unfold aaf;omega);have z0:((0:Int) != (0:Int))=false:=rfl;have st:S28_7step 0 (d,z,(o:Int),(i:Int))=some (.inl (d,z++[tokV tk (o+cnt10 ((d.drop i).take k))],((o+cnt10 ((d.drop i).take k)+cnt10 ((d.drop (i+k)).take n):Nat):Int),((i+k+n:Nat):Int))):=by simp only [S28_7step,S28_7,W,ao0 d hi,ao0 d (show i+k<=d.length by omega),Ad,Ae,aih,h1,w1,w2,w3,w4,e2,e4,ea,lcnt,t1,t2,e3,hy,z0,Aa];rfl
      have:=ih (i+k+n) (z++[tokV tk (o+cnt10 ((d.drop i).take k))]) (o+cnt10 ((d.drop i).take k)+cnt10 ((d.drop (i+k)).take n)) (by omega) (by omega) (by simp;omega) (by omega);simp only [hx];rw [aan st,this,<-V,A8]
  ·have W:decide ((i:Int)<(d.length:Int))=false:=Al (by omega);have H:d.drop i=[]:=Aq (by omega);rw [H];exact aac (by simp only [S28_7step,S28_7,W,Ae];rfl)
theorem a99 (s:Bq) (d:s.length<=16384):F28 0 s=some (a6t s):=by
 have h:=a1w d (s.length+1) 0 [] 1 (by omega) (by omega) (by simp) (by omega);have e:decide ((s.length:Int)>(16384:Int))=false:=Al (by omega);rw [A1] at h;unfold F28 a6t;rw [e,Ae,aal,show (0:Int)=((0:Nat):Int) from rfl,show (1:Int)=((1:Nat):Int) from rfl,h];cases avc (s.length+1) 1 s [] with
 | inl xs=>rfl
 | inr p=>rfl
end
end Go.Ab
namespace Go.Ab
open Go
set_option maxRecDepth 100000
theorem afj {d m:Type}{step:d->Option (d⊕m)} (st:Nat->d) (n:Nat) (y:m) (h:∀ i,i<n->step (st i)=some (.inl (st (i+1)))) (o:step (st n)=some (.inr y)):aaz step (st 0)=some y:=by have:=ah5 (step:=step) st n (λ_=>true) y y (λi z=>by rw [h i z];rfl) o n 0 (by omega);rw [this,allT];rfl
theorem aec {l:List PV} (h:afr l):F58 0 l l=some true:=aop l (by have:=h.1;omega) h.2
theorem aub {v:PV} (h:ahk v):F27 0 v v=some true:=auc h.1 (by have:=h.2;omega)
theorem aqz (l:List PV) (m:l.length<=100000):F47 0 l l=some true:=by
 unfold F47;simp only [bne_self_eq_false,Ae,aal];rw [show (0:Int)=((0:Nat):Int) from rfl,afj (λi=>(l,l,((i:Nat):Int))) l.length (.inr ()) (λi d=>by
  simp only [S47_5step,S47_5,abh,d,decide_true,Ad,aab,Ag,A9,Am,Ae,aa9 (show i<=9223372036854775000 by omega)])
  (by simp only [S47_5step,S47_5,abh,Nat.lt_irrefl,decide_false,Ae])]
 rfl
theorem aqv (l:List PV) (m:l.length<=100000):F228 0 l l=some true:=by
 unfold F228;simp only [bne_self_eq_false,Ae,aal];rw [show (0:Int)=((0:Nat):Int) from rfl,afj (λi=>(l,l,((i:Nat):Int))) l.length (.inr ()) (λi d=>by
  simp only [S228_5step,S228_5,abh,d,decide_true,Ad,aab,Ag,bne_self_eq_false,Aj,imp,Ae,aa9 (show i<=9223372036854775000 by omega)])
  (by simp only [S228_5step,S228_5,abh,Nat.lt_irrefl,decide_false,Ae])]
 rfl
theorem a5i {v:PV} (h:ahb v):F111 0 v v=some true:=by
 obtain ⟨M,m,o,z,H⟩:=h;unfold F111;simp only [bne_self_eq_false,A9,Am,Ae,Aj,Ad,aqv _ o,aqz _ z,aec H,Aa,aal];have lp:=afj (step:=S111_5step 0) (λi=>((),(),((i:Nat):Int),(v.fld 0).asStr,(v.fld 1).asList,(v.fld 2).asList,(v.fld 3).asList,(v.fld 4).asList,(v.fld 0).asStr,(v.fld 1).asList,(v.fld 2).asList,(v.fld 3).asList,(v.fld 4).asList)) (v.fld 1).asList.length (.inr ((v.fld 0).asStr,(v.fld 1).asList,(v.fld 2).asList,(v.fld 3).asList,(v.fld 4).asList,(v.fld 0).asStr,(v.fld 1).asList,(v.fld 2).asList,(v.fld 3).asList,(v.fld 4).asList)) (λi d=>by
  simp only [S111_5step,S111_5,abh,d,decide_true,Ad,aab,Ag,aub (m _ (ace d .bad)),Aa,Am,Ae,aa9 (show i<=9223372036854775000 by omega)])
  (by simp only [S111_5step,S111_5,abh,Nat.lt_irrefl,decide_false,Ae])
 have lp:aaz (S111_5step 0) ((),(),(0:Int),(v.fld 0).asStr,(v.fld 1).asList,(v.fld 2).asList,(v.fld 3).asList,(v.fld 4).asList,(v.fld 0).asStr,(v.fld 1).asList,(v.fld 2).asList,(v.fld 3).asList,(v.fld 4).asList)=_:=lp;rw [lp];rfl
theorem a3u {v:PV} (h:aeg v):F112 0 v v=some true:=by
 obtain ⟨M,m,o,z⟩:=h;unfold F112;simp only [bne_self_eq_false,A9,Am,Ae,Aj,Ad,aqv _ o,aec z,Aa,aal];have lp:=afj (step:=S112_5step 0) (λi=>((),(),((i:Nat):Int),(v.fld 0).asStr,(v.fld 1).asBool,(v.fld 2).asList,(v.fld 3).asList,(v.fld 4).asList,(v.fld 0).asStr,(v.fld 1).asBool,(v.fld 2).asList,(v.fld 3).asList,(v.fld 4).asList)) (v.fld 2).asList.length (.inr ((v.fld 0).asStr,(v.fld 1).asBool,(v.fld 2).asList,(v.fld 3).asList,(v.fld 4).asList,(v.fld 0).asStr,(v.fld 1).asBool,(v.fld 2).asList,(v.fld 3).asList,(v.fld 4).asList)) (λi d=>by
  have H:afr (((v.fld 2).asList.getD i .bad).fld 2).asList:=m _ (ace d .bad);simp only [S112_5step,S112_5,abh,d,decide_true,Ad,aab,Ag,A9,bne_self_eq_false,Am,Aj,imp,Ae,aec H,Aa,aa9 (show i<=9223372036854775000 by omega)])
  (by simp only [S112_5step,S112_5,abh,Nat.lt_irrefl,decide_false,Ae])
 have lp:aaz (S112_5step 0) ((),(),(0:Int),(v.fld 0).asStr,(v.fld 1).asBool,(v.fld 2).asList,(v.fld 3).asList,(v.fld 4).asList,(v.fld 0).asStr,(v.fld 1).asBool,(v.fld 2).asList,(v.fld 3).asList,(v.fld 4).asList)=_:=lp;rw [lp];rfl
theorem a6u {v:PV} (h:atn v):F113 0 v v=some true:=by
 obtain ⟨H,m,o⟩:=h;unfold F113;simp only [bne_self_eq_false,A9,Am,Ae,Aj,Ad,aec o,Aa,aal];have lp:=afj (step:=S113_5step 0) (λi=>((),(),((i:Nat):Int),(v.fld 0).asStr,(v.fld 1).asList,(v.fld 2).asList,(v.fld 0).asStr,(v.fld 1).asList,(v.fld 2).asList)) (v.fld 1).asList.length (.inr ((v.fld 0).asStr,(v.fld 1).asList,(v.fld 2).asList,(v.fld 0).asStr,(v.fld 1).asList,(v.fld 2).asList)) (λi d=>by
  have z:afr (((v.fld 1).asList.getD i .bad).fld 4).asList:=m _ (ace d .bad);simp only [S113_5step,S113_5,abh,d,decide_true,Ad,aab,Ag,A9,bne_self_eq_false,Am,Aj,imp,Ae,aec z,Aa,aa9 (show i<=9223372036854775000 by omega)])
  (by simp only [S113_5step,S113_5,abh,Nat.lt_irrefl,decide_false,Ae])
 have lp:aaz (S113_5step 0) ((),(),(0:Int),(v.fld 0).asStr,(v.fld 1).asList,(v.fld 2).asList,(v.fld 0).asStr,(v.fld 1).asList,(v.fld 2).asList)=_:=lp;rw [lp];rfl
theorem a3o (ms es ss:List PV) (Z:ms.length<=100000) (h2:es.length<=100000) (h3:ss.length<=100000) (W:∀ x,x∈ms->ahb x) (X:∀ x,x∈es->aeg x) (Y:∀ x,x∈ss->atn x):
 F48 0 (PV.agg [PV.slice ms,PV.slice es,PV.slice ss]) (PV.agg [PV.slice ms,PV.slice es,PV.slice ss])=some true:=by
 obtain ⟨d,M⟩:∃ d,d=PV.agg [PV.slice ms,PV.slice es,PV.slice ss]:=⟨_,rfl⟩
 have O:(d.fld 0).asList=ms:=by rw [M];rfl
 have U:(d.fld 1).asList=es:=by rw [M];rfl
 have V:(d.fld 2).asList=ss:=by rw [M];rfl
 rw [<-M]
 have o:=afj (step:=S48_5step 0) (λi=>((),(),((i:Nat):Int),d,d)) ms.length (.inr ((),(),d,d)) (λi m=>by
  simp only [S48_5step,S48_5,O,abh,m,decide_true,Ad,aab,Ag,a5i (W _ (ace m .bad)),Aa,Am,Ae,aa9 (show i<=9223372036854775000 by omega)])
  (by simp only [S48_5step,S48_5,O,abh,Nat.lt_irrefl,decide_false,Ae])
 have z:=afj (step:=S48_10step 0) (λi=>((),(),((i:Nat):Int),d,d)) es.length (.inr ((),(),d,d)) (λi m=>by
  simp only [S48_10step,S48_10,U,abh,m,decide_true,Ad,aab,Ag,a3u (X _ (ace m .bad)),Aa,Am,Ae,aa9 (show i<=9223372036854775000 by omega)])
  (by simp only [S48_10step,S48_10,U,abh,Nat.lt_irrefl,decide_false,Ae])
 have H:=afj (step:=S48_15step 0) (λi=>((),(),((i:Nat):Int),d,d)) ss.length (.inr (d,d)) (λi m=>by
  simp only [S48_15step,S48_15,V,abh,m,decide_true,Ad,aab,Ag,a6u (Y _ (ace m .bad)),Aa,Am,Ae,aa9 (show i<=9223372036854775000 by omega)])
  (by simp only [S48_15step,S48_15,V,abh,Nat.lt_irrefl,decide_false,Ae])
 have o:aaz (S48_5step 0) ((),(),(0:Int),d,d)=_:=o
 have z:aaz (S48_10step 0) ((),(),(0:Int),d,d)=_:=z
 have H:aaz (S48_15step 0) ((),(),(0:Int),d,d)=_:=H
 unfold F48
 simp only [bne_self_eq_false,Ae,aal,o,z,H,Aa,aa7]
theorem aue {v:PV} (h:avu v):F17 0 v v=some true:=by obtain ⟨d,m,o,z,H,M,O⟩:=h;unfold F17;simp only [A9,Ad,aqz _ d,Aa,a3o _ _ _ m o z H M O]
end Go.Ab
namespace Go.Ab
open Go
set_option maxRecDepth 100000
noncomputable section
def adw:Nat->Nat->Bq->List (Tk×Nat)⊕(Nat×Int)
 | 0,_,_=>.inl []
 | f+1,line,s=>
  match s.drop (skipS false s) with
  | []=>.inl []
  | c::r=>match amr (c::r) with
   | .inr e=>.inr (line+cnt10 (s.take (skipS false s)),e)
   | .inl (k,n)=>match adw f (line+cnt10 (s.take (skipS false s))+cnt10 ((c::r).take n)) ((c::r).drop n) with
    | .inl l=>.inl ((k,line+cnt10 (s.take (skipS false s)))::l)
    | .inr p=>.inr p
def vTk (p:Tk×Nat):PV:=tokV p.1 p.2
theorem bc9:∀ (f d:Nat) (s:Bq) (m:List PV),avc f d s m=match adw f d s with | .inl l=>.inl (m++l.map vTk) | .inr p=>.inr p:=by
 intro f;induction f with
 | zero=>intro d s m;simp [avc,adw]
 | succ f o=>
  intro d s m;unfold avc adw;cases H:s.drop (skipS false s) with
  | nil=>simp
  | cons c r=>
   simp only;cases M:amr (c::r) with
   | inr e=>rfl
   | inl z=>
    obtain ⟨k,n⟩:=z;simp only;rw [o];cases adw f (d+cnt10 (s.take (skipS false s))+cnt10 ((c::r).take n)) ((c::r).drop n) with
    | inl l=>simp [vTk]
    | inr p=>rfl
theorem azl:∀ (f d:Nat) (s:Bq),s.length<=1048576->(∀ l,adw f d s=.inl l->l.length<=s.length/\∀ p,p∈l->WfTk p.1/\p.1.s.length<=s.length/\d<=p.2/\p.2<=d+s.length)/\(∀ n e,adw f d s=.inr (n,e)->e≠0/\d<=n/\n<=d+s.length):=by
 intro f;induction f with
 | zero=>intro d s _;exact ⟨λl h=>(by cases h;exact ⟨Nat.zero_le _,λp z=>by cases z⟩),λn e h=>by cases h⟩
 | succ f ih=>
  intro d s hs;unfold adw;have ae:=as1 s false;have hc:=ayn (s.take (skipS false s));rw [List.length_take] at hc;cases W:s.drop (skipS false s) with
  | nil=>exact ⟨λl h=>(by cases h;exact ⟨Nat.zero_le _,λp z=>by cases z⟩),λn e h=>by cases h⟩
  | cons c r=>
   have H:(c::r).length=s.length-skipS false s:=by rw [<-W,Ar]
   have o:=aqu s false c r W;simp only;cases Y:amr (c::r) with
   | inr e=>
    have Z:=azg c r (by omega) o.1 o.2;rw [Y] at Z;refine ⟨λl h=>(by cases h),λn e' h=>?_⟩;cases h;cases Z with
    | er _ v m he _=>exact ⟨he,by omega,by omega⟩
   | inl kn=>
    obtain ⟨k,n⟩:=kn;obtain ⟨ab,ad,V,aa⟩:=am5 (by omega) Y;have O:=ayn ((c::r).take n);rw [List.length_take] at O;have U:((c::r).drop n).length=s.length-skipS false s-n:=by rw [Ar,H]
    obtain ⟨g1,g2⟩:=ih (d+cnt10 (s.take (skipS false s))+cnt10 ((c::r).take n)) ((c::r).drop n) (by omega);simp only;cases X:adw f (d+cnt10 (s.take (skipS false s))+cnt10 ((c::r).take n)) ((c::r).drop n) with
    | inl l=>
     refine ⟨λl' h=>?_,λn e h=>by cases h⟩;cases h;obtain ⟨q1,q2⟩:=g1 l X;refine ⟨by simp only [Ao];omega,λp z=>?_⟩;rcases Bl.1 z with rfl | z
     ·exact ⟨V,by show k.s.length<=_;omega,by show d<=d+_;omega,by show d+_<=_;omega⟩
     ·obtain ⟨M,a2,a3,a4⟩:=q2 p z;exact ⟨M,by omega,by omega,by omega⟩
    | inr p=>obtain ⟨m,e⟩:=p;refine ⟨λl h=>(by cases h),λn' e' h=>?_⟩;cases h;obtain ⟨M,a2,a3⟩:=g2 m e X;exact ⟨M,by omega,by omega⟩
theorem a1x:∀ (f g d:Nat) (s:Bq),s.length<=1048576->s.length<f->s.length<g->adw f d s=adw g d s:=by
 intro f;induction f with
 | zero=>intro g d s _ h;omega
 | succ f W=>
  intro g d s hs Y Z;obtain ⟨g,rfl⟩:∃ m,g=m+1:=⟨g-1,by omega⟩;unfold adw;have V:=as1 s false;cases H:s.drop (skipS false s) with
  | nil=>rfl
  | cons c r=>
   have o:(c::r).length=s.length-skipS false s:=by rw [<-H,Ar]
   simp only;cases U:amr (c::r) with
   | inr e=>rfl
   | inl X=>
    obtain ⟨k,n⟩:=X;obtain ⟨M,O,_,_⟩:=am5 (by omega) U;have z:((c::r).drop n).length=s.length-skipS false s-n:=by rw [Ar,o]
    simp only;rw [W g _ _ (by omega) (by omega) (by omega)]
theorem a98 (f d:Nat) (s:Bq):adw f d (10::s)=adw f (d+1) s:=by
 cases f with
 | zero=>rfl
 | succ f=>
  unfold adw;have m:skipS false (10::s)=skipS false s+1:=rfl;have o:cnt10 ((10::s).take (skipS false s+1))=cnt10 (s.take (skipS false s))+1:=by rw [List.take_succ_cons];unfold cnt10;rw [List.count_cons_self]
  rw [m,List.drop_succ_cons,o];have z:d+(cnt10 (s.take (skipS false s))+1)=d+1+cnt10 (s.take (skipS false s)):=by omega
  rw [z]
theorem axv (s:Bq):a6t s=match adw (s.length+1) 1 s with | .inl l=>(l.map vTk,0,0) | .inr (n,e)=>([],(n:Int),e):=by unfold a6t;rw [bc9];cases adw (s.length+1) 1 s<;>rfl
theorem be1 {k:Tk} (h:WfTk k):-9223372036854775808<=k.n/\k.n<=9223372036854775807:=by
 rcases h with ⟨_,_,h⟩ | ⟨_,_,u,d,h⟩ | ⟨_,h⟩ | ⟨_,h,_⟩
 ·rw [h];decide
 ·rw [h,IntKind.wrap_i64];omega
 ·rw [h];decide
 ·rw [h];decide
theorem bbx {l:List (Tk×Nat)}{n:Nat} (z:n<=16384) (o:l.length<=n) (h:∀ p,p∈l->WfTk p.1/\p.1.s.length<=n):TNum (l.map vTk):=
 { len:=by rw [List.length_map];omega
   txt:=λx m=>by obtain ⟨p,d,rfl⟩:=List.mem_map.1 m;have:=(h p d).2;show p.1.s.length<=_;omega
   num:=λx m=>by obtain ⟨p,d,rfl⟩:=List.mem_map.1 m;exact be1 (h p d).1
   sml:=λx m=>by obtain ⟨p,d,rfl⟩:=List.mem_map.1 m;have:=(h p d).2;show p.1.s.length<=_;omega }
theorem a9x (m d:Bq) (z:d.length<=16384):F15 0 m d=some (match adw (d.length+1) 1 d with | .inl l=>awo m (l.map vTk) | .inr (n,e)=>(atf,(n:Int),e)):=by
 have o:=a99 d z;obtain ⟨O,U⟩:=azl (d.length+1) 1 d (by omega);rw [axv] at o;cases h:adw (d.length+1) 1 d with
 | inl l=>rw [h] at o;obtain ⟨W,M⟩:=O l h;exact auy aux m d _ 0 o (bbx z W λp H=>⟨(M p H).1,(M p H).2.1⟩) (by rw [List.length_map];omega)
 | inr p=>obtain ⟨n,e⟩:=p;rw [h] at o;have V:=(U n e h).1;unfold F15;simp only [o,Aa,bneI V,Ad];rfl
end
end Go.Ab
namespace Go.Ab
open Go
set_option maxRecDepth 100000
def N10 (s:Bq):Prop:=∀ c,c∈s->c≠10
theorem bek:N10 []:=λc h=>by cases h
theorem a5l {c:UInt8}{s:Bq} (m:c≠10) (o:N10 s):N10 (c::s):=λd h=>by
 rcases Bl.1 h with rfl | h
 ·exact m
 ·exact o d h
theorem bej {s t:Bq} (d:N10 s) (m:N10 t):N10 (s++t):=λc h=>by
 rcases Bm.1 h with h | h
 ·exact d c h
 ·exact m c h
theorem aw8 {s:Bq} (h:(s.all λc=>!(c==10))=true):N10 s:=λc d=>by have:=Bi.1 h c d;simpa using this
theorem bcl:((List.range 256).all λb=>(hex2 b).all λc=>!(c==10))=true:=by kernel_rfl
theorem ask (s:Bq):∀ (m i:Nat),s.length-i<=m->N10 (aav s i):=by
 intro m;induction m with
 | zero=>intro i hm;rw [aav,if_neg (by omega)];exact bek
 | succ m ih=>
  intro i hm;by_cases W:i<s.length
  ·have hp:=ad5 s i;have hr:=ih (i+ab1 s i) (by omega);rw [aav,if_pos W];refine bej ?_ hr;unfold ahj;by_cases z:byteAt s i=34
   ·rw [if_pos z];exact aw8 (by decide)
   rw [if_neg z];by_cases H:byteAt s i=92
   ·rw [if_pos H];exact aw8 (by decide)
   rw [if_neg H];by_cases M:byteAt s i=10
   ·rw [if_pos M];exact aw8 (by decide)
   rw [if_neg M];by_cases O:byteAt s i=9
   ·rw [if_pos O];exact aw8 (by decide)
   rw [if_neg O];by_cases U:byteAt s i=13
   ·rw [if_pos U];exact aw8 (by decide)
   rw [if_neg U];by_cases V:byteAt s i<32\/byteAt s i=127\/sizeAt s i=0
   ·rw [if_pos V];exact a5l (by decide) (a5l (by decide) (aw8 (Bi.1 bcl _ (List.mem_range.2 (ab4 s i)))))
   ·rw [if_neg V];have Z:sizeAt s i≠0:=by omega
    intro b hb;obtain ⟨j,X,rfl⟩:=List.mem_iff_getElem.1 hb;have aa:j<sizeAt s i:=by rw [List.length_take] at X;omega
    have o:i+j<s.length:=by rw [List.length_take,Ar] at X;omega
    have Y:((s.drop i).take (sizeAt s i))[j]=s.getD (i+j) 0:=by rw [List.getElem_take,List.getElem_drop,aiu o]
    rw [Y];have d:byteAt s (i+j)≠10:=by
     have q0:byteAt s (i+0)=byteAt s i:=rfl;rcases ajx (s.length-i) (byteAt s i) (byteAt s (i+1)) (byteAt s (i+2)) (byteAt s (i+3)) (by omega) with h | ⟨h,c⟩ | ⟨h,c⟩ | ⟨h,c⟩ | ⟨h,c⟩
     ·exact absurd h Z
     ·have h:sizeAt s i=1:=h;have:j=0:=by omega
      subst this;omega
     ·have h:sizeAt s i=2:=h;have:j=0\/j=1:=by omega
      rcases this with rfl | rfl<;>omega
     ·have h:sizeAt s i=3:=h;have:j=0\/j=1\/j=2:=by omega
      rcases this with rfl | rfl | rfl<;>omega
     ·have h:sizeAt s i=4:=h;have:j=0\/j=1\/j=2\/j=3:=by omega
      rcases this with rfl | rfl | rfl | rfl<;>omega
    exact awa d
  ·rw [aav,if_neg W];exact bek
theorem bcs (s:Bq):N10 (aa4 s):=by
 have d:aa4 s=34::(aav s 0++[34]):=by unfold aa4;rfl
 rw [d];exact a5l (by decide) (bej (ask s s.length 0 (by omega)) (aw8 (by decide)))
end Go.Ab
