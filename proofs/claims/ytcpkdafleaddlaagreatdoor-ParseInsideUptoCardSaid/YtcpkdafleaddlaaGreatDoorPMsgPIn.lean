/- The program's parser and its specification: names, unions, reserved numbers and names, rpcs. -/
import Derived.Test.YtcpkdafleaddlaaGreatDoorPScan3In
import Derived.Test.YtcpkdafleaddlaaGreatDoorPUnqIn
set_option linter.unusedVariables false
set_option linter.unusedSimpArgs false
set_option linter.unnecessarySimpa false
namespace Go.Ab
open Go
set_option maxRecDepth 100000
inductive PG {α R S Z:Type} (t:List PV) (ok:R->S) (er:PV×Z->S) (I:α->Nat->Prop) (mk:α->Int->R) (x:Rs α) (y:Option S):Prop
 | ok (v:α) (j:Nat):j<=t.length->I v j->x=.ok v (ts t j)->y=some (ok (mk v ((j:Nat):Int)))->PG t ok er I mk x y
 | er (j:Nat) (e:Int) (z:Z):j<=t.length->e≠0->x=.er (ts t j) e->y=some (er (PV.agg [PV.int ((j:Nat):Int),PV.int e],z))->PG t ok er I mk x y
theorem Par.pg {α R:Type}{t:List PV}{q:QF}{mk:α->Q0->R}{x:Rs α}{y:Option (R⊕(PV×Q0))} (h:Par t q mk x y):PG t Sum.inl Sum.inr (fun _ _=>True) (fun v j=>mk v (t,j,q)) x y:=by
 rcases h with ⟨v,j,hj,hx,hy⟩ | ⟨j,e,hj,he,hx,hy⟩
 ·exact .ok v j hj trivial hx hy
 ·exact .er j e _ hj he hx hy
theorem PG.seq {α β R R' S' Z Z':Type}{t:List PV}{I:α->Nat->Prop}{I':β->Nat->Prop}{mk:α->Int->R}{ok':R'->S'}{er':PV×Z'->S'}{mk':β->Int->R'}{x:Rs α}{y:Option (R⊕(PV×Z))}{f:α->List Tk->Rs β}{g:R->Option S'}{E:PV×Z->Option S'}
 (h:PG t Sum.inl Sum.inr I mk x y) (hc:∀ v j,j<=t.length->I v j->x=.ok v (ts t j)->PG t ok' er' I' mk' (f v (ts t j)) (g (mk v ((j:Nat):Int)))) (hE:∀ p z,∃ z',E (p,z)=some (er' (p,z'))):
 PG t ok' er' I' mk' (x.bind f) (y.bind fun z=>sumE g E z):=by
 rcases h with ⟨v,j,hj,hi,hx,hy⟩ | ⟨j,e,z,hj,he,hx,hy⟩
 ·have:=hc v j hj hi hx
  rw [hx,hy];exact this
 ·obtain ⟨z',hz⟩:=hE (PV.agg [PV.int ((j:Nat):Int),PV.int e]) z
  rw [hx,hy];exact .er j e z' hj he rfl hz
theorem PG.swap {α β R R' S' Z Z':Type}{t:List PV}{I:α->Nat->Prop}{I':β->Nat->Prop}{mk:α->Int->R}{ok':R'->S'}{er':PV×Z'->S'}{mk':β->Int->R'}{x:Rs α}{y:Option ((PV×Z)⊕R)}{f:α->List Tk->Rs β}{g:R->Option S'}{E:PV×Z->Option S'}
 (h:PG t Sum.inr Sum.inl I mk x y) (hc:∀ v j,j<=t.length->I v j->x=.ok v (ts t j)->PG t ok' er' I' mk' (f v (ts t j)) (g (mk v ((j:Nat):Int)))) (hE:∀ p z,∃ z',E (p,z)=some (er' (p,z'))):
 PG t ok' er' I' mk' (x.bind f) (y.bind fun z=>sumE E g z):=by
 rcases h with ⟨v,j,hj,hi,hx,hy⟩ | ⟨j,e,z,hj,he,hx,hy⟩
 ·have:=hc v j hj hi hx
  rw [hx,hy];exact this
 ·obtain ⟨z',hz⟩:=hE (PV.agg [PV.int ((j:Nat):Int),PV.int e]) z
  rw [hx,hy];exact .er j e z' hj he rfl hz
section
variable {α R S Z:Type}{t:List PV}{ok:R->S}{er:PV×Z->S}{I:α->Nat->Prop}{mk:α->Int->R}
theorem PG.may (ht:TOk t) (s:List UInt8) (k:Int) (hk:kOf s=k) (i:Nat) (hi:i<=t.length) (q:QF) {K:Bool×Q0->Option S}{x1 x2:Rs α}
 (h1:isS k s (ts t i)=true->i+1<=t.length->PG t ok er I mk x1 (K (true,(t,((i+1:Nat):Int),q)))) (h2:isS k s (ts t i)=false->PG t ok er I mk x2 (K (false,(t,(i:Int),q)))):
 PG t ok er I mk (bif isS k s (ts t i) then x1 else x2) ((F91 0 () s (t,(i:Int),q)).bind K):=by
 rw [akq s k hk t ht i hi q,Option.bind_some]
 cases h:isS k s (ts t i) with
 | true=>exact h1 h (adb h)
 | false=>exact h2 h
theorem PG.sign (ht:TOk t) (s:List UInt8) (k:Int) (hk:kOf s=k) (i:Nat) (hi:i<=t.length) (q:QF) {K:Bool×Q0->Option S}{x1 x2:Rs α}
 (h1:isS k s (ts t i)=true->PG t ok er I mk x1 (K (true,(t,(i:Int),q)))) (h2:isS k s (ts t i)=false->PG t ok er I mk x2 (K (false,(t,(i:Int),q)))):
 PG t ok er I mk (bif isS k s (ts t i) then x1 else x2) ((F96 0 () s (t,(i:Int),q)).bind K):=by
 rw [aoy s k hk t ht i hi q,Option.bind_some]
 cases h:isS k s (ts t i) with
 | true=>exact h1 h
 | false=>exact h2 h
end
theorem ac8 {α:Type}{x:Rs α}{t:List PV}{i j:Nat}{v:α} (hi:i<=t.length) (hj:j<=t.length) (hs:Sh x (ts t i)) (hx:x=.ok v (ts t j)):i<j:=by
 have:=hs v _ hx
 rw [abm,abm] at this
 omega
theorem a79 {α:Type}{x:Rs α}{t:List PV}{i j:Nat}{v:α} (hi:i<=t.length) (hj:j<=t.length) (hs:Sh0 x (ts t i)) (hx:x=.ok v (ts t j)):i<=j:=by
 have:=hs v _ hx
 rw [abm,abm] at this
 omega
theorem accL {n:Nat} (h:n<=68719476736):decide (n<=aal)=true:=decide_eq_true h
theorem awc {s:List UInt8} (h:apq s=true):s.length<=120:=by
 unfold apq at h
 simp only [Bool.and_eq_true,decide_eq_true_eq] at h
 omega
theorem ayi {o s:List UInt8} (h:ami o s=true):(ap1 o s).length<=120:=by
 unfold ami at h
 simp only [Bool.and_eq_true,Bool.or_eq_true] at h
 rcases h.2 with h2 | h2
 ·have e:o=[]:=by simpa using h2
  subst e
  have:=h.1
  unfold defP at this
  simp only [Bool.and_eq_true] at this
  exact awc this.1
 ·exact awc h2.2
theorem a2k (o s:List UInt8) (ho:o.length<=1048576) (hs:s.length<=1048576):F288 0 o s=some (ap1 o s):=by
 unfold F288 ap1
 cases h:(o==[]) with
 | true=>rfl
 | false=>
  have l1:decide (o.length+([46]:List UInt8).length<=aa2)=true:=agu (by simp;omega)
  have l2:decide ((o++([46]:List UInt8)).length+s.length<=aa2)=true:=agu (by simp;omega)
  simp only [cond_false,l1,l2,cond_true]
theorem azu (o s:List UInt8) (ho:o.length<=120) (hs:s.length<=1048576):F287 0 s () o=some (ami o s,o):=by
 have hj:(ap1 o s).length<=1048820:=by unfold ap1;cases (o==[])<;>simp<;>omega
 unfold F287 ami
 rw [ase s hs,Option.bind_some,ahc,a2k o s (by omega) hs]
 cases defP s with
 | false=>cases (o==[])<;>rfl
 | true=>
  cases h0:(o==[]) with
  | true=>rfl
  | false=>
   cases hp:agy s with
   | false=>rfl
   | true=>
    have hsl:s.length<=120:=by
     unfold agy at hp
     cases s with
     | nil=>simp
     | cons c r=>
      simp only [Bool.and_eq_true,decide_eq_true_eq] at hp
      simp only [List.length_cons]
      have:=hp.1.1
      omega
    have:=ai5 (ap1 o s) (by unfold ap1;rw [h0];simp;omega)
    simp only [Bool.not_false,cond_true,Option.bind_some,this,Bool.true_and,Bool.false_or,cond_false]
theorem amv (o:List UInt8) (ho:o.length<=120) (t:List PV) (ht:TOk t) (i:Nat) (hi:i<=t.length) (nm sp:List UInt8) (sv im ms es:List PV):
 PG t Sum.inl Sum.inr (fun v _=>v.length<=120) (fun v j=>(v,(t,j,nm,sp,(),(),(),sv,im,ms,es))) (ak3 o (ts t i)) (F204 0 () o (t,(i:Int),nm,sp,(),(),(),sv,im,ms,es)):=by
 have hl:=ht.len
 unfold F204 ak3 afz F92_v2
 simp only [ad9 t i (nm,sp,(),(),(),sv,im,ms,es),Option.bind_some]
 by_cases hb:aap (ts t i)=1
 ·have e1:(aap (ts t i) != 1)=false:=by rw [hb];rfl
  have e2:(aap (ts t i)==1)=true:=by rw [hb];rfl
  have h:i<t.length:=adh rfl e2
  have hx:abw (ts t i)=((t.getD i .bad).fld 1).asStr:=by rw [ad6 h];rfl
  simp only [e1,e2,cond_false,cond_true,aab,h,decide_true,Int.toNat_natCast,azu o _ ho (a3h ht h),Option.bind_some,hx,ab2 (show i<=9223372036854775000 by omega)]
  cases hp:ami o ((t.getD i .bad).fld 1).asStr with
  | true=>
   simp only [Bool.not_true,cond_false,cond_true,abl,a2k o _ (by omega) (a3h ht h),Option.bind_some,Rs.bind_ok]
   exact .ok _ (i+1) h (ayi hp) (by rw [aa0]) rfl
  | false=>exact .er i 8 _ hi (by decide) rfl rfl
 ·have e1:(aap (ts t i) != 1)=true:=bneI hb
  have e2:(aap (ts t i)==1)=false:=beqI hb
  simp only [e1,e2,cond_true,cond_false]
  exact .er i 2 _ hi (by decide) rfl rfl
theorem azn (t:List PV) (ht:TOk t) (h5:t.length<=100000) (i0:Nat) (q:QF):∀ (m i:Nat) (acc:List PV),t.length-i<=m->i<=t.length->acc.length+i0<=i->
 PG t Sum.inl Sum.inr (fun v j=>v.length+i0<=j) (fun v j=>(v,(t,j,q))) (an0 (ts t i) acc) (abi (S207_3step 0) ((),acc,(t,(i:Int),q))):=by
 intro m
 induction m with
 | zero=>
  intro i acc hm hi ha
  rw [aqo,show aa9 (ts t i)=.er (ts t i) 2 by rw [afv (by omega)];rfl]
  have hy:S207_3step 0 ((),acc,(t,(i:Int),q))=some (.inr (.inr (PV.agg [PV.int (i:Int),PV.int 2],(t,(i:Int),q)))):=by
   unfold S207_3step S207_3
   rcases agb t ht i hi q with ⟨v,j,hj,hx,hy⟩ | ⟨j,e,hj,he,hx,hy⟩
   ·have:=ac8 hi hj (ada _) hx
    omega
   ·rw [show aa9 (ts t i)=.er (ts t i) 2 by rw [afv (by omega)];rfl] at hx
    simp only [Rs.er.injEq] at hx
    have:=a8a hi hj hx.1
    subst this
    rw [<-hx.2] at hy
    simp only [hy,Option.bind_some,aa3]
  exact .er i 2 (t,(i:Int),q) hi (by decide) rfl (aac hy)
 | succ m ih=>
  intro i acc hm hi ha
  rw [aqo]
  have ea:∀ x:PV,decide (acc.length+[x].length<=aal)=true:=fun x=>accL (by simp;omega)
  rcases agb t ht i hi q with ⟨v,j,hj,hx,hy⟩ | ⟨j,e,hj,he,hx,hy⟩
  ·have hlt:=ac8 hi hj (ada _) hx
   rw [hx,Rs.bind_ok]
   cases h1:isS 4 [59] (ts t j) with
   | true=>
    refine .ok (acc++[PV.str v]) (j+1) (adb h1) (by simp;omega) (by rw [cond_true,aa0]) (aac ?_)
    simp only [S207_3step,S207_3,hy,Option.bind_some,abl,ea,cond_true,akq [59] 4 (by decide) t ht j hj,h1]
   | false=>
    rw [cond_false]
    rcases ad2 [44] 4 (by decide) t ht j hj q with ⟨_,k,hk,hx2,hy2⟩ | ⟨k,e,hk,he,hx2,hy2⟩
    ·have hlt2:=ac8 hj hk (abh _ _ _) hx2
     rw [hx2,Rs.bind_ok]
     have st:S207_3step 0 ((),acc,(t,(i:Int),q))=some (.inl ((),acc++[PV.str v],(t,(k:Int),q))):=by
      simp only [S207_3step,S207_3,hy,Option.bind_some,abl,ea,cond_true,cond_false,akq [59] 4 (by decide) t ht j hj,h1,hy2]
     rw [aax st]
     exact ih k _ (by omega) hk (by simp;omega)
    ·rw [hx2,Rs.bind_er]
     refine .er k e (t,(k:Int),q) hk he rfl (aac ?_)
     simp only [S207_3step,S207_3,hy,Option.bind_some,abl,aa3,ea,cond_true,cond_false,akq [59] 4 (by decide) t ht j hj,h1,hy2]
  ·rw [hx,Rs.bind_er]
   refine .er j e (t,(j:Int),q) hj he rfl (aac ?_)
   simp only [S207_3step,S207_3,hy,Option.bind_some,aa3]
theorem a6b (t:List PV) (ht:TOk t) (h5:t.length<=100000) (i:Nat) (hi:i<=t.length) (q:QF):
 PG t Sum.inl Sum.inr (fun v j=>v.length+i<=j) (fun v j=>(v,(t,j,q))) (an0 (ts t i) []) (F207 0 () (t,(i:Int),q)):=by
 unfold F207
 rw [aaq]
 rcases azn t ht h5 i q t.length i [] (by omega) hi (by simp) with ⟨v,j,hj,hv,hx,hy⟩ | ⟨j,e,z,hj,he,hx,hy⟩
 ·exact .ok v j hj hv hx (by simp only [hy,Option.bind_some,abl])
 ·exact .er j e z hj he hx (by simp only [hy,Option.bind_some,aa3])
end Go.Ab
namespace Go.Ab
open Go
set_option maxRecDepth 100000
def aiv (l:List PV):Prop:=l.length<=100000/\∀ x,x∈l->as4 x
def air (v:PV):Prop:=a7j v/\(v.fld 8).asList.length<=100000
def al2 (v:PV):Prop:=aiv (v.fld 4).asList
def ava (v:PV):Prop:=aiv (v.fld 2).asList
def af9 (v:PV):Prop:=(v.fld 2).asList.length<=100000/\(∀ x,x∈(v.fld 2).asList->ava x)/\(v.fld 3).asList.length<=100000/\aiv (v.fld 4).asList
def a8b (v:PV):Prop:=(v.fld 1).asList.length<=100000/\(∀ x,x∈(v.fld 1).asList->al2 x)/\aiv (v.fld 2).asList
def ai0 (v:PV):Prop:=(v.fld 1).asList.length<=100000/\(∀ x,x∈(v.fld 1).asList->air x)/\(v.fld 2).asList.length<=100000/\(v.fld 3).asList.length<=100000/\aiv (v.fld 4).asList
theorem aeo {t:List PV}{i j:Nat}{v:List PV} (h5:t.length<=100000) (h:acw parV aae (ts t i)=.ok v (ts t j)):aiv v:=by
 have:=ao5 h
 rw [abm] at this
 exact ⟨by omega,apg h⟩
theorem aez {P:PV->Prop}{l:List PV}{x:PV} (h:∀ y,y∈l->P y) (hx:P x):∀ y,y∈l++[x]->P y:=fun y hy=>by
 rcases List.mem_append.1 hy with hy | hy
 ·exact h y hy
 ·rw [List.mem_singleton.1 hy];exact hx
theorem a6u {P:PV->Prop}{l m:List PV} (h:∀ y,y∈l->P y) (hm:∀ y,y∈m->P y):∀ y,y∈l++m->P y:=fun y hy=>by
 rcases List.mem_append.1 hy with hy | hy
 ·exact h y hy
 ·exact hm y hy
theorem agj {P:PV->Prop}:∀ y,y∈([]:List PV)->P y:=fun y hy=>by cases hy
theorem Rs.bind_assoc {α β γ:Type} (x:Rs α) (f:α->List Tk->Rs β) (g:β->List Tk->Rs γ):(x.bind f).bind g=x.bind fun v r=>(f v r).bind g:=by
 cases x<;>rfl
inductive PL {α β R S Z σ:Type} (t:List PV) (st:β->Int->σ) (spec:List Tk->β->Rs α) (J:β->Nat->Prop) (ok:R->S) (er:PV×Z->S) (I:α->Nat->Prop) (mk:α->Int->R) (i:Nat) (x:Rs α) (y:Option (σ⊕S)):Prop
 | go (b:β) (j:Nat):i<j->j<=t.length->J b j->x=spec (ts t j) b->y=some (.inl (st b ((j:Nat):Int)))->PL t st spec J ok er I mk i x y
 | done (v:α) (j:Nat):j<=t.length->I v j->x=.ok v (ts t j)->y=some (.inr (ok (mk v ((j:Nat):Int))))->PL t st spec J ok er I mk i x y
 | er (j:Nat) (e:Int) (z:Z):j<=t.length->e≠0->x=.er (ts t j) e->y=some (.inr (er (PV.agg [PV.int ((j:Nat):Int),PV.int e],z)))->PL t st spec J ok er I mk i x y
section
variable {α β R S Z σ:Type}{t:List PV}{st:β->Int->σ}{spec:List Tk->β->Rs α}{J:β->Nat->Prop}{ok:R->S}{er:PV×Z->S}{I:α->Nat->Prop}{mk:α->Int->R}{i:Nat}
theorem PL.loop {step:σ->Option (σ⊕S)} (h:∀ i b,i<=t.length->J b i->PL t st spec J ok er I mk i (spec (ts t i) b) (step (st b (i:Int)))):∀ (m i:Nat) (b:β),t.length-i<=m->i<=t.length->J b i->PG t ok er I mk (spec (ts t i) b) (abi step (st b (i:Int))):=by
 intro m
 induction m with
 | zero=>
  intro i b hm hi hj
  rcases h i b hi hj with ⟨b',j,h1,h2,_⟩ | ⟨v,j,h1,h2,h3,h4⟩ | ⟨j,e,z,h1,h2,h3,h4⟩
  ·omega
  ·exact .ok v j h1 h2 h3 (aac h4)
  ·exact .er j e z h1 h2 h3 (aac h4)
 | succ m ih=>
  intro i b hm hi hj
  rcases h i b hi hj with ⟨b',j,h1,h2,h3,h4,h5⟩ | ⟨v,j,h1,h2,h3,h4⟩ | ⟨j,e,z,h1,h2,h3,h4⟩
  ·rw [h4,aax h5];exact ih j b' (by omega) h2 h3
  ·exact .ok v j h1 h2 h3 (aac h4)
  ·exact .er j e z h1 h2 h3 (aac h4)
theorem PL.seq {α0 R0 Z0:Type}{I0:α0->Nat->Prop}{mk0:α0->Int->R0}{x0:Rs α0}{y0:Option (R0⊕(PV×Z0))}{f:α0->List Tk->Rs α}{g:R0->Option (σ⊕S)}{E:PV×Z0->Option (σ⊕S)}
 (h:PG t Sum.inl Sum.inr I0 mk0 x0 y0) (hc:∀ v j,j<=t.length->I0 v j->x0=.ok v (ts t j)->PL t st spec J ok er I mk i (f v (ts t j)) (g (mk0 v ((j:Nat):Int)))) (hE:∀ p z,∃ z',E (p,z)=some (.inr (er (p,z')))):
 PL t st spec J ok er I mk i (x0.bind f) (y0.bind fun z=>sumE g E z):=by
 rcases h with ⟨v,j,hj,hi,hx,hy⟩ | ⟨j,e,z,hj,he,hx,hy⟩
 ·have:=hc v j hj hi hx
  rw [hx,hy];exact this
 ·obtain ⟨z',hz⟩:=hE (PV.agg [PV.int ((j:Nat):Int),PV.int e]) z
  rw [hx,hy];exact .er j e z' hj he rfl hz
theorem PL.may (ht:TOk t) (s:List UInt8) (k:Int) (hk:kOf s=k) (j:Nat) (hj:j<=t.length) (q:QF) {K:Bool×Q0->Option (σ⊕S)}{x1 x2:Rs α}
 (h1:isS k s (ts t j)=true->j+1<=t.length->PL t st spec J ok er I mk i x1 (K (true,(t,((j+1:Nat):Int),q)))) (h2:isS k s (ts t j)=false->PL t st spec J ok er I mk i x2 (K (false,(t,(j:Int),q)))):
 PL t st spec J ok er I mk i (bif isS k s (ts t j) then x1 else x2) ((F91 0 () s (t,(j:Int),q)).bind K):=by
 rw [akq s k hk t ht j hj q,Option.bind_some]
 cases h:isS k s (ts t j) with
 | true=>exact h1 h (adb h)
 | false=>exact h2 h
theorem PL.sign (ht:TOk t) (s:List UInt8) (k:Int) (hk:kOf s=k) (j:Nat) (hj:j<=t.length) (q:QF) {K:Bool×Q0->Option (σ⊕S)}{x1 x2:Rs α}
 (h1:isS k s (ts t j)=true->PL t st spec J ok er I mk i x1 (K (true,(t,(j:Int),q)))) (h2:isS k s (ts t j)=false->PL t st spec J ok er I mk i x2 (K (false,(t,(j:Int),q)))):
 PL t st spec J ok er I mk i (bif isS k s (ts t j) then x1 else x2) ((F96 0 () s (t,(j:Int),q)).bind K):=by
 rw [aoy s k hk t ht j hj q,Option.bind_some]
 cases h:isS k s (ts t j) with
 | true=>exact h1 h
 | false=>exact h2 h
end
section
variable {t:List PV}
theorem a0l (most:Int) (l:List Tk) (acc:List PV):adr most l acc=(numS most l).bind fun a r=>bif isS 4 [45] r then ((numS most r.tail).bind fun b r2=>bif isS 4 [59] r2 then .ok (acc++[PV.agg [PV.int a,PV.int b]]) r2.tail else (eatS 4 [44] r2).bind fun _ r3=>adr most r3 (acc++[PV.agg [PV.int a,PV.int b]]))
 else (bif isS 4 [59] r then .ok (acc++[PV.agg [PV.int a,PV.int a]]) r.tail else (eatS 4 [44] r).bind fun _ r3=>adr most r3 (acc++[PV.agg [PV.int a,PV.int a]])):=by
 rw [av6]
 unfold at6
 simp only [Rs.bind_assoc,Rs.bind_ok]
 congr 1
 funext a r
 cases isS 4 [45] r<;>rfl
theorem as5 (ht:TOk t) (hn:∀ x,x∈t->-9223372036854775808<=(x.fld 2).asInt/\(x.fld 2).asInt<=9223372036854775807) (h5:t.length<=100000) (most:Int) (hm:0<=most/\most<=2147483647) (i0:Nat) (hi0:i0<=t.length) (q:QF):
 PG t Sum.inl Sum.inr (fun v j=>v.length+i0<=j) (fun v j=>(v,(t,j,q))) (adr most (ts t i0) []) (F208 0 () most (t,(i0:Int),q)):=by
 have lp:=PL.loop (t:=t) (st:=fun (b:List PV) j=>((),most,b,((t,j,q):Q0))) (spec:=fun l b=>adr most l b) (J:=fun b j=>b.length+i0<=j) (ok:=Sum.inl) (er:=Sum.inr) (I:=fun v j=>v.length+i0<=j) (mk:=fun v j=>(v,((t,j,q):Q0))) (step:=S208_3step 0) (fun i b hi hj=>by
  have ea:∀ x:PV,decide (b.length+[x].length<=aal)=true:=fun x=>accL (by simp;omega)
  show PL t _ _ _ _ _ _ _ i (adr most (ts t i) b) _
  rw [a0l]
  simp only [S208_3step,S208_3,ea,cond_true]
  refine PL.seq (aqn t ht i hi most hm hn q).pg (fun a j hj2 _ hx=>?_) (fun p z=>⟨_,rfl⟩)
  have h1:=ac8 hi hj2 (amu most _) hx
  refine PL.may ht [45] 4 (by decide) j hj2 q (fun _ hj3=>?_) (fun _=>?_)
  ·simp only [cond_true,aa0]
   refine PL.seq (aqn t ht (j+1) hj3 most hm hn q).pg (fun c k hk _ hx2=>?_) (fun p z=>⟨_,rfl⟩)
   have h2:=ac8 hj3 hk (amu most _) hx2
   refine PL.may ht [59] 4 (by decide) k hk q (fun _ hk3=>?_) (fun _=>?_)
   ·simp only [cond_true,aa0]
    exact .done _ (k+1) hk3 (by simp;omega) rfl rfl
   ·simp only [cond_false]
    refine PL.seq (ad2 [44] 4 (by decide) t ht k hk q).pg (fun _ l hl _ hx3=>?_) (fun p z=>⟨_,rfl⟩)
    have h3:=ac8 hk hl (abh _ _ _) hx3
    exact .go (b++[PV.agg [PV.int a,PV.int c]]) l (by omega) hl (by simp;omega) rfl rfl
  ·simp only [cond_false]
   refine PL.may ht [59] 4 (by decide) j hj2 q (fun _ hk3=>?_) (fun _=>?_)
   ·simp only [cond_true,aa0]
    exact .done _ (j+1) hk3 (by simp;omega) rfl rfl
   ·simp only [cond_false]
    refine PL.seq (ad2 [44] 4 (by decide) t ht j hj2 q).pg (fun _ l hl _ hx3=>?_) (fun p z=>⟨_,rfl⟩)
    have h3:=ac8 hj2 hl (abh _ _ _) hx3
    exact .go (b++[PV.agg [PV.int a,PV.int a]]) l (by omega) hl (by simp;omega) rfl rfl) t.length i0 [] (by omega) hi0 (by simp)
 unfold F208
 rw [aaq]
 rcases lp with ⟨v,j,hj,hv,hx,hy⟩ | ⟨j,e,z,hj,he,hx,hy⟩
 ·exact .ok v j hj hv hx (by rw [hy];rfl)
 ·exact .er j e z hj he hx (by rw [hy];rfl)
theorem az5 (po:adu) (ht:TNum t) (h5:t.length<=100000) (i0:Nat) (hi0:i0<=t.length) (q:QF):
 PG t Sum.inl Sum.inr (fun v j=>v.length+i0<=j/\∀ x,x∈v->air x) (fun v j=>(v,(t,j,q))) (asx parV aae (ts t i0)) (F206 0 () (t,(i0:Int),q)):=by
 have h0:=ht.toTOk
 have lp:=fun (un:List UInt8)=>PL.loop (t:=t) (st:=fun (b:List PV) j=>((),un,b,((t,j,q):Q0))) (spec:=fun l b=>adv parV aae un l b) (J:=fun b j=>b.length+i0<=j/\∀ x,x∈b->air x) (ok:=Sum.inl) (er:=Sum.inr) (I:=fun v j=>v.length+i0<=j/\∀ x,x∈v->air x) (mk:=fun v j=>(v,((t,j,q):Q0))) (step:=S206_6step 0) (fun i b hi hJ=>by
  obtain ⟨hj,hok⟩:=hJ
  have ea:∀ x:PV,decide (b.length+[x].length<=aal)=true:=fun x=>accL (by simp;omega)
  show PL t _ _ _ _ _ _ _ i (adv parV aae un (ts t i) b) _
  rw [apj]
  simp only [S206_6step,S206_6,ea,cond_true]
  refine PL.seq (avy t h0 i hi q).pg (fun ty j hj2 _ hx=>?_) (fun p z=>⟨_,rfl⟩)
  have h1:=ac8 hi hj2 (asg _) hx
  refine PL.seq (aq6 po 2 0 ty un false (by
   unfold typS at hx
   cases hq:aey (ts t i)<;>rw [hq] at hx<;>simp only [Rs.bind] at hx<;>cases hx
   exact ark _) t ht j hj2 q).pg (fun x k hk _ hx2=>?_) (fun p z=>⟨_,rfl⟩)
  have h2:=ac8 hj2 hk (anf parV aae _ _ _ _ _ _) hx2
  have hfo:air x:=⟨apn (a2y ht j) (fun h=>by cases h) hx2,by have:=am4 hx2;rw [abm] at this;omega⟩
  refine PL.may h0 [125] 4 (by decide) k hk q (fun _ hk3=>?_) (fun _=>?_)
  ·simp only [cond_true,aa0]
   exact .done (b++[x]) (k+1) hk3 ⟨by simp;omega,aez hok hfo⟩ rfl rfl
  ·simp only [cond_false]
   exact .go (b++[x]) k (by omega) hk ⟨by simp;omega,aez hok hfo⟩ rfl rfl)
 unfold F206 asx
 refine PG.seq (ad2 [117,110,105,111,110] 1 (by decide) t h0 i0 hi0 q).pg (fun _ j hj _ hx=>?_) (fun p z=>⟨_,rfl⟩)
 have h1:=ac8 hi0 hj (abh _ _ _) hx
 refine PG.seq (ai1 t h0 j hj q).pg (fun un k hk _ hx2=>?_) (fun p z=>⟨_,rfl⟩)
 have h2:=ac8 hj hk (aiq _) hx2
 refine PG.seq (ad2 [123] 4 (by decide) t h0 k hk q).pg (fun _ l hl _ hx3=>?_) (fun p z=>⟨_,rfl⟩)
 have h3:=ac8 hk hl (abh _ _ _) hx3
 simp only [aaq]
 rcases lp un t.length l [] (by omega) hl ⟨by simp;omega,agj⟩ with ⟨v,m,hm,hv,hx4,hy⟩ | ⟨m,e,z,hm,he,hx4,hy⟩
 ·exact .ok v m hm hv hx4 (by rw [hy];rfl)
 ·exact .er m e z hm he hx4 (by rw [hy];rfl)
theorem awx (ht:TOk t) (i:Nat) (hi:i<=t.length) (q:QF):
 PG t Sum.inl Sum.inr (fun _ _=>True) (fun v j=>(v.1,v.2,(t,j,q))) (ay7 (ts t i)) (F289 0 () (t,(i:Int),q)):=by
 unfold F289 ay7
 refine PG.seq (ad2 [40] 4 (by decide) t ht i hi q).pg (fun _ j hj _ hx=>?_) (fun p z=>⟨_,rfl⟩)
 rw [akq [115,116,114,101,97,109] 1 (by decide) t ht j hj q]
 simp only [Option.bind_some]
 cases h:isS 1 [115,116,114,101,97,109] (ts t j) with
 | true=>
  simp only [cond_true,aa0]
  refine PG.seq (ahn t ht (j+1) (adb h) q).pg (fun s k hk _ hx2=>?_) (fun p z=>⟨_,rfl⟩)
  refine PG.seq (ad2 [41] 4 (by decide) t ht k hk q).pg (fun _ l hl _ hx3=>?_) (fun p z=>⟨_,rfl⟩)
  exact .ok (true,s) l hl trivial rfl rfl
 | false=>
  simp only [cond_false]
  refine PG.seq (ahn t ht j hj q).pg (fun s k hk _ hx2=>?_) (fun p z=>⟨_,rfl⟩)
  refine PG.seq (ad2 [41] 4 (by decide) t ht k hk q).pg (fun _ l hl _ hx3=>?_) (fun p z=>⟨_,rfl⟩)
  exact .ok (false,s) l hl trivial rfl rfl
theorem a8w (po:adu) (ht:TNm t) (h5:t.length<=100000) (i:Nat) (hi:i<=t.length) (q:QF):
 PG t Sum.inl Sum.inr (fun v _=>al2 v) (fun v j=>(v,(t,j,q))) (rpcS parV aae (ts t i)) (F210 0 () (t,(i:Int),q)):=by
 have h0:=ht.toTOk
 unfold F210 rpcS
 refine PG.seq (ad2 [114,112,99] 1 (by decide) t h0 i hi q).pg (fun _ j hj _ _=>?_) (fun p z=>⟨_,rfl⟩)
 refine PG.seq (ai1 t h0 j hj q).pg (fun nm k hk _ _=>?_) (fun p z=>⟨_,rfl⟩)
 refine PG.seq (awx h0 k hk q) (fun a l hl _ _=>?_) (fun p z=>⟨_,rfl⟩)
 refine PG.seq (ad2 [114,101,116,117,114,110,115] 1 (by decide) t h0 l hl q).pg (fun _ m hm _ _=>?_) (fun p z=>⟨_,rfl⟩)
 refine PG.seq (awx h0 m hm q) (fun b n hn _ _=>?_) (fun p z=>⟨_,rfl⟩)
 obtain ⟨a1,a2⟩:=a
 obtain ⟨b1,b2⟩:=b
 simp only
 cases a1<;>cases b1<;>simp only [cond_true,cond_false]<;>refine PG.seq (afi po t ht n hn q).pg (fun ls o ho _ hxn=>?_) (fun p z=>⟨_,rfl⟩)<;>refine PG.seq (ad2 [59] 4 (by decide) t h0 o ho q).pg (fun _ u hu _ _=>?_) (fun p z=>⟨_,rfl⟩)<;>exact .ok (PV.agg [PV.str nm,PV.str a2,PV.str b2,PV.int _,PV.slice ls]) u hu (aeo h5 hxn) rfl rfl
end
end Go.Ab
namespace Go.Ab
open Go
set_option maxRecDepth 100000
section
variable {t:List PV}
theorem a6h (ht:TOk t) (s:List UInt8) (k:Int) (hk:kOf s=k) (i:Nat) (hi:i<=t.length) (q:QF):
 ∃ (op:Bool) (j:Nat),i<=j/\j<=t.length/\isS k s (ts t i)=op/\(bif op then (ts t i).tail else ts t i)=ts t j/\F91 0 () s (t,(i:Int),q)=some (op,(t,(j:Int),q)):=by
 have h:=akq s k hk t ht i hi q
 cases hs:isS k s (ts t i) with
 | true=>
  rw [hs] at h
  exact ⟨true,i+1,by omega,adb hs,rfl,by rw [cond_true,aa0],h⟩
 | false=>
  rw [hs] at h
  exact ⟨false,i,by omega,hi,rfl,rfl,h⟩
theorem a2i (l:List Tk) (its rs:List PV):aer parV aae l its rs=
 bif isS 4 [125] l then .ok (its,rs) l.tail
 else bif isS 1 [114,101,115,101,114,118,101,100] l then (adr 2147483647 l.tail []).bind fun x r=>aer parV aae r its (rs++x)
 else (anv l).bind fun nm r1=>(eatS 4 [61] r1).bind fun _ r2=>(numS 2147483647 r2).bind fun n r3=>(acw parV aae r3).bind fun x r4=>(eatS 4 [59] r4).bind fun _ r5=>aer parV aae r5 (its++[PV.agg [PV.str nm,PV.int n,PV.slice x]]) rs:=by
 rw [awp]
 unfold a7u
 simp only [Rs.bind_assoc,Rs.bind_ok]
theorem aly (po:adu) (ht:TNum t) (h5:t.length<=100000) (outer:List UInt8) (ho:outer.length<=120) (i:Nat) (hi:i<=t.length) (nm sp:List UInt8) (sv im ms es:List PV) (hes:es.length<=1000000):
 PG t Sum.inl Sum.inr (fun v _=>af9 v) (fun v j=>((t,j,nm,sp,(),(),(),sv,im,ms,es++[v]):Q0)) (avo parV aae outer (ts t i)) (F98 0 () outer (t,(i:Int),nm,sp,(),(),(),sv,im,ms,es)):=by
 have h0:=ht.toTOk
 have hl:=ht.len
 obtain ⟨op,j0,hij,hj0,e1,e2,e3⟩:=a6h h0 [111,112,101,110] 1 (by decide) i hi (nm,sp,(),(),(),sv,im,ms,es)
 unfold F98 avo
 rw [e1,e2,e3,Option.bind_some]
 refine PG.seq (ad2 [101,110,117,109] 1 (by decide) t h0 j0 hj0 (nm,sp,(),(),(),sv,im,ms,es)).pg (fun _ j hj _ _=>?_) (fun p z=>⟨_,rfl⟩)
 have ea:∀ x:PV,decide (es.length+[x].length<=aal)=true:=fun x=>accL (by simp;omega)
 simp only [ea,cond_true]
 refine PG.seq (amv outer ho t h0 j hj nm sp sv im ms _) (fun name k hk hname _=>?_) (fun p z=>⟨_,rfl⟩)
 refine PG.seq (afi po t ht.toTNm k hk (nm,sp,(),(),(),sv,im,ms,_)).pg (fun nts l hl2 _ hxn=>?_) (fun p z=>⟨_,rfl⟩)
 refine PG.seq (ad2 [123] 4 (by decide) t h0 l hl2 (nm,sp,(),(),(),sv,im,ms,_)).pg (fun _ m hm _ _=>?_) (fun p z=>⟨_,rfl⟩)
 have lp:=PL.loop (t:=t) (st:=fun (b:List PV×List PV) (j:Int)=>((),(),(es.length:Int),t,j,nm,sp,(),(),(),sv,im,ms,es++[PV.agg [PV.str [],PV.bool op,PV.slice [],PV.slice [],PV.slice []]],name,op,b.1,b.2,nts))
  (spec:=fun l b=>aer parV aae l b.1 b.2) (J:=fun b j=>b.1.length+b.2.length<=j/\∀ x,x∈b.1->ava x) (ok:=Sum.inr) (er:=Sum.inl) (I:=fun v j=>v.1.length+v.2.length<=j/\∀ x,x∈v.1->ava x)
  (mk:=fun v (j:Int)=>((),(),(es.length:Int),t,j,nm,sp,(),(),(),sv,im,ms,es++[PV.agg [PV.str [],PV.bool op,PV.slice [],PV.slice [],PV.slice []]],name,op,v.1,v.2,nts)) (step:=S98_8step 0) (fun i b hi hJJ=>by
  obtain ⟨hJ,hok⟩:=hJJ
  have eb:∀ x:PV,decide (b.1.length+[x].length<=aal)=true:=fun x=>accL (by simp;omega)
  show PL t _ _ _ _ _ _ _ i (aer parV aae (ts t i) b.1 b.2) _
  rw [a2i]
  simp only [S98_8step,S98_8]
  refine PL.may h0 [125] 4 (by decide) i hi (nm,sp,(),(),(),sv,im,ms,_) (fun _ hi1=>?_) (fun _=>?_)
  ·simp only [Bool.not_true,cond_false,aa0]
   exact .done (b.1,b.2) (i+1) hi1 ⟨by simp;omega,hok⟩ rfl rfl
  ·simp only [Bool.not_false,cond_true]
   refine PL.may h0 [114,101,115,101,114,118,101,100] 1 (by decide) i hi (nm,sp,(),(),(),sv,im,ms,_) (fun _ hi1=>?_) (fun _=>?_)
   ·simp only [cond_true,aa0]
    refine PL.seq (as5 h0 ht.num h5 2147483647 (by decide) (i+1) hi1 (nm,sp,(),(),(),sv,im,ms,_)) (fun v j hj hv _=>?_) (fun p z=>⟨_,rfl⟩)
    have hv2:v.length+(i+1)<=j:=hv
    have ec:decide (b.2.length+v.length<=aal)=true:=accL (by omega)
    simp only [ec,cond_true]
    exact .go (b.1,b.2++v) j (by omega) hj ⟨by simp;omega,hok⟩ rfl rfl
   ·simp only [cond_false]
    refine PL.seq (ai1 t h0 i hi (nm,sp,(),(),(),sv,im,ms,_)).pg (fun pn j hj _ hx=>?_) (fun p z=>⟨_,rfl⟩)
    have q1:=ac8 hi hj (aiq _) hx
    refine PL.seq (ad2 [61] 4 (by decide) t h0 j hj (nm,sp,(),(),(),sv,im,ms,_)).pg (fun _ k hk _ hx=>?_) (fun p z=>⟨_,rfl⟩)
    have q2:=ac8 hj hk (abh _ _ _) hx
    refine PL.seq (aqn t h0 k hk 2147483647 (by decide) ht.num (nm,sp,(),(),(),sv,im,ms,_)).pg (fun n l hl _ hx=>?_) (fun p z=>⟨_,rfl⟩)
    have q3:=ac8 hk hl (amu _ _) hx
    refine PL.seq (afi po t ht.toTNm l hl (nm,sp,(),(),(),sv,im,ms,_)).pg (fun ns m hm _ hx=>?_) (fun p z=>⟨_,rfl⟩)
    have q4:=a79 hl hm (aeb parV aae _) hx
    have hns:aiv ns:=aeo h5 hx
    refine PL.seq (ad2 [59] 4 (by decide) t h0 m hm (nm,sp,(),(),(),sv,im,ms,_)).pg (fun _ o ho _ hx=>?_) (fun p z=>⟨_,rfl⟩)
    have q5:=ac8 hm ho (abh _ _ _) hx
    simp only [eb,cond_true]
    exact .go (b.1++[PV.agg [PV.str pn,PV.int n,PV.slice ns]],b.2) o (by omega) ho ⟨by simp;omega,aez hok hns⟩ rfl rfl)
  t.length m ([],[]) (by omega) hm ⟨by simp,agj⟩
 simp only [aaq]
 refine PG.swap lp (fun v n hn hv _=>?_) (fun p z=>⟨_,rfl⟩)
 have r0:aaa (es.length:Int) (es++[PV.agg [PV.str [],PV.bool op,PV.slice [],PV.slice [],PV.slice []]]).length=true:=by rw [aab];simp
 simp only [r0,cond_true,Int.toNat_natCast]
 refine .ok (PV.agg [PV.str name,PV.bool op,PV.slice v.1,PV.slice v.2,PV.slice nts]) n hn ⟨show v.1.length<=100000 by omega,hv.2,show v.2.length<=100000 by omega,aeo h5 hxn⟩ rfl ?_
 rw [show (es++[PV.agg [PV.str [],PV.bool op,PV.slice [],PV.slice [],PV.slice []]]).set es.length (PV.agg [PV.str name,PV.bool op,PV.slice v.1,PV.slice v.2,PV.slice nts])=es++[PV.agg [PV.str name,PV.bool op,PV.slice v.1,PV.slice v.2,PV.slice nts]] by simp]
theorem a9g (po:adu) (ht:TNum t) (h5:t.length<=100000) (i:Nat) (hi:i<=t.length) (nm sp:List UInt8) (sv im ms es:List PV) (hsv:sv.length<=1000000):
 PG t Sum.inl Sum.inr (fun v _=>a8b v) (fun v j=>((t,j,nm,sp,(),(),(),sv++[v],im,ms,es):Q0)) (svcS parV aae (ts t i)) (F99 0 () (t,(i:Int),nm,sp,(),(),(),sv,im,ms,es)):=by
 have h0:=ht.toTOk
 have hl:=ht.len
 unfold F99 svcS
 refine PG.seq (ad2 [115,101,114,118,105,99,101] 1 (by decide) t h0 i hi (nm,sp,(),(),(),sv,im,ms,es)).pg (fun _ j hj _ _=>?_) (fun p z=>⟨_,rfl⟩)
 refine PG.seq (amv [] (by simp) t h0 j hj nm sp sv im ms es) (fun name k hk hname _=>?_) (fun p z=>⟨_,rfl⟩)
 refine PG.seq (afi po t ht.toTNm k hk (nm,sp,(),(),(),sv,im,ms,es)).pg (fun nts l hl2 _ hxn=>?_) (fun p z=>⟨_,rfl⟩)
 refine PG.seq (ad2 [123] 4 (by decide) t h0 l hl2 (nm,sp,(),(),(),sv,im,ms,es)).pg (fun _ m hm _ _=>?_) (fun p z=>⟨_,rfl⟩)
 have lp:=PL.loop (t:=t) (st:=fun (b:List PV) (j:Int)=>((),(),t,j,nm,sp,(),(),(),sv,im,ms,es,name,b,nts))
  (spec:=fun l b=>an9 parV aae l b) (J:=fun b j=>b.length<=j/\∀ x,x∈b->al2 x) (ok:=Sum.inr) (er:=Sum.inl) (I:=fun v j=>v.length<=j/\∀ x,x∈v->al2 x)
  (mk:=fun v (j:Int)=>((),(),t,j,nm,sp,(),(),(),sv,im,ms,es,name,v,nts)) (step:=S99_5step 0) (fun i b hi hJJ=>by
  obtain ⟨hJ,hok⟩:=hJJ
  have eb:∀ x:PV,decide (b.length+[x].length<=aal)=true:=fun x=>accL (by simp;omega)
  show PL t _ _ _ _ _ _ _ i (an9 parV aae (ts t i) b) _
  rw [a3f]
  simp only [S99_5step,S99_5]
  refine PL.may h0 [125] 4 (by decide) i hi (nm,sp,(),(),(),sv,im,ms,es) (fun _ hi1=>?_) (fun _=>?_)
  ·simp only [Bool.not_true,cond_false,aa0]
   exact .done b (i+1) hi1 ⟨by omega,hok⟩ rfl rfl
  ·simp only [Bool.not_false,cond_true]
   refine PL.seq (a8w po ht.toTNm h5 i hi (nm,sp,(),(),(),sv,im,ms,es)) (fun x j hj hxm hx=>?_) (fun p z=>⟨_,rfl⟩)
   have q1:=ac8 hi hj (a1l parV aae _) hx
   simp only [eb,cond_true]
   exact .go (b++[x]) j (by omega) hj ⟨by simp;omega,aez hok hxm⟩ rfl rfl)
  t.length m [] (by omega) hm ⟨by simp,agj⟩
 simp only [aaq]
 refine PG.swap lp (fun v n hn hv _=>?_) (fun p z=>⟨_,rfl⟩)
 have ea:∀ x:PV,decide (sv.length+[x].length<=aal)=true:=fun x=>accL (by simp;omega)
 simp only [ea,cond_true]
 exact .ok (PV.agg [PV.str name,PV.slice v,PV.slice nts]) n hn ⟨show v.length<=100000 by omega,hv.2,aeo h5 hxn⟩ rfl rfl
end
end Go.Ab
namespace Go.Ab
open Go
set_option maxRecDepth 100000
inductive PN {α R S Z:Type} (N:Nat) (t:List PV) (ok:R->S) (er:PV×Z->S) (I:α->Nat->Prop) (mk:α->Int->R) (x:Rs α) (y:Nat->Option S):Prop
 | ok (v:α) (j:Nat):j<=t.length->I v j->x=.ok v (ts t j)->(∀ n,N<=n->y n=some (ok (mk v ((j:Nat):Int))))->PN N t ok er I mk x y
 | er (j:Nat) (e:Int) (z:Z):j<=t.length->e≠0->x=.er (ts t j) e->(∀ n,N<=n->y n=some (er (PV.agg [PV.int ((j:Nat):Int),PV.int e],z)))->PN N t ok er I mk x y
theorem PG.pn {α R S Z:Type}{N:Nat}{t:List PV}{ok:R->S}{er:PV×Z->S}{I:α->Nat->Prop}{mk:α->Int->R}{x:Rs α}{y:Option S} (h:PG t ok er I mk x y):PN N t ok er I mk x (fun _=>y):=by
 rcases h with ⟨v,j,h1,h2,h3,h4⟩ | ⟨j,e,z,h1,h2,h3,h4⟩
 ·exact .ok v j h1 h2 h3 fun _ _=>h4
 ·exact .er j e z h1 h2 h3 fun _ _=>h4
theorem PN.pg {α R S Z:Type}{N:Nat}{t:List PV}{ok:R->S}{er:PV×Z->S}{I:α->Nat->Prop}{mk:α->Int->R}{x:Rs α}{y:Nat->Option S}{Y:Option S} (h:PN N t ok er I mk x y) (hy:∀ z,(∀ n,N<=n->y n=some z)->Y=some z):PG t ok er I mk x Y:=by
 rcases h with ⟨v,j,h1,h2,h3,h4⟩ | ⟨j,e,z,h1,h2,h3,h4⟩
 ·exact .ok v j h1 h2 h3 (hy _ h4)
 ·exact .er j e z h1 h2 h3 (hy _ h4)
theorem PN.shift {α R S Z:Type}{N:Nat}{t:List PV}{ok:R->S}{er:PV×Z->S}{I:α->Nat->Prop}{mk:α->Int->R}{x:Rs α}{y y':Nat->Option S} (h:PN N t ok er I mk x y) (hy:∀ n,y' (n+1)=y n):PN (N+1) t ok er I mk x y':=by
 have hs:∀ n,N+1<=n->y' n=y (n-1):=fun n hn=>by
  obtain ⟨m,rfl⟩:∃ m,n=m+1:=⟨n-1,by omega⟩
  rw [hy];rfl
 rcases h with ⟨v,j,h1,h2,h3,h4⟩ | ⟨j,e,z,h1,h2,h3,h4⟩
 ·exact .ok v j h1 h2 h3 fun n hn=>by rw [hs n hn];exact h4 _ (by omega)
 ·exact .er j e z h1 h2 h3 fun n hn=>by rw [hs n hn];exact h4 _ (by omega)
theorem PN.seq {α β R R' S' Z Z':Type}{N:Nat}{t:List PV}{I:α->Nat->Prop}{I':β->Nat->Prop}{mk:α->Int->R}{ok':R'->S'}{er':PV×Z'->S'}{mk':β->Int->R'}{x:Rs α}{y:Option (R⊕(PV×Z))}{f:α->List Tk->Rs β}{g:Nat->R->Option S'}{E:PV×Z->Option S'}
 (h:PG t Sum.inl Sum.inr I mk x y) (hc:∀ v j,j<=t.length->I v j->x=.ok v (ts t j)->PN N t ok' er' I' mk' (f v (ts t j)) (fun n=>g n (mk v ((j:Nat):Int)))) (hE:∀ p z,∃ z',E (p,z)=some (er' (p,z'))):
 PN N t ok' er' I' mk' (x.bind f) (fun n=>y.bind fun z=>sumE (g n) E z):=by
 rcases h with ⟨v,j,hj,hi,hx,hy⟩ | ⟨j,e,z,hj,he,hx,hy⟩
 ·have:=hc v j hj hi hx
  rw [hx,hy];exact this
 ·obtain ⟨z',hz⟩:=hE (PV.agg [PV.int ((j:Nat):Int),PV.int e]) z
  rw [hx,hy];exact .er j e z' hj he rfl fun _ _=>hz
theorem PN.swap {α β R R' S' Z Z':Type}{N:Nat}{t:List PV}{I:α->Nat->Prop}{I':β->Nat->Prop}{mk:α->Int->R}{ok':R'->S'}{er':PV×Z'->S'}{mk':β->Int->R'}{x:Rs α}{y:Nat->Option ((PV×Z)⊕R)}{f:α->List Tk->Rs β}{g:R->Option S'}{E:PV×Z->Option S'}
 (h:PN N t Sum.inr Sum.inl I mk x y) (hc:∀ v j,j<=t.length->I v j->x=.ok v (ts t j)->PG t ok' er' I' mk' (f v (ts t j)) (g (mk v ((j:Nat):Int)))) (hE:∀ p z,∃ z',E (p,z)=some (er' (p,z'))):
 PN N t ok' er' I' mk' (x.bind f) (fun n=>(y n).bind fun z=>sumE E g z):=by
 rcases h with ⟨v,j,hj,hi,hx,hy⟩ | ⟨j,e,z,hj,he,hx,hy⟩
 ·have:=hc v j hj hi hx
  rw [hx]
  rcases this with ⟨w,k,h1,h2,h3,h4⟩ | ⟨k,e,z,h1,h2,h3,h4⟩
  ·exact .ok w k h1 h2 h3 fun n hn=>by rw [hy n hn];exact h4
  ·exact .er k e z h1 h2 h3 fun n hn=>by rw [hy n hn];exact h4
 ·obtain ⟨z',hz⟩:=hE (PV.agg [PV.int ((j:Nat):Int),PV.int e]) z
  rw [hx];exact .er j e z' hj he rfl fun n hn=>by rw [hy n hn];exact hz
inductive PM {α β R S Z σ:Type} (N:Nat) (t:List PV) (st:β->Int->σ) (spec:List Tk->β->Rs α) (J:β->Nat->Prop) (ok:R->S) (er:PV×Z->S) (I:α->Nat->Prop) (mk:α->Int->R) (i:Nat) (x:Rs α) (y:Nat->Option (σ⊕S)):Prop
 | go (b:β) (j:Nat):i<j->j<=t.length->J b j->x=spec (ts t j) b->(∀ n,N<=n->y n=some (.inl (st b ((j:Nat):Int))))->PM N t st spec J ok er I mk i x y
 | done (v:α) (j:Nat):j<=t.length->I v j->x=.ok v (ts t j)->(∀ n,N<=n->y n=some (.inr (ok (mk v ((j:Nat):Int)))))->PM N t st spec J ok er I mk i x y
 | er (j:Nat) (e:Int) (z:Z):j<=t.length->e≠0->x=.er (ts t j) e->(∀ n,N<=n->y n=some (.inr (er (PV.agg [PV.int ((j:Nat):Int),PV.int e],z))))->PM N t st spec J ok er I mk i x y
section
variable {α β R S Z σ:Type}{N:Nat}{t:List PV}{st:β->Int->σ}{spec:List Tk->β->Rs α}{J:β->Nat->Prop}{ok:R->S}{er:PV×Z->S}{I:α->Nat->Prop}{mk:α->Int->R}{i:Nat}
theorem PM.loop {step:Nat->σ->Option (σ⊕S)} (h:∀ i b,i<=t.length->J b i->PM N t st spec J ok er I mk i (spec (ts t i) b) (fun n=>step n (st b (i:Int)))):∀ (m i:Nat) (b:β),t.length-i<=m->i<=t.length->J b i->PN N t ok er I mk (spec (ts t i) b) (fun n=>abi (step n) (st b (i:Int))):=by
 intro m
 induction m with
 | zero=>
  intro i b hm hi hj
  rcases h i b hi hj with ⟨b',j,h1,h2,_⟩ | ⟨v,j,h1,h2,h3,h4⟩ | ⟨j,e,z,h1,h2,h3,h4⟩
  ·omega
  ·exact .ok v j h1 h2 h3 fun n hn=>aac (h4 n hn)
  ·exact .er j e z h1 h2 h3 fun n hn=>aac (h4 n hn)
 | succ m ih=>
  intro i b hm hi hj
  rcases h i b hi hj with ⟨b',j,h1,h2,h3,h4,h5⟩ | ⟨v,j,h1,h2,h3,h4⟩ | ⟨j,e,z,h1,h2,h3,h4⟩
  ·rw [h4]
   rcases ih j b' (by omega) h2 h3 with ⟨v,k,g1,g2,g3,g4⟩ | ⟨k,e,z,g1,g2,g3,g4⟩
   ·exact .ok v k g1 g2 g3 fun n hn=>by rw [aax (h5 n hn)];exact g4 n hn
   ·exact .er k e z g1 g2 g3 fun n hn=>by rw [aax (h5 n hn)];exact g4 n hn
  ·exact .ok v j h1 h2 h3 fun n hn=>aac (h4 n hn)
  ·exact .er j e z h1 h2 h3 fun n hn=>aac (h4 n hn)
theorem PM.seq {α0 R0 Z0:Type}{I0:α0->Nat->Prop}{mk0:α0->Int->R0}{x0:Rs α0}{y0:Nat->Option (R0⊕(PV×Z0))}{f:α0->List Tk->Rs α}{g:R0->Option (σ⊕S)}{E:PV×Z0->Option (σ⊕S)}
 (h:PN N t Sum.inl Sum.inr I0 mk0 x0 y0) (hc:∀ v j,j<=t.length->I0 v j->x0=.ok v (ts t j)->PL t st spec J ok er I mk i (f v (ts t j)) (g (mk0 v ((j:Nat):Int)))) (hE:∀ p z,∃ z',E (p,z)=some (.inr (er (p,z')))):
 PM N t st spec J ok er I mk i (x0.bind f) (fun n=>(y0 n).bind fun z=>sumE g E z):=by
 rcases h with ⟨v,j,hj,hi,hx,hy⟩ | ⟨j,e,z,hj,he,hx,hy⟩
 ·have:=hc v j hj hi hx
  rw [hx]
  rcases this with ⟨w,k,h1,h2,h3,h4,h5⟩ | ⟨w,k,h1,h2,h3,h4⟩ | ⟨k,e,z,h1,h2,h3,h4⟩
  ·exact .go w k h1 h2 h3 h4 fun n hn=>by rw [hy n hn];exact h5
  ·exact .done w k h1 h2 h3 fun n hn=>by rw [hy n hn];exact h4
  ·exact .er k e z h1 h2 h3 fun n hn=>by rw [hy n hn];exact h4
 ·obtain ⟨z',hz⟩:=hE (PV.agg [PV.int ((j:Nat):Int),PV.int e]) z
  rw [hx];exact .er j e z' hj he rfl fun n hn=>by rw [hy n hn];exact hz
theorem PM.may (ht:TOk t) (s:List UInt8) (k:Int) (hk:kOf s=k) (j:Nat) (hj:j<=t.length) (q:QF) {K:Nat->Bool×Q0->Option (σ⊕S)}{x1 x2:Rs α}
 (h1:isS k s (ts t j)=true->j+1<=t.length->PM N t st spec J ok er I mk i x1 (fun n=>K n (true,(t,((j+1:Nat):Int),q)))) (h2:isS k s (ts t j)=false->PM N t st spec J ok er I mk i x2 (fun n=>K n (false,(t,(j:Int),q)))):
 PM N t st spec J ok er I mk i (bif isS k s (ts t j) then x1 else x2) (fun n=>(F91 0 () s (t,(j:Int),q)).bind (K n)):=by
 rw [akq s k hk t ht j hj q]
 simp only [Option.bind_some]
 cases h:isS k s (ts t j) with
 | true=>exact h1 h (adb h)
 | false=>exact h2 h
theorem PM.sign (ht:TOk t) (s:List UInt8) (k:Int) (hk:kOf s=k) (j:Nat) (hj:j<=t.length) (q:QF) {K:Nat->Bool×Q0->Option (σ⊕S)}{x1 x2:Rs α}
 (h1:isS k s (ts t j)=true->PM N t st spec J ok er I mk i x1 (fun n=>K n (true,(t,(j:Int),q)))) (h2:isS k s (ts t j)=false->PM N t st spec J ok er I mk i x2 (fun n=>K n (false,(t,(j:Int),q)))):
 PM N t st spec J ok er I mk i (bif isS k s (ts t j) then x1 else x2) (fun n=>(F96 0 () s (t,(j:Int),q)).bind (K n)):=by
 rw [aoy s k hk t ht j hj q]
 simp only [Option.bind_some]
 cases h:isS k s (ts t j) with
 | true=>exact h1 h
 | false=>exact h2 h
end
section
variable {t:List PV}
theorem axi {α:Type} (a b:Bool) (x y:Rs α):(bif a||b then x else y)=bif a then x else (bif b then x else y):=by cases a<;>cases b<;>rfl
def MBok (L:Nat) (b:MB) (j:Nat):Prop:=b.fs.length<=j/\b.rs.length<=j/\b.gs.length<=j/\b.ms.length<=j/\b.es.length<=j/\L<=b.ms.length/\(∀ x,x∈b.fs->air x)/\(∀ x,x∈b.ms->ai0 x)/\(∀ x,x∈b.es->af9 x)
theorem ays (po:adu) (ht:TNum t) (h5:t.length<=100000) (N d:Nat) (a2:Nat) (ha:a2<=15) (k0:Int) (name:List UInt8) (hname:name.length<=120) (nm sp:List UInt8) (sv im:List PV) (nts:List PV)
 (ih:∀ (i:Nat) (ms es:List PV),i<=t.length->ms.length<=i->es.length<=i->(∀ x,x∈ms->ai0 x)->(∀ x,x∈es->af9 x)->PN N t Sum.inl Sum.inr (fun v j=>v.1.length<=j/\v.2.length<=j/\ms.length<=v.1.length/\(∀ x,x∈v.1->ai0 x)/\(∀ x,x∈v.2->af9 x)) (fun v j=>((t,j,nm,sp,(),(),(),sv,im,v.1,v.2):Q0)) (msgS parV aae d name ms es (ts t i)) (fun n=>G97 0 n ((),name,(((a2+1:Nat)):Int),(t,(i:Int),nm,sp,(),(),(),sv,im,ms,es))))
 (i:Nat) (b:MB) (hi:i<=t.length) (L:Nat) (hJ:MBok L b i):
 PM N t (fun (b:MB) (j:Int)=>((),(a2:Int),k0,(),t,j,nm,sp,(),(),(),sv,im,b.ms,b.es,name,b.fs,b.rs,b.gs,nts)) (fun l b=>acx parV aae (msgS parV aae d) name l b) (MBok L) Sum.inr Sum.inl (MBok L)
  (fun (v:MB) (j:Int)=>((),k0,(),t,j,nm,sp,(),(),(),sv,im,v.ms,v.es,name,v.fs,v.rs,v.gs,nts)) i (acx parV aae (msgS parV aae d) name (ts t i) b) (fun n=>B97_9step 0 (G97 0 n) ((),(a2:Int),k0,(),t,(i:Int),nm,sp,(),(),(),sv,im,b.ms,b.es,name,b.fs,b.rs,b.gs,nts)):=by
 have h0:=ht.toTOk
 obtain ⟨j1,j2,j3,j4,j5,j6,o1,o2,o3⟩:=hJ
 rw [alt parV aae _ (aom parV aae d),axi]
 simp only [B97_9step,B97_9]
 refine PM.may h0 [125] 4 (by decide) i hi (nm,sp,(),(),(),sv,im,b.ms,b.es) (fun _ hi1=>?_) (fun _=>?_)
 ·simp only [Bool.not_true,cond_false,aa0]
  exact .done b (i+1) hi1 ⟨by omega,by omega,by omega,by omega,by omega,j6,o1,o2,o3⟩ rfl fun _ _=>rfl
 simp only [Bool.not_false,cond_true]
 refine PM.sign h0 [117,110,105,111,110] 1 (by decide) i hi (nm,sp,(),(),(),sv,im,b.ms,b.es) (fun _=>?_) (fun _=>?_)
 ·simp only [cond_true]
  refine PM.seq (az5 po ht h5 i hi (nm,sp,(),(),(),sv,im,b.ms,b.es)).pn (fun v j hj hv hx=>?_) (fun p z=>⟨_,rfl⟩)
  have hv2:v.length+i<=j:=hv.1
  have q1:=ac8 hi hj (aqy parV aae _) hx
  have ec:decide (b.fs.length+v.length<=aal)=true:=accL (by omega)
  simp only [ec,cond_true]
  exact .go { b with fs:=b.fs++v } j q1 hj ⟨by simp;omega,by simp;omega,by simp;omega,by simp;omega,by simp;omega,j6,a6u o1 hv.2,o2,o3⟩ rfl rfl
 simp only [cond_false]
 refine PM.sign h0 [109,101,115,115,97,103,101] 1 (by decide) i hi (nm,sp,(),(),(),sv,im,b.ms,b.es) (fun _=>?_) (fun _=>?_)
 ·simp only [cond_true]
  have w:IntKind.wrap .i64 ((a2:Int)+1)=((a2+1:Nat):Int):=ab2 (by omega)
  simp only [w]
  refine PM.seq (ih i b.ms b.es hi j4 j5 o2 o3) (fun v j hj hv hx=>?_) (fun p z=>⟨_,rfl⟩)
  have q1:=ac8 hi hj (aom parV aae d _ _ _ _) hx
  exact .go { b with ms:=v.1,es:=v.2 } j q1 hj ⟨by simp;omega,by simp;omega,by simp;omega,hv.1,hv.2.1,Nat.le_trans j6 hv.2.2.1,o1,hv.2.2.2.1,hv.2.2.2.2⟩ rfl rfl
 simp only [cond_false]
 refine PM.sign h0 [101,110,117,109] 1 (by decide) i hi (nm,sp,(),(),(),sv,im,b.ms,b.es) (fun _=>?_) (fun _=>?_)
 ·simp only [Bool.not_true,cond_false,cond_true]
  refine PM.seq (aly po ht h5 name hname i hi nm sp sv im b.ms b.es (by omega)).pn (fun v j hj hve hx=>?_) (fun p z=>⟨_,rfl⟩)
  have q1:=ac8 hi hj (aip parV aae _ _) hx
  exact .go { b with es:=b.es++[v] } j q1 hj ⟨by simp;omega,by simp;omega,by simp;omega,by simp;omega,by simp;omega,j6,o1,o2,aez o3 hve⟩ rfl rfl
 simp only [Bool.not_false,cond_true,cond_false]
 refine PM.sign h0 [111,112,101,110] 1 (by decide) i hi (nm,sp,(),(),(),sv,im,b.ms,b.es) (fun _=>?_) (fun _=>?_)
 ·simp only [cond_true]
  refine PM.seq (aly po ht h5 name hname i hi nm sp sv im b.ms b.es (by omega)).pn (fun v j hj hve hx=>?_) (fun p z=>⟨_,rfl⟩)
  have q1:=ac8 hi hj (aip parV aae _ _) hx
  exact .go { b with es:=b.es++[v] } j q1 hj ⟨by simp;omega,by simp;omega,by simp;omega,by simp;omega,by simp;omega,j6,o1,o2,aez o3 hve⟩ rfl rfl
 simp only [cond_false]
 refine PM.may h0 [114,101,115,101,114,118,101,100] 1 (by decide) i hi (nm,sp,(),(),(),sv,im,b.ms,b.es) (fun _ hi1=>?_) (fun _=>?_)
 ·simp only [cond_true,aa0,ad9 t (i+1) (nm,sp,(),(),(),sv,im,b.ms,b.es),Option.bind_some]
  cases h3:(aap (ts t (i+1))==3) with
  | true=>
   simp only [cond_true]
   refine PM.seq (a6b t h0 h5 (i+1) hi1 (nm,sp,(),(),(),sv,im,b.ms,b.es)).pn (fun v j hj hv hx=>?_) (fun p z=>⟨_,rfl⟩)
   have hv2:v.length+(i+1)<=j:=hv
   have ec:decide (b.gs.length+v.length<=aal)=true:=accL (by omega)
   simp only [ec,cond_true]
   exact .go { b with gs:=b.gs++v } j (by omega) hj ⟨by simp;omega,by simp;omega,by simp;omega,by simp;omega,by simp;omega,j6,o1,o2,o3⟩ rfl rfl
  | false=>
   simp only [cond_false]
   refine PM.seq (as5 h0 ht.num h5 65535 (by decide) (i+1) hi1 (nm,sp,(),(),(),sv,im,b.ms,b.es)).pn (fun v j hj hv hx=>?_) (fun p z=>⟨_,rfl⟩)
   have hv2:v.length+(i+1)<=j:=hv
   have ec:decide (b.rs.length+v.length<=aal)=true:=accL (by omega)
   simp only [ec,cond_true]
   exact .go { b with rs:=b.rs++v } j (by omega) hj ⟨by simp;omega,by simp;omega,by simp;omega,by simp;omega,by simp;omega,j6,o1,o2,o3⟩ rfl rfl
 ·simp only [cond_false]
  refine PM.seq (anz po t ht i hi (nm,sp,(),(),(),sv,im,b.ms,b.es)).pg.pn (fun v j hj _ hx=>?_) (fun p z=>⟨_,rfl⟩)
  have q1:=ac8 hi hj (arl parV aae _) hx
  have ec:decide (b.fs.length+[v].length<=aal)=true:=accL (by simp;omega)
  simp only [ec,cond_true]
  have hfo:air v:=⟨awl (a2y ht i) hx,by have:=asc hx;rw [abm] at this;omega⟩
  exact .go { b with fs:=b.fs++[v] } j q1 hj ⟨by simp;omega,by simp;omega,by simp;omega,by simp;omega,by simp;omega,j6,aez o1 hfo,o2,o3⟩ rfl rfl
theorem bba (po:adu) (ht:TNum t) (h5:t.length<=100000) (nm sp:List UInt8) (sv im:List PV):∀ (d a2:Nat),a2+d=16->∀ (outer:List UInt8),outer.length<=120->∀ (i:Nat) (ms es:List PV),i<=t.length->ms.length<=i->es.length<=i->(∀ x,x∈ms->ai0 x)->(∀ x,x∈es->af9 x)->
 PN (d+1) t Sum.inl Sum.inr (fun v j=>v.1.length<=j/\v.2.length<=j/\ms.length<=v.1.length/\(∀ x,x∈v.1->ai0 x)/\(∀ x,x∈v.2->af9 x)) (fun v j=>((t,j,nm,sp,(),(),(),sv,im,v.1,v.2):Q0)) (msgS parV aae d outer ms es (ts t i)) (fun n=>G97 0 n ((),outer,((a2:Nat):Int),(t,(i:Int),nm,sp,(),(),(),sv,im,ms,es))):=by
 have h0:=ht.toTOk
 intro d
 induction d with
 | zero=>
  intro a2 ha outer ho i ms es hi hm he om oe
  have hd:decide (((a2:Nat):Int)≥16)=true:=decide_eq_true (by omega)
  refine .er i 17 (t,(i:Int),nm,sp,(),(),(),sv,im,ms,es) hi (by decide) rfl fun n hn=>?_
  obtain ⟨m,rfl⟩:∃ m,n=m+1:=⟨n-1,by omega⟩
  simp only [G97,B97,hd,cond_true]
 | succ d ih=>
  intro a2 ha outer ho i ms es hi hm he om oe
  have hd:decide (((a2:Nat):Int)≥16)=false:=decide_eq_false (by omega)
  refine PN.shift (y:=fun n=>B97 0 (G97 0 n) () outer ((a2:Nat):Int) (t,(i:Int),nm,sp,(),(),(),sv,im,ms,es)) ?_ fun n=>rfl
  simp only [B97,hd,cond_false]
  unfold msgS
  refine PN.seq (ad2 [109,101,115,115,97,103,101] 1 (by decide) t h0 i hi (nm,sp,(),(),(),sv,im,ms,es)).pg (fun _ j hj _ hx=>?_) (fun p z=>⟨_,rfl⟩)
  have q1:=ac8 hi hj (abh _ _ _) hx
  refine PN.seq (amv outer ho t h0 j hj nm sp sv im ms es) (fun name k hk hname hx2=>?_) (fun p z=>⟨_,rfl⟩)
  have q2:=ac8 hj hk (alv _ _) hx2
  have ec:∀ x:PV,decide (ms.length+[x].length<=aal)=true:=fun x=>accL (by simp;omega)
  simp only [ec,cond_true]
  refine PN.seq (afi po t ht.toTNm k hk (nm,sp,(),(),(),sv,im,ms++[aj7 name [] [] [] []],es)).pg (fun nts l hl _ hx3=>?_) (fun p z=>⟨_,rfl⟩)
  have hnt:=aeo h5 hx3
  have q3:=a79 hk hl (aeb parV aae _) hx3
  refine PN.seq (ad2 [123] 4 (by decide) t h0 l hl (nm,sp,(),(),(),sv,im,ms++[aj7 name [] [] [] []],es)).pg (fun _ m hm2 _ hx4=>?_) (fun p z=>⟨_,rfl⟩)
  have q4:=ac8 hl hm2 (abh _ _ _) hx4
  simp only [aaq]
  have lp:=PM.loop (step:=fun n=>B97_9step 0 (G97 0 n)) (fun i' b hi' hJ=>ays po ht h5 (d+1) d a2 (by omega) (ms.length:Int) name hname nm sp sv im nts (fun i2 ms2 es2 h1 h2 h3 h4 h6=>ih (a2+1) (by omega) name hname i2 ms2 es2 h1 h2 h3 h4 h6) i' b hi' (ms.length+1) hJ) t.length m ⟨[],[],[],ms++[aj7 name [] [] [] []],es⟩ (by omega) hm2 ⟨by simp,by simp,by simp,by simp;omega,show es.length<=m by omega,by simp,agj,aez om ⟨Nat.zero_le _,agj,Nat.zero_le _,Nat.zero_le _,Nat.zero_le _,agj⟩,oe⟩
  refine PN.swap lp (fun v n hn hv hx5=>?_) (fun p z=>⟨_,rfl⟩)
  obtain ⟨g1,g2,g3,g4,g5,hlen,p1,p2,p3⟩:=hv
  have hlen:ms.length<v.ms.length:=hlen
  have hnew:ai0 (aj7 name v.fs v.rs v.gs nts):=⟨show v.fs.length<=100000 by omega,p1,show v.rs.length<=100000 by omega,show v.gs.length<=100000 by omega,hnt⟩
  have r0:aaa (ms.length:Int) v.ms.length=true:=by rw [aab];exact decide_eq_true hlen
  simp only [r0,cond_true,Int.toNat_natCast]
  exact .ok (v.ms.set ms.length (aj7 name v.fs v.rs v.gs nts),v.es) n hn ⟨by simp;exact g4,g5,by simp;omega,fun x hx=>by
   rcases List.mem_or_eq_of_mem_set hx with hx | rfl
   ·exact p2 x hx
   ·exact hnew,p3⟩ rfl rfl
end
end Go.Ab
namespace Go.Ab
open Go
set_option maxRecDepth 100000
noncomputable section
section
variable {t:List PV}
theorem a9i (po:adu) (ht:TNum t) (h5:t.length<=100000) (nm sp:List UInt8) (sv im:List PV) (i:Nat) (ms es:List PV) (hi:i<=t.length) (hm:ms.length<=i) (he:es.length<=i) (om:∀ x,x∈ms->ai0 x) (oe:∀ x,x∈es->af9 x):
 PG t Sum.inl Sum.inr (fun v j=>v.1.length<=j/\v.2.length<=j/\ms.length<=v.1.length/\(∀ x,x∈v.1->ai0 x)/\(∀ x,x∈v.2->af9 x)) (fun v j=>((t,j,nm,sp,(),(),(),sv,im,v.1,v.2):Q0)) (msgS parV aae 16 [] ms es (ts t i)) (F97 0 () [] (0:Int) (t,(i:Int),nm,sp,(),(),(),sv,im,ms,es)):=
 (bba po ht h5 nm sp sv im 16 0 (by omega) [] (by simp) i ms es hi hm he om oe).pg fun z h=>apb 17 h
theorem auw (ht:TOk t) (h5:t.length<=100000) (nm sp:List UInt8) (sv ms es:List PV) (i:Nat) (hi:i<=t.length):
 PG t Sum.inr Sum.inl (fun v j=>v.length<=j) (fun v (j:Int)=>((),((t,j,nm,sp,(),(),(),sv,v,ms,es):Q0))) (adw (ts t i) []) (abi (S44_4step 0) ((),(t,(i:Int),nm,sp,(),(),(),sv,[],ms,es))):=by
 refine PL.loop (t:=t) (st:=fun (b:List PV) (j:Int)=>((),((t,j,nm,sp,(),(),(),sv,b,ms,es):Q0))) (spec:=fun l b=>adw l b) (J:=fun b j=>b.length<=j) (step:=S44_4step 0) (fun i b hi hJ=>?_) t.length i [] (by omega) hi (by simp)
 have eb:∀ x:PV,decide (b.length+[x].length<=aal)=true:=fun x=>accL (by simp;omega)
 show PL t _ _ _ _ _ _ _ i (adw (ts t i) b) _
 rw [akh]
 simp only [S44_4step,S44_4]
 refine PL.may ht [105,109,112,111,114,116] 1 (by decide) i hi (nm,sp,(),(),(),sv,b,ms,es) (fun _ hi1=>?_) (fun _=>?_)
 ·simp only [cond_true,aa0]
  refine PL.seq (agb t ht (i+1) hi1 (nm,sp,(),(),(),sv,b,ms,es)).pg (fun s j hj _ hx=>?_) (fun p z=>⟨_,rfl⟩)
  have q1:=ac8 hi1 hj (ada _) hx
  simp only [eb,cond_true]
  refine PL.seq (ad2 [59] 4 (by decide) t ht j hj (nm,sp,(),(),(),sv,b++[PV.str s],ms,es)).pg (fun _ k hk _ hx2=>?_) (fun p z=>⟨_,rfl⟩)
  have q2:=ac8 hj hk (abh _ _ _) hx2
  exact .go (b++[PV.str s]) k (by omega) hk (by simp;omega) rfl rfl
 ·simp only [cond_false]
  exact .done b i hi hJ rfl rfl
def FBok (b:FB) (j:Nat):Prop:=b.ms.length<=j/\b.es.length<=j/\b.ss.length<=j/\(∀ x,x∈b.ms->ai0 x)/\(∀ x,x∈b.es->af9 x)/\(∀ x,x∈b.ss->a8b x)
theorem a4n (po:adu) (ht:TNum t) (h5:t.length<=100000) (nm sp:List UInt8) (im:List PV) (i:Nat) (hi:i<=t.length):
 PG t Sum.inr Sum.inl FBok (fun (v:FB) (j:Int)=>((t,j,nm,sp,(),(),(),v.ss,im,v.ms,v.es):Q0)) (ajh parV aae (ts t i) ⟨[],[],[]⟩) (abi (S44_7step 0) ((),(t,(i:Int),nm,sp,(),(),(),[],im,[],[]))):=by
 have h0:=ht.toTOk
 refine PL.loop (t:=t) (st:=fun (b:FB) (j:Int)=>((),((t,j,nm,sp,(),(),(),b.ss,im,b.ms,b.es):Q0))) (spec:=fun l b=>ajh parV aae l b) (J:=FBok) (step:=S44_7step 0) (fun i b hi hJ=>?_) t.length i ⟨[],[],[]⟩ (by omega) hi ⟨by simp,by simp,by simp,agj,agj,agj⟩
 obtain ⟨j1,j2,j3,o1,o2,o3⟩:=hJ
 show PL t _ _ _ _ _ _ _ i (ajh parV aae (ts t i) b) _
 rw [apw,axi]
 simp only [S44_7step,S44_7]
 by_cases hlt:i<t.length
 ·have d:decide ((i:Int)<(t.length:Int))=true:=decide_eq_true (by omega)
  have hne:(ts t i).isEmpty=false:=by rw [ad6 hlt];rfl
  rw [d,hne]
  simp only [cond_true,cond_false]
  refine PL.sign h0 [109,101,115,115,97,103,101] 1 (by decide) i hi (nm,sp,(),(),(),b.ss,im,b.ms,b.es) (fun _=>?_) (fun _=>?_)
  ·simp only [cond_true]
   refine PL.seq (a9i po ht h5 nm sp b.ss im i b.ms b.es hi j1 j2 o1 o2) (fun v j hj hv hx=>?_) (fun p z=>⟨_,rfl⟩)
   have q1:=ac8 hi hj (aom parV aae 16 _ _ _ _) hx
   exact .go { b with ms:=v.1,es:=v.2 } j q1 hj ⟨hv.1,hv.2.1,by simp;omega,hv.2.2.2.1,hv.2.2.2.2,o3⟩ rfl rfl
  simp only [cond_false]
  refine PL.sign h0 [101,110,117,109] 1 (by decide) i hi (nm,sp,(),(),(),b.ss,im,b.ms,b.es) (fun _=>?_) (fun _=>?_)
  ·simp only [Bool.not_true,cond_false,cond_true]
   refine PL.seq (aly po ht h5 [] (by simp) i hi nm sp b.ss im b.ms b.es (by omega)) (fun v j hj hvo hx=>?_) (fun p z=>⟨_,rfl⟩)
   have q1:=ac8 hi hj (aip parV aae _ _) hx
   exact .go { b with es:=b.es++[v] } j q1 hj ⟨by simp;omega,by simp;omega,by simp;omega,o1,aez o2 hvo,o3⟩ rfl rfl
  simp only [Bool.not_false,cond_true,cond_false]
  refine PL.sign h0 [111,112,101,110] 1 (by decide) i hi (nm,sp,(),(),(),b.ss,im,b.ms,b.es) (fun _=>?_) (fun _=>?_)
  ·simp only [cond_true]
   refine PL.seq (aly po ht h5 [] (by simp) i hi nm sp b.ss im b.ms b.es (by omega)) (fun v j hj hvo hx=>?_) (fun p z=>⟨_,rfl⟩)
   have q1:=ac8 hi hj (aip parV aae _ _) hx
   exact .go { b with es:=b.es++[v] } j q1 hj ⟨by simp;omega,by simp;omega,by simp;omega,o1,aez o2 hvo,o3⟩ rfl rfl
  ·simp only [cond_false]
   refine PL.seq (a9g po ht h5 i hi nm sp b.ss im b.ms b.es (by omega)) (fun v j hj hvo hx=>?_) (fun p z=>⟨_,rfl⟩)
   have q1:=ac8 hi hj (a8f parV aae _) hx
   exact .go { b with ss:=b.ss++[v] } j q1 hj ⟨by simp;omega,by simp;omega,by simp;omega,o1,o2,aez o3 hvo⟩ rfl rfl
 ·have d:decide ((i:Int)<(t.length:Int))=false:=decide_eq_false (by omega)
  have hne:(ts t i).isEmpty=true:=by rw [afv (by omega)];rfl
  rw [d,hne]
  simp only [cond_true,cond_false]
  exact .done b i hi ⟨j1,j2,j3,o1,o2,o3⟩ rfl rfl
def aor (l:List Tk):Rs (List UInt8×List PV×FB):=(aru l).bind fun sp r=>(adw r []).bind fun im r2=>(ajh parV aae r2 ⟨[],[],[]⟩).bind fun b r3=>.ok (sp,im,b) r3
theorem ayu (name:List UInt8) (l:List Tk):a4e parV aae name l=(aor l).bind fun v r=>.ok (PV.agg [PV.str name,PV.str v.1,PV.slice v.2.1,PV.slice v.2.2.ms,PV.slice v.2.2.es,PV.slice v.2.2.ss]) r:=by
 unfold a4e aor
 simp only [Rs.bind_assoc,Rs.bind_ok]
def a3q (n:Nat) (v:List UInt8×List PV×FB) (j:Nat):Prop:=v.2.1.length<=n/\FBok v.2.2 n
theorem fb_le {b:FB}{j n:Nat} (h:FBok b j) (hj:j<=n):FBok b n:=⟨Nat.le_trans h.1 hj,Nat.le_trans h.2.1 hj,Nat.le_trans h.2.2.1 hj,h.2.2.2⟩
theorem asi (po:adu) (ht:TNum t) (h5:t.length<=100000) (nm sp:List UInt8) (i:Nat) (hi:i<=t.length):
 PG t Sum.inl Sum.inr (a3q t.length) (fun (v:List UInt8×List PV×FB) (j:Int)=>((t,j,nm,v.1,(),(),(),v.2.2.ss,v.2.1,v.2.2.ms,v.2.2.es):Q0)) ((adw (ts t i) []).bind fun im r2=>(ajh parV aae r2 ⟨[],[],[]⟩).bind fun b r3=>.ok (sp,im,b) r3)
  ((abi (S44_4step 0) ((),(t,(i:Int),nm,sp,(),(),(),[],[],[],[]))).bind fun z=>sumE (fun y58=>some (.inr y58)) (fun y59=>(abi (S44_7step 0) ((),y59.2)).bind fun z=>sumE (fun y60=>some (.inr y60)) (fun y61=>some (.inl y61)) z) z):=by
 refine PG.swap (auw ht.toTOk h5 nm sp [] [] [] i hi) (fun im j hj hvi _=>?_) (fun p z=>⟨_,rfl⟩)
 refine PG.swap (a4n po ht h5 nm sp im j hj) (fun b k hk hvb _=>?_) (fun p z=>⟨_,rfl⟩)
 exact .ok (sp,im,b) k hk ⟨Nat.le_trans hvi hj,fb_le hvb hk⟩ rfl rfl
theorem a4s (po:adu) (ht:TNum t) (h5:t.length<=100000) (nm:List UInt8):
 PG t Sum.inl Sum.inr (a3q t.length) (fun (v:List UInt8×List PV×FB) (j:Int)=>((t,j,nm,v.1,(),(),(),v.2.2.ss,v.2.1,v.2.2.ms,v.2.2.es):Q0)) (aor (ts t 0)) (F44 0 () (t,(0:Int),nm,[],(),(),(),[],[],[],[])):=by
 have h0:=ht.toTOk
 unfold F44 aor aru
 rw [show (0:Int)=((0:Nat):Int) from rfl,akq [115,112,97,99,101] 1 (by decide) t h0 0 (by omega) (nm,[],(),(),(),[],[],[],[]),Option.bind_some]
 simp only [aaq]
 cases h:isS 1 [115,112,97,99,101] (ts t 0) with
 | true=>
  simp only [cond_true,Rs.bind_assoc,Rs.bind_ok,aa0]
  refine PG.seq (a4u t h0 1 (adb h) (nm,[],(),(),(),[],[],[],[])).pg (fun sp j hj _ _=>?_) (fun p z=>⟨_,rfl⟩)
  refine PG.seq (ad2 [59] 4 (by decide) t h0 j hj (nm,sp,(),(),(),[],[],[],[])).pg (fun _ k hk _ _=>?_) (fun p z=>⟨_,rfl⟩)
  exact asi po ht h5 nm sp k hk
 | false=>
  simp only [cond_false,Rs.bind_ok]
  exact asi po ht h5 nm [] 0 (by omega)
end
def awb:PV:=PV.agg [PV.str [],PV.str [],PV.slice [],PV.slice [],PV.slice [],PV.slice []]
def ba1 (xs:List PV) (j:Nat):Int:=((xs.getD (if xs.length-1<j then xs.length-1 else j) .bad).fld 3).asInt
def a1w (name:List UInt8) (xs:List PV):PV×Int×Int:=
 match a4e parV aae name (ts xs 0) with
 | .ok v _=>(v,0,0)
 | .er r e=>(awb,ba1 xs (xs.length-r.length),e)
theorem a3p:∃ v,aor []=.ok v []:=by
 refine ⟨([],[],⟨[],[],[]⟩),?_⟩
 unfold aor aru
 rw [show isS 1 [115,112,97,99,101] []=false from rfl,cond_false,Rs.bind_ok,akh,show isS 1 [105,109,112,111,114,116] []=false from rfl,cond_false,Rs.bind_ok,apw]
 rfl
theorem ath (po:adu) (name src:List UInt8) (xs:List PV) (l0:Int) (hs:F28 0 src=some (xs,l0,0)) (ht:TNum xs) (h5:xs.length<=100000):F15 0 name src=some (a1w name xs):=by
 unfold F15 a1w
 rw [hs,Option.bind_some,ayu]
 simp only [show ((0:Int) != 0)=false from rfl,cond_false]
 unfold F43
 rcases a4s po ht h5 name with ⟨v,j,hj,_,hx,hy⟩ | ⟨j,e,z,hj,he,hx,hy⟩
 ·rw [hy,hx,Rs.bind_ok]
  rfl
 ·rw [hy,hx,Rs.bind_er]
  have hne:0<xs.length:=by
   rcases Nat.eq_zero_or_pos xs.length with h | h
   ·rw [afv (by omega)] at hx
    obtain ⟨v,hv⟩:=a3p
    rw [hv] at hx;cases hx
   ·exact h
  have w:IntKind.wrap .i64 ((xs.length:Int)-1)=((xs.length-1:Nat):Int):=by rw [abf (by omega) (by omega)];omega
  have e1:((((PV.agg [PV.int ((j:Nat):Int),PV.int e]).fld 1).asInt) != (0:Int))=true:=bneI he
  have e2:((PV.agg [PV.int ((j:Nat):Int),PV.int e]).fld 0).asInt=(j:Int):=rfl
  have e3:((PV.agg [PV.int ((j:Nat):Int),PV.int e]).fld 1).asInt=e:=rfl
  have e4:(if ((xs.length-1:Nat):Int)<(j:Int) then ((xs.length-1:Nat):Int) else (j:Int))=((if xs.length-1<j then xs.length-1 else j:Nat):Int):=by split<;>split<;>omega
  have e5:aaa ((if xs.length-1<j then xs.length-1 else j:Nat):Int) xs.length=true:=by rw [aab];exact decide_eq_true (by split<;>omega)
  have e6:xs.length-(ts xs j).length=j:=by rw [abm];omega
  simp only [Option.bind_some,aa3,e1,e2,e3,w,e4,e5,cond_true,Int.toNat_natCast,e6,bneI he]
  rfl
end
end Go.Ab
namespace Go.Ab
open Go
set_option maxRecDepth 100000
noncomputable section
def spC (c:UInt8):Bool:=c==32||c==9||c==13||c==10
def adm:List UInt8->Bool
 | 47::47::_=>true
 | _=>false
def amr (c:UInt8) (r:List UInt8):Int:=
 bif spC c then 1 else bif adm (c::r) then 2 else bif aew c r then 3 else bif digC c then 4 else bif c==34 then 5 else bif ai6 c then 6 else 0
theorem pre47 (r:List UInt8):F230 0 (47::r) ([47,47]:List UInt8)=some (adm (47::r)):=by
 unfold F230 F297
 have e:((([47,47]:List UInt8).length:Nat):Int)=(2:Int):=rfl
 simp only [e]
 cases r with
 | nil=>rfl
 | cons d r=>
  have h1:decide (((47::d::r:List UInt8).length:Int)≥2)=true:=decide_eq_true (by simp only [List.length_cons];omega)
  have h2:decide ((0:Int)<=0/\(0:Int)<=2/\(2:Int)<=((47::d::r:List UInt8).length:Int))=true:=decide_eq_true (by simp only [List.length_cons];omega)
  have h3:(((47::d::r:List UInt8).take (2:Int).toNat).drop (0:Int).toNat==([47,47]:List UInt8))=adm (47::d::r):=by
   show ([47,d]==([47,47]:List UInt8))=_
   by_cases hd:d=47
   ·subst hd;rfl
   ·have:adm (47::d::r)=false:=by
     unfold adm
     split
     ·rename_i heq;simp only [List.cons.injEq] at heq;exact absurd heq.2.1 hd
     ·rfl
    rw [this,beq_eq_false_iff_ne]
    intro q
    simp only [List.cons.injEq] at q
    exact hd q.2.1
  simp only [h1,h2,h3,imp,cond_true,Option.bind_some]
theorem ap5 {c:UInt8} (r:List UInt8) (h:c≠47):adm (c::r)=false:=by
 unfold adm
 split
 ·rename_i heq;simp only [List.cons.injEq] at heq;exact absurd heq.1 h
 ·rfl
theorem a7v {c:UInt8} (h:spC c=false):c≠32/\c≠9/\c≠13/\c≠10:=by
 unfold spC at h
 simp only [Bool.or_eq_false_iff,beq_eq_false_iff_ne] at h
 exact ⟨h.1.1.1,h.1.1.2,h.1.2,h.2⟩
theorem aj1 (c:UInt8) (r:List UInt8):F123 0 (c::r)=some (amr c r):=by
 unfold amr
 cases hs:spC c with
 | true=>
  have e3:(c::r).getD (0:Int).toNat 0=c:=rfl
  unfold F123
  simp only [in0,e3,cond_true,bqI (c:=c) (k:=32) (n:=32) rfl,bqI (c:=c) (k:=9) (n:=9) rfl,bqI (c:=c) (k:=13) (n:=13) rfl,bqI (c:=c) (k:=10) (n:=10) rfl]
  unfold spC at hs
  cases h1:(c==32)<;>cases h2:(c==9)<;>cases h3:(c==13)<;>cases h4:(c==10)<;>first | rfl | (rw [h1,h2,h3,h4] at hs;cases hs)
 | false=>
  obtain ⟨n1,n2,n3,n4⟩:=a7v hs
  simp only [cond_false]
  by_cases h47:c=47
  ·subst h47
   have e1:(((47::r:List UInt8).take (1:Int).toNat).drop (0:Int).toNat)=[47]:=rfl
   have e2:decide ((0:Int)<=(0:Int)/\(0:Int)<=(1:Int)/\(1:Int)<=((47::r:List UInt8).length:Int))=true:=decide_eq_true (by simp only [List.length_cons];omega)
   have e3:(47::r:List UInt8).getD (0:Int).toNat 0=47:=rfl
   have k1:(((47:UInt8).toNat:Int)==(32:Int))=false:=rfl
   have k2:(((47:UInt8).toNat:Int)==(9:Int))=false:=rfl
   have k3:(((47:UInt8).toNat:Int)==(13:Int))=false:=rfl
   have k4:(((47:UInt8).toNat:Int)==(10:Int))=false:=rfl
   have k5:(((47:UInt8).toNat:Int)==(46:Int))=false:=rfl
   have k6:(((47:UInt8).toNat:Int)==(34:Int))=false:=rfl
   have l1:letB 47=false:=by decide
   have l2:digC 47=false:=by decide
   have l3:ai6 47=false:=by decide
   have l4:aew 47 r=false:=by unfold aew;rw [l1];rfl
   unfold F123
   simp only [in0,e1,e2,e3,cond_true,k1,k2,k3,k4,k5,k6,cond_false,pre47,Option.bind_some,ag1,al0,a02,l1,l2,l3,l4,imp,Bool.not_false,Bool.true_or,Bool.or_true,aah]
   cases adm (47::r)<;>rfl
  ·rw [a6n c r ⟨n1,n2,n3,n4,h47⟩,ap5 r h47];rfl
def skipS:Bool->List UInt8->Nat
 | _,[]=>0
 | true,c::r=>bif c==10 then skipS false r+1 else skipS true r+1
 | false,c::r=>bif spC c then skipS false r+1 else bif adm (c::r) then skipS true r+1 else 0
theorem al3:∀ (s:List UInt8) (b:Bool),skipS b s<=s.length:=by
 intro s
 induction s with
 | nil=>intro b;cases b<;>exact Nat.le_refl _
 | cons c r ih=>
  intro b
  have h1:=ih true
  have h2:=ih false
  cases b
  ·simp only [skipS,List.length_cons]
   cases spC c<;>cases adm (c::r)<;>simp only [cond_true,cond_false]<;>omega
  ·simp only [skipS,List.length_cons]
   cases (c==10)<;>simp only [cond_true,cond_false]<;>omega
def ne10 (c:UInt8):Bool:=!(c==10)
theorem a0c:∀ s:List UInt8,skipS true s=runN ne10 s+skipS false (s.drop (runN ne10 s)):=by
 intro s
 induction s with
 | nil=>rfl
 | cons c r ih=>
  rw [ac1]
  unfold ne10
  cases h:(c==10) with
  | true=>
   have e:c=10:=eq_of_beq h
   subst e
   simp [skipS,spC]
  | false=>
   simp only [skipS,h,cond_false,Bool.not_false,if_true,List.drop_succ_cons]
   rw [ih]
   unfold ne10
   omega
theorem a5r (c:UInt8):F125 0 (c.toNat:Int)=some (ne10 c):=by
 unfold F125 ne10
 show some (!((c.toNat:Int)==10))=_
 rw [bqI (c:=c) (k:=10) (n:=10) rfl]
theorem ba8 (s:List UInt8) (hl:s.length<=1048576):F124 0 s ()=some ((runN ne10 s:Nat):Int):=by
 have h:=aqr (p:=ne10) (step:=S124_3step 0) s (fun i hi=>by
  simp only [S124_3step,S124_3,ac0,hi,decide_true,aab,imp,cond_true,Int.toNat_natCast,a5r,Option.bind_some,Bool.not_true,Bool.false_or,Bool.true_or,ab2 (show i<=9223372036854775000 by omega)]
  cases ne10 (s.getD i 0)<;>rfl) (by
  simp only [S124_3step,S124_3,ac0,Nat.lt_irrefl,decide_false,aab,imp,cond_false,Bool.not_false,Bool.true_or,cond_true,Option.bind_some]) s.length 0 (by omega) (by omega)
 unfold F124
 rw [aaq,show (0:Int)=((0:Nat):Int) from rfl,h,List.drop_zero,Nat.zero_add];rfl
theorem aq5 {c:UInt8}{r:List UInt8}:(amr c r==1)=spC c:=by
 unfold amr
 cases spC c with
 | true=>rfl
 | false=>
  cases adm (c::r)<;>cases aew c r<;>cases digC c<;>cases (c==34)<;>cases ai6 c<;>rfl
theorem awo {c:UInt8}{r:List UInt8} (h:spC c=false):(amr c r==2)=adm (c::r):=by
 unfold amr
 rw [h]
 cases adm (c::r)<;>cases aew c r<;>cases digC c<;>cases (c==34)<;>cases ai6 c<;>rfl
theorem azl (src:List UInt8) (hl:src.length<=1048576):∀ (m i:Nat),src.length-i<=m->i<=src.length->∃ z,abi (S59_3step 0) (src,(i:Int))=some z/\(z=.inl ((i+skipS false (src.drop i):Nat):Int)∨z=.inr ((i+skipS false (src.drop i):Nat):Int)):=by
 intro m
 induction m with
 | zero=>
  intro i hm hi
  have e1:decide ((i:Int)<(src.length:Int))=false:=decide_eq_false (by omega)
  rw [List.drop_eq_nil_of_le (by omega)]
  exact ⟨.inr (i:Int),aac (by simp only [S59_3step,S59_3,e1,cond_false]),Or.inr rfl⟩
 | succ m ih=>
  intro i hm hi
  by_cases hlt:i<src.length
  ·have e1:decide ((i:Int)<(src.length:Int))=true:=decide_eq_true (by omega)
   rw [aau hlt 0]
   obtain ⟨c,hc⟩:∃ c,src.getD i 0=c:=⟨_,rfl⟩
   have hd:src.drop i=c::src.drop (i+1):=by rw [aau hlt 0,hc]
   rw [hc]
   cases hs:spC c with
   | true=>
    obtain ⟨z,h1,h2⟩:=ih (i+1) (by omega) (by omega)
    have st:S59_3step 0 (src,(i:Int))=some (.inl (src,((i+1:Nat):Int))):=by
     simp only [S59_3step,S59_3,e1,aok src hi,cond_true,ahg,hd,aj1,aq5,hs,Option.bind_some,ab2 (show i<=9223372036854775000 by omega)]
    refine ⟨z,by rw [aax st,h1],?_⟩
    simp only [skipS,hs,cond_true]
    rw [show i+(skipS false (src.drop (i+1))+1)=i+1+skipS false (src.drop (i+1)) by omega]
    exact h2
   | false=>
    cases hh:adm (c::src.drop (i+1)) with
    | true=>
     have hn:c≠10:=(a7v hs).2.2.2
     have hn1:ne10 c=true:=by unfold ne10;rw [beq_eq_false_iff_ne.2 hn];rfl
     have hr:runN ne10 (src.drop i)=runN ne10 (src.drop (i+1))+1:=by rw [hd,ac1,if_pos hn1]
     have hle:=ak0 ne10 (src.drop i)
     rw [List.length_drop] at hle
     obtain ⟨z,h1,h2⟩:=ih (i+runN ne10 (src.drop i)) (by omega) (by omega)
     have hrun:=ba8 (src.drop i) (by rw [List.length_drop];omega)
     have w:IntKind.wrap .i64 ((i:Int)+((runN ne10 (src.drop i):Nat):Int))=((i+runN ne10 (src.drop i):Nat):Int):=by rw [abf (by omega) (by omega)];omega
     have st:S59_3step 0 (src,(i:Int))=some (.inl (src,((i+runN ne10 (src.drop i):Nat):Int))):=by
      rw [<-w]
      simp only [S59_3step,S59_3,e1,aok src hi,cond_true,ahg,hrun,Option.bind_some]
      rw [hd]
      simp only [aj1,aq5,awo hs,hs,hh,Option.bind_some,cond_true,cond_false]
     refine ⟨z,by rw [aax st,h1],?_⟩
     have hsk:skipS false (c::src.drop (i+1))=runN ne10 (src.drop i)+skipS false (src.drop (i+runN ne10 (src.drop i))):=by
      simp only [skipS,hs,hh,cond_true,cond_false]
      rw [a0c,List.drop_drop,hr]
      rw [show i+1+runN ne10 (src.drop (i+1))=i+(runN ne10 (src.drop (i+1))+1) by omega]
      omega
     rw [hsk,<-Nat.add_assoc]
     exact h2
    | false=>
     refine ⟨.inl (i:Int),aac ?_,?_⟩
     ·simp only [S59_3step,S59_3,e1,aok src hi,cond_true,ahg,hd,aj1,aq5,awo hs,hs,hh,Option.bind_some,cond_false]
     ·simp [skipS,hs,hh]
  ·have e1:decide ((i:Int)<(src.length:Int))=false:=decide_eq_false (by omega)
   rw [List.drop_eq_nil_of_le (by omega)]
   exact ⟨.inr (i:Int),aac (by simp only [S59_3step,S59_3,e1,cond_false]),Or.inr rfl⟩
theorem a5p (s:List UInt8) (hl:s.length<=1048576):F59 0 s=some ((skipS false s:Nat):Int):=by
 obtain ⟨z,h1,h2⟩:=azl s hl s.length 0 (by omega) (by omega)
 rw [List.drop_zero,Nat.zero_add] at h2
 unfold F59
 rw [aaq,show (0:Int)=((0:Nat):Int) from rfl,h1]
 rcases h2 with rfl | rfl<;>rfl
theorem ao9:∀ (s:List UInt8) (b:Bool) (c:UInt8) (r:List UInt8),s.drop (skipS b s)=c::r->spC c=false/\adm (c::r)=false:=by
 intro s
 induction s with
 | nil=>intro b c r h;cases b<;>simp at h
 | cons a s ih=>
  intro b c r h
  cases b with
  | true=>
   simp only [skipS] at h
   cases ha:(a==10)<;>simp only [ha,cond_true,cond_false,List.drop_succ_cons] at h
   ·exact ih true c r h
   ·exact ih false c r h
  | false=>
   simp only [skipS] at h
   cases hs:spC a<;>simp only [hs,cond_true,cond_false] at h
   ·cases hh:adm (a::s)<;>simp only [hh,cond_true,cond_false,List.drop_succ_cons,List.drop_zero] at h
    ·simp only [List.cons.injEq] at h
     obtain ⟨rfl,rfl⟩:=h
     exact ⟨hs,hh⟩
    ·exact ih true c r h
   ·exact ih false c r (by simpa using h)
end
end Go.Ab
namespace Go.Ab
open Go
set_option maxRecDepth 100000
noncomputable section
theorem a7y:∀ l:List UInt8,eat l<=l.length:=by
 intro l
 induction l with
 | nil=>exact Nat.le_refl _
 | cons c r ih=>
  rw [afd]
  split
  ·simp;omega
  ·split
   ·split
    ·split<;>simp<;>omega
    ·omega
   ·omega
def ad4:List UInt8->Nat
 | []=>0
 | c::r=>bif c==46 then eat r+1 else eat (c::r)
theorem apu (s:List UInt8):ad4 s<=s.length:=by
 cases s with
 | nil=>exact Nat.le_refl _
 | cons c r=>
  have h1:=a7y r
  have h2:=a7y (c::r)
  simp only [ad4,List.length_cons] at*
  cases (c==46)<;>simp only [cond_true,cond_false]<;>omega
theorem avs (c:UInt8) (r:List UInt8) (hl:(c::r).length<=1048576):F234 0 (c::r)=some ((ad4 (c::r):Nat):Int):=by
 unfold F234
 have e3:(c::r).getD (0:Int).toNat 0=c:=rfl
 simp only [in0,e3,cond_true,bqI (c:=c) (k:=46) (n:=46) rfl,ad4]
 cases hc:(c==46) with
 | true=>
  have h:=ak6 (c::r) hl (c::r).length 1 (by omega) (by simp)
  simp only [cond_true,aaq]
  rw [show (1:Int)=((1:Nat):Int) from rfl,h]
  show some (((1+eat r:Nat):Nat):Int)=_
  rw [Nat.add_comm]
 | false=>
  have h:=ak6 (c::r) hl (c::r).length 0 (by omega) (by omega)
  simp only [cond_false,aaq]
  rw [show (0:Int)=((0:Nat):Int) from rfl,h,List.drop_zero,Nat.zero_add];rfl
def aow (s:List UInt8):(Tk×Nat)⊕Int:=bif alj (s.take (ad4 s)) then .inl (⟨1,s.take (ad4 s),0⟩,ad4 s) else .inr 8
def azr (s:List UInt8):(Tk×Nat)⊕Int:=
 bif (decide (1<runN digC s)&&s.getD 0 0==48)||(decide (runN digC s<s.length)&&alnB (s.getD (runN digC s) 0)) then .inr 2
 else bif (ab8 (Lib.parseUintB 64 (s.take (runN digC s)))).2 then .inl (⟨2,[],IntKind.wrap .i64 (ab8 (Lib.parseUintB 64 (s.take (runN digC s)))).1⟩,runN digC s) else .inr 6
def unqV (s:List UInt8):List UInt8×Int×Int:=(F131 0 s).getD ([],0,2)
def az4 (s:List UInt8):(Tk×Nat)⊕Int:=bif (unqV s).2.2==0 then .inl (⟨3,(unqV s).1,0⟩,(unqV s).2.1.toNat) else .inr 2
def ajo:List UInt8->(Tk×Nat)⊕Int
 | []=>.inr 2
 | c::r=>bif aew c r then aow (c::r) else bif digC c then azr (c::r) else bif c==34 then az4 (c::r) else bif ai6 c then .inl (⟨4,[c],0⟩,1) else .inr 2
inductive RdOk (y:Option (PV×Int×Int)):(Tk×Nat)⊕Int->Prop
 | ok (k:Tk) (n:Nat):y=some (PV.agg [PV.int k.k,PV.str k.s,PV.int k.n,PV.int 0],(n:Int),0)->RdOk y (.inl (k,n))
 | er (e:Int) (v:PV) (m:Int):e≠0->y=some (v,m,e)->RdOk y (.inr e)
theorem a33 {x:(Tk×Nat)⊕Int} (h:RdOk none x):False:=by
 cases h with
 | ok k n h=>cases h
 | er e v m he h=>cases h
theorem ahs (c:UInt8) (r:List UInt8):ajo (c::r)=bif aew c r then aow (c::r) else bif digC c then azr (c::r) else bif c==34 then az4 (c::r) else bif ai6 c then .inl (⟨4,[c],0⟩,1) else .inr 2:=rfl
theorem a0k (c:UInt8) (r:List UInt8) (hl:(c::r).length<=1048576):RdOk (F129 0 (c::r)) (aow (c::r)):=by
 have hle:=apu (c::r)
 have e1:decide ((0:Int)<=(0:Int)/\(0:Int)<=((ad4 (c::r):Nat):Int)/\((ad4 (c::r):Nat):Int)<=((c::r).length:Int))=true:=decide_eq_true (by omega)
 have e2:((c::r).take ((ad4 (c::r):Nat):Int).toNat).drop (0:Int).toNat=(c::r).take (ad4 (c::r)):=by
  rw [Int.toNat_natCast];rfl
 obtain ⟨y,h1,h2⟩:=a3u ((c::r).take (ad4 (c::r))) (by rw [List.length_take];omega)
 have hy:F129 0 (c::r)=bif !alj ((c::r).take (ad4 (c::r))) then some (PV.agg [PV.int 0,PV.str [],PV.int 0,PV.int 0],0,8) else some (PV.agg [PV.int 1,PV.str ((c::r).take (ad4 (c::r))),PV.int 0,PV.int 0],((ad4 (c::r):Nat):Int),0):=by
  unfold F129
  simp only [avs c r hl,Option.bind_some,e1,e2,cond_true,h1,h2]
 unfold aow
 cases ht:alj ((c::r).take (ad4 (c::r))) with
 | true=>rw [ht] at hy;exact .ok _ _ hy
 | false=>rw [ht] at hy;exact .er _ _ _ (by decide) hy
theorem a4k (c:UInt8) (r:List UInt8) (hl:(c::r).length<=1048576):RdOk (F130 0 (c::r)) (azr (c::r)):=by
 have hle:=ak0 digC (c::r)
 have hr:=a0v (c::r) hl
 obtain ⟨n,hn⟩:∃ n,runN digC (c::r)=n:=⟨_,rfl⟩
 unfold azr
 rw [hn] at hle hr ⊢
 have e1:decide ((0:Int)<=(0:Int)/\(0:Int)<=(n:Int)/\(n:Int)<=((c::r).length:Int))=true:=decide_eq_true (by omega)
 have e2:((c::r).take n).drop (0:Int).toNat=(c::r).take n:=rfl
 have x2:decide ((n:Int)>(1:Int))=decide (1<n):=decide_eq_decide.2 (by omega)
 have x7:decide ((n:Int)<((c::r).length:Int))=decide (n<(c::r).length):=decide_eq_decide.2 (by omega)
 have x5:((((c::r).getD (0:Int).toNat 0).toNat:Int)==(48:Int))=((c::r).getD 0 0==48):=bqI (k:=48) rfl
 have hp:=ajg ((c::r).take n) (by rw [List.length_take];omega)
 have key:F130 0 (c::r)=bif (decide (1<n)&&(c::r).getD 0 0==48)||(decide (n<(c::r).length)&&alnB ((c::r).getD n 0)) then some (PV.agg [PV.int 0,PV.str [],PV.int 0,PV.int 0],0,2)
  else bif !(ab8 (Lib.parseUintB 64 ((c::r).take n))).2 then some (PV.agg [PV.int 0,PV.str [],PV.int 0,PV.int 0],0,6) else some (PV.agg [PV.int 2,PV.str [],PV.int (IntKind.wrap .i64 (ab8 (Lib.parseUintB 64 ((c::r).take n))).1),PV.int 0],(n:Int),0):=by
  unfold F130
  simp only [hr,Option.bind_some,x2,x7,x5,in0,aab,imp,Bool.true_or,Bool.or_true,aah,cond_true,Int.toNat_natCast,a1j,e1,e2,hp]
  by_cases hc:n<(c::r).length
  ·simp only [hc,decide_true,Bool.true_and,cond_true,Bool.true_or,Bool.or_true]
   cases decide (1<n)<;>cases ((c::r).getD 0 0==48)<;>cases alnB ((c::r).getD n 0)<;>rfl
  ·simp only [hc,decide_false,Bool.false_and,cond_false,aah,Bool.not_false,Bool.true_or,cond_true]
   cases decide (1<n)<;>cases ((c::r).getD 0 0==48)<;>rfl
 cases hb:(decide (1<n)&&(c::r).getD 0 0==48)||(decide (n<(c::r).length)&&alnB ((c::r).getD n 0)) with
 | true=>rw [hb] at key;exact .er _ _ _ (by decide) key
 | false=>
  rw [hb] at key
  cases hu:(ab8 (Lib.parseUintB 64 ((c::r).take n))).2 with
  | true=>rw [hu] at key;exact .ok _ _ key
  | false=>rw [hu] at key;exact .er _ _ _ (by decide) key
theorem aw7 (c:UInt8) (r:List UInt8) (hl:(c::r).length<=1048576) (hs:spC c=false) (hh:adm (c::r)=false):RdOk (F61 0 (c::r)) (ajo (c::r)):=by
 have hst:=aj1 c r
 unfold amr at hst
 rw [hs,hh,cond_false,cond_false] at hst
 rw [ahs]
 unfold F61
 rw [hst,Option.bind_some]
 cases h1:aew c r with
 | true=>
  simp only [cond_true,show ((3:Int)==3)=true from rfl]
  have h:=a0k c r hl
  cases hy:F129 0 (c::r) with
  | none=>rw [hy] at h;exact (a33 h).elim
  | some y=>rw [hy] at h;rw [Option.bind_some];exact h
 | false=>
  cases h2:digC c with
  | true=>
   simp only [cond_true,cond_false,show ((4:Int)==3)=false from rfl,show ((4:Int)==4)=true from rfl]
   have h:=a4k c r hl
   cases hy:F130 0 (c::r) with
   | none=>rw [hy] at h;exact (a33 h).elim
   | some y=>rw [hy] at h;rw [Option.bind_some];exact h
  | false=>
   cases h3:(c==34) with
   | true=>
    simp only [cond_true,cond_false,show ((5:Int)==3)=false from rfl,show ((5:Int)==4)=false from rfl,show ((5:Int)==5)=true from rfl]
    unfold az4 unqV
    rcases an1 (c::r) hl with ⟨a,q,ha,hy⟩ | ⟨_,hy⟩
    ·rw [hy];exact .ok ⟨3,a,0⟩ (aa6 a).length rfl
    ·rw [hy];exact .er 2 _ _ (by decide) rfl
   | false=>
    cases h4:ai6 c with
    | true=>
     have e:decide ((0:Int)<=(0:Int)/\(0:Int)<=(1:Int)/\(1:Int)<=((c::r).length:Int))=true:=decide_eq_true (by simp only [List.length_cons];omega)
     simp only [cond_true,cond_false,show ((6:Int)==3)=false from rfl,show ((6:Int)==4)=false from rfl,show ((6:Int)==5)=false from rfl,show ((6:Int)==6)=true from rfl,e]
     exact .ok ⟨4,[c],0⟩ 1 rfl
    | false=>exact .er 2 _ _ (by decide) rfl
def WfTk (k:Tk):Prop:=(k.k=1/\alj k.s=true/\k.n=0)∨(k.k=2/\k.s=[]/\∃ u:Nat,u<18446744073709551616/\k.n=IntKind.wrap .i64 (u:Int))∨(k.k=3/\k.n=0)∨(k.k=4/\k.n=0/\∃ c,k.s=[c]/\ai6 c=true)
theorem azz {l:List UInt8}{u:Nat} (h:Lib.parseUintB 64 l=.ok u):u<18446744073709551616:=by
 have:=Lib.parseUintB_le h
 omega
theorem als {c:UInt8}{r:List UInt8} (hl:(c::r).length<=1048576) {k:Tk}{n:Nat} (h:ajo (c::r)=.inl (k,n)):1<=n/\n<=(c::r).length/\WfTk k/\k.s.length<=(c::r).length:=by
 rw [ahs] at h
 cases h1:aew c r with
 | true=>
  rw [h1] at h
  simp only [cond_true] at h
  unfold aow at h
  cases ht:alj ((c::r).take (ad4 (c::r)))<;>rw [ht] at h<;>simp only [cond_true,cond_false] at h<;>cases h
  have hle:=apu (c::r)
  refine ⟨?_,hle,Or.inl ⟨rfl,ht,rfl⟩,by simp only [List.length_take];omega⟩
  rcases Nat.eq_zero_or_pos (ad4 (c::r)) with h0 | h0
  ·rw [h0,List.take_zero] at ht;exact absurd ht (by decide)
  ·exact h0
 | false=>
  cases h2:digC c with
  | true=>
   rw [h1,h2] at h
   simp only [cond_true,cond_false] at h
   have hle:=ak0 digC (c::r)
   have hpos:1<=runN digC (c::r):=by rw [ac1,if_pos h2];omega
   unfold azr at h
   cases hb:(decide (1<runN digC (c::r))&&(c::r).getD 0 0==48)||(decide (runN digC (c::r)<(c::r).length)&&alnB ((c::r).getD (runN digC (c::r)) 0))<;>rw [hb] at h<;>simp only [cond_true,cond_false] at h
   ·cases hp:Lib.parseUintB 64 ((c::r).take (runN digC (c::r))) with
    | ok u=>
     rw [hp] at h
     simp only [ab8,cond_true] at h
     cases h
     exact ⟨hpos,hle,Or.inr (Or.inl ⟨rfl,rfl,u,azz hp,rfl⟩),Nat.zero_le _⟩
    | range=>rw [hp] at h;cases h
    | «syntax»=>rw [hp] at h;cases h
   ·cases h
  | false=>
   cases h3:(c==34) with
   | true=>
    rw [h1,h2,h3] at h
    simp only [cond_true,cond_false] at h
    unfold az4 unqV at h
    rcases an1 (c::r) hl with ⟨a,q,ha,hy⟩ | ⟨_,hy⟩
    ·rw [hy] at h
     simp only [Option.getD_some,show ((0:Int)==0)=true from rfl,cond_true,Int.toNat_natCast] at h
     cases h
     have hq:(aa6 a).length<=(c::r).length:=by rw [ha];simp
     have hq2:=alu a
     refine ⟨?_,hq,Or.inr (Or.inr (Or.inl ⟨rfl,rfl⟩)),by show a.length<=_;omega⟩
     obtain ⟨z,hz⟩:=azb a
     rw [hz];simp
    ·rw [hy] at h;cases h
   | false=>
    cases h4:ai6 c with
    | true=>
     rw [h1,h2,h3,h4] at h
     simp only [cond_true,cond_false] at h
     cases h
     exact ⟨Nat.le_refl _,by simp,Or.inr (Or.inr (Or.inr ⟨rfl,rfl,c,rfl,h4⟩)),by simp⟩
    | false=>rw [h1,h2,h3,h4] at h;cases h
def tokV (k:Tk) (line:Nat):PV:=PV.agg [PV.int k.k,PV.str k.s,PV.int k.n,PV.int (line:Int)]
def cnt10 (s:List UInt8):Nat:=s.count 10
theorem axg (s:List UInt8):cnt10 s<=s.length:=List.count_le_length
def asn:Nat->Nat->List UInt8->List PV->List PV⊕(Nat×Int)
 | 0,_,_,acc=>.inl acc
 | f+1,line,s,acc=>
  match s.drop (skipS false s) with
  | []=>.inl acc
  | c::r=>match ajo (c::r) with
   | .inr e=>.inr (line+cnt10 (s.take (skipS false s)),e)
   | .inl (k,n)=>asn f (line+cnt10 (s.take (skipS false s))+cnt10 ((c::r).take n)) ((c::r).drop n) (acc++[tokV k (line+cnt10 (s.take (skipS false s)))])
def a5x (s:List UInt8):List PV×Int×Int:=match asn (s.length+1) 1 s [] with | .inl xs=>(xs,0,0) | .inr (l,e)=>([],(l:Int),e)
theorem lcnt (l:List UInt8):atl 0 l ([10]:List UInt8)=some ((cnt10 l:Nat):Int):=rfl
theorem azq {src:List UInt8} (hl:src.length<=16384):∀ (f i:Nat) (acc:List PV) (line:Nat),src.length-i<f->i<=src.length->acc.length<=i->line<=i+1->
 abi (S28_7step 0) (src,acc,(line:Int),(i:Int))=some (match asn f line (src.drop i) acc with | .inl xs=>.inl xs | .inr (l,e)=>.inr ([],(l:Int),e)):=by
 intro f
 induction f with
 | zero=>intro i acc line hm;omega
 | succ f ih=>
  intro i acc line hm hi ha hline
  unfold asn
  have hsk:=al3 (src.drop i) false
  rw [List.length_drop] at hsk
  by_cases hlt:i<src.length
  ·have e1:decide ((i:Int)<(src.length:Int))=true:=decide_eq_true (by omega)
   have h1:=a5p (src.drop i) (by rw [List.length_drop];omega)
   obtain ⟨k,hk⟩:∃ k,skipS false (src.drop i)=k:=⟨_,rfl⟩
   rw [hk] at hsk h1 ⊢
   have w1:IntKind.wrap .i64 ((i:Int)+(k:Int))=((i+k:Nat):Int):=by rw [abf (by omega) (by omega)];omega
   have e2:decide (0<=(i:Int)/\(i:Int)<=((i+k:Nat):Int)/\((i+k:Nat):Int)<=(src.length:Int))=true:=decide_eq_true (by omega)
   have t1:(src.take (((i+k:Nat):Int)).toNat).drop ((i:Int)).toNat=(src.drop i).take k:=by
    rw [Int.toNat_natCast,Int.toNat_natCast,List.drop_take,show i+k-i=k by omega]
   have hc:=axg ((src.drop i).take k)
   rw [List.length_take,List.length_drop] at hc
   have w2:IntKind.wrap .i64 ((line:Int)+((cnt10 ((src.drop i).take k):Nat):Int))=((line+cnt10 ((src.drop i).take k):Nat):Int):=by rw [abf (by omega) (by omega)];omega
   have hdd:(src.drop i).drop k=src.drop (i+k):=by rw [List.drop_drop]
   rw [hdd]
   by_cases hend:i+k=src.length
   ·have e3:(((i+k:Nat):Int)==(src.length:Int))=true:=by rw [hend];simp
    have hnil:src.drop (i+k)=[]:=List.drop_eq_nil_of_le (by omega)
    rw [hnil]
    refine aac ?_
    simp only [S28_7step,S28_7,e1,aok src hi,cond_true,ahg,h1,w1,e2,lcnt,e3,Option.bind_some]
   ·have e3:(((i+k:Nat):Int)==(src.length:Int))=false:=by rw [beq_eq_false_iff_ne];omega
    have hlt2:i+k<src.length:=by omega
    obtain ⟨c,hcc⟩:∃ c,src.getD (i+k) 0=c:=⟨_,rfl⟩
    have hd:src.drop (i+k)=c::src.drop (i+k+1):=by rw [aau hlt2 0,hcc]
    have hstop:=ao9 (src.drop i) false c (src.drop (i+k+1)) (by rw [hk,hdd,hd])
    have hlen:(c::src.drop (i+k+1)).length<=1048576:=by rw [<-hd,List.length_drop];omega
    have hrd:=aw7 c (src.drop (i+k+1)) hlen hstop.1 hstop.2
    rw [hd]
    cases hx:ajo (c::src.drop (i+k+1)) with
    | inr e=>
     rw [hx] at hrd
     cases hrd with
     | er _ v m he hy=>
      rw [<-hd] at hy
      refine aac ?_
      simp only [S28_7step,S28_7,e1,aok src hi,aok src (show i+k<=src.length by omega),cond_true,cond_false,ahg,h1,w1,w2,e2,lcnt,t1,e3,hy,hx,bneI he,Option.bind_some]
    | inl kn=>
     obtain ⟨tk,n⟩:=kn
     obtain ⟨hn1,hn2,hwf,_⟩:=als hlen hx
     rw [<-hd,List.length_drop] at hn2
     rw [hx] at hrd
     cases hrd with
     | ok _ _ hy=>
      rw [<-hd] at hy
      have w3:IntKind.wrap .i64 (((i+k:Nat):Int)+(n:Int))=((i+k+n:Nat):Int):=by rw [abf (by omega) (by omega)];omega
      have e4:decide (0<=((i+k:Nat):Int)/\((i+k:Nat):Int)<=((i+k+n:Nat):Int)/\((i+k+n:Nat):Int)<=(src.length:Int))=true:=decide_eq_true (by omega)
      have t2:(src.take (((i+k+n:Nat):Int)).toNat).drop (((i+k:Nat):Int)).toNat=(src.drop (i+k)).take n:=by
       rw [Int.toNat_natCast,Int.toNat_natCast,List.drop_take,show i+k+n-(i+k)=n by omega]
      have hc2:=axg ((src.drop (i+k)).take n)
      rw [List.length_take,List.length_drop] at hc2
      have w4:IntKind.wrap .i64 (((line+cnt10 ((src.drop i).take k):Nat):Int)+((cnt10 ((src.drop (i+k)).take n):Nat):Int))=((line+cnt10 ((src.drop i).take k)+cnt10 ((src.drop (i+k)).take n):Nat):Int):=by rw [abf (by omega) (by omega)];omega
      have ea:∀ x:PV,decide (acc.length+[x].length<=aal)=true:=fun x=>decide_eq_true (by simp only [List.length_cons,List.length_nil];unfold aal;omega)
      have z0:((0:Int) != (0:Int))=false:=rfl
      have st:S28_7step 0 (src,acc,(line:Int),(i:Int))=some (.inl (src,acc++[tokV tk (line+cnt10 ((src.drop i).take k))],((line+cnt10 ((src.drop i).take k)+cnt10 ((src.drop (i+k)).take n):Nat):Int),((i+k+n:Nat):Int))):=by
       simp only [S28_7step,S28_7,e1,aok src hi,aok src (show i+k<=src.length by omega),cond_true,cond_false,ahg,h1,w1,w2,w3,w4,e2,e4,ea,lcnt,t1,t2,e3,hy,z0,Option.bind_some]
       rfl
      have:=ih (i+k+n) (acc++[tokV tk (line+cnt10 ((src.drop i).take k))]) (line+cnt10 ((src.drop i).take k)+cnt10 ((src.drop (i+k)).take n)) (by omega) (by omega) (by simp;omega) (by omega)
      simp only [hx]
      rw [aax st,this,<-hd,List.drop_drop]
  ·have e1:decide ((i:Int)<(src.length:Int))=false:=decide_eq_false (by omega)
   have hnil:src.drop i=[]:=List.drop_eq_nil_of_le (by omega)
   rw [hnil]
   exact aac (by simp only [S28_7step,S28_7,e1,cond_false];rfl)
theorem aw8 (s:List UInt8) (hl:s.length<=16384):F28 0 s=some (a5x s):=by
 have h:=azq hl (s.length+1) 0 [] 1 (by omega) (by omega) (by simp) (by omega)
 have e:decide ((s.length:Int)>(16384:Int))=false:=decide_eq_false (by omega)
 rw [List.drop_zero] at h
 unfold F28 a5x
 rw [e,cond_false,aaq,show (0:Int)=((0:Nat):Int) from rfl,show (1:Int)=((1:Nat):Int) from rfl,h]
 cases asn (s.length+1) 1 s [] with
 | inl xs=>rfl
 | inr p=>rfl
end
end Go.Ab
namespace Go.Ab
open Go
set_option maxRecDepth 100000
end Go.Ab
namespace Go.Ab
open Go
set_option maxRecDepth 100000
noncomputable section
def afe:Nat->Nat->List UInt8->List (Tk×Nat)⊕(Nat×Int)
 | 0,_,_=>.inl []
 | f+1,line,s=>
  match s.drop (skipS false s) with
  | []=>.inl []
  | c::r=>match ajo (c::r) with
   | .inr e=>.inr (line+cnt10 (s.take (skipS false s)),e)
   | .inl (k,n)=>match afe f (line+cnt10 (s.take (skipS false s))+cnt10 ((c::r).take n)) ((c::r).drop n) with
    | .inl l=>.inl ((k,line+cnt10 (s.take (skipS false s)))::l)
    | .inr p=>.inr p
def vTk (p:Tk×Nat):PV:=tokV p.1 p.2
theorem a86:∀ (f line:Nat) (s:List UInt8) (acc:List PV),asn f line s acc=match afe f line s with | .inl l=>.inl (acc++l.map vTk) | .inr p=>.inr p:=by
 intro f
 induction f with
 | zero=>intro line s acc;simp [asn,afe]
 | succ f ih=>
  intro line s acc
  unfold asn afe
  cases hd:s.drop (skipS false s) with
  | nil=>simp
  | cons c r=>
   simp only
   cases hr:ajo (c::r) with
   | inr e=>rfl
   | inl kn=>
    obtain ⟨k,n⟩:=kn
    simp only
    rw [ih]
    cases afe f (line+cnt10 (s.take (skipS false s))+cnt10 ((c::r).take n)) ((c::r).drop n) with
    | inl l=>simp [vTk]
    | inr p=>rfl
theorem axb:∀ (f line:Nat) (s:List UInt8),s.length<=1048576->(∀ l,afe f line s=.inl l->l.length<=s.length/\∀ p,p∈l->WfTk p.1/\p.1.s.length<=s.length/\line<=p.2/\p.2<=line+s.length)/\(∀ n e,afe f line s=.inr (n,e)->e≠0/\line<=n/\n<=line+s.length):=by
 intro f
 induction f with
 | zero=>intro line s _;exact ⟨fun l h=>(by cases h;exact ⟨Nat.zero_le _,fun p hp=>by cases hp⟩),fun n e h=>by cases h⟩
 | succ f ih=>
  intro line s hs
  unfold afe
  have hsk:=al3 s false
  have hc:=axg (s.take (skipS false s))
  rw [List.length_take] at hc
  cases hd:s.drop (skipS false s) with
  | nil=>exact ⟨fun l h=>(by cases h;exact ⟨Nat.zero_le _,fun p hp=>by cases hp⟩),fun n e h=>by cases h⟩
  | cons c r=>
   have hlen:(c::r).length=s.length-skipS false s:=by rw [<-hd,List.length_drop]
   have hstop:=ao9 s false c r hd
   simp only
   cases hr:ajo (c::r) with
   | inr e=>
    have hx:=aw7 c r (by omega) hstop.1 hstop.2
    rw [hr] at hx
    refine ⟨fun l h=>(by cases h),fun n e' h=>?_⟩
    cases h
    cases hx with
    | er _ v m he _=>exact ⟨he,by omega,by omega⟩
   | inl kn=>
    obtain ⟨k,n⟩:=kn
    obtain ⟨hn1,hn2,hwf,hks⟩:=als (by omega) hr
    have hc2:=axg ((c::r).take n)
    rw [List.length_take] at hc2
    have hrest:((c::r).drop n).length=s.length-skipS false s-n:=by rw [List.length_drop,hlen]
    obtain ⟨g1,g2⟩:=ih (line+cnt10 (s.take (skipS false s))+cnt10 ((c::r).take n)) ((c::r).drop n) (by omega)
    simp only
    cases hg:afe f (line+cnt10 (s.take (skipS false s))+cnt10 ((c::r).take n)) ((c::r).drop n) with
    | inl l=>
     refine ⟨fun l' h=>?_,fun n e h=>by cases h⟩
     cases h
     obtain ⟨q1,q2⟩:=g1 l hg
     refine ⟨by simp only [List.length_cons];omega,fun p hp=>?_⟩
     rcases List.mem_cons.1 hp with rfl | hp
     ·exact ⟨hwf,by show k.s.length<=_;omega,by show line<=line+_;omega,by show line+_<=_;omega⟩
     ·obtain ⟨a1,a2,a3,a4⟩:=q2 p hp
      exact ⟨a1,by omega,by omega,by omega⟩
    | inr p=>
     obtain ⟨m,e⟩:=p
     refine ⟨fun l h=>(by cases h),fun n' e' h=>?_⟩
     cases h
     obtain ⟨a1,a2,a3⟩:=g2 m e hg
     exact ⟨a1,by omega,by omega⟩
theorem azi:∀ (f g line:Nat) (s:List UInt8),s.length<=1048576->s.length<f->s.length<g->afe f line s=afe g line s:=by
 intro f
 induction f with
 | zero=>intro g line s _ h;omega
 | succ f ih=>
  intro g line s hs h1 h2
  obtain ⟨g,rfl⟩:∃ m,g=m+1:=⟨g-1,by omega⟩
  unfold afe
  have hsk:=al3 s false
  cases hd:s.drop (skipS false s) with
  | nil=>rfl
  | cons c r=>
   have hlen:(c::r).length=s.length-skipS false s:=by rw [<-hd,List.length_drop]
   simp only
   cases hr:ajo (c::r) with
   | inr e=>rfl
   | inl kn=>
    obtain ⟨k,n⟩:=kn
    obtain ⟨hn1,hn2,_,_⟩:=als (by omega) hr
    have hrest:((c::r).drop n).length=s.length-skipS false s-n:=by rw [List.length_drop,hlen]
    simp only
    rw [ih g _ _ (by omega) (by omega) (by omega)]
theorem a1u (s:List UInt8):a5x s=match afe (s.length+1) 1 s with | .inl l=>(l.map vTk,0,0) | .inr (n,e)=>([],(n:Int),e):=by
 unfold a5x
 rw [a86]
 cases afe (s.length+1) 1 s<;>rfl
theorem ts_v (l:List (Tk×Nat)):ts (l.map vTk) 0=l.map (·.1):=by
 unfold ts
 rw [List.drop_zero,List.map_map]
 rfl
theorem baq {k:Tk} (h:WfTk k):-9223372036854775808<=k.n/\k.n<=9223372036854775807:=by
 rcases h with ⟨_,_,h⟩ | ⟨_,_,u,hu,h⟩ | ⟨_,h⟩ | ⟨_,h,_⟩
 ·rw [h];decide
 ·rw [h,IntKind.wrap_i64];omega
 ·rw [h];decide
 ·rw [h];decide
theorem a7z {l:List (Tk×Nat)}{n:Nat} (hn:n<=16384) (hl:l.length<=n) (h:∀ p,p∈l->WfTk p.1/\p.1.s.length<=n):TNum (l.map vTk):=
 { len:=by rw [List.length_map];omega
   txt:=fun x hx=>by
    obtain ⟨p,hp,rfl⟩:=List.mem_map.1 hx
    have:=(h p hp).2
    show p.1.s.length<=_
    omega
   num:=fun x hx=>by
    obtain ⟨p,hp,rfl⟩:=List.mem_map.1 hx
    exact baq (h p hp).1
   sml:=fun x hx=>by
    obtain ⟨p,hp,rfl⟩:=List.mem_map.1 hx
    have:=(h p hp).2
    show p.1.s.length<=_
    omega }
theorem a6r (name src:List UInt8) (hl:src.length<=16384):F15 0 name src=some (match afe (src.length+1) 1 src with | .inl l=>a1w name (l.map vTk) | .inr (n,e)=>(awb,(n:Int),e)):=by
 have hs:=aw8 src hl
 obtain ⟨g1,g2⟩:=axb (src.length+1) 1 src (by omega)
 rw [a1u] at hs
 cases h:afe (src.length+1) 1 src with
 | inl l=>
  rw [h] at hs
  obtain ⟨q1,q2⟩:=g1 l h
  exact ath a9b name src _ 0 hs (a7z hl q1 fun p hp=>⟨(q2 p hp).1,(q2 p hp).2.1⟩) (by rw [List.length_map];omega)
 | inr p=>
  obtain ⟨n,e⟩:=p
  rw [h] at hs
  have he:=(g2 n e h).1
  unfold F15
  simp only [hs,Option.bind_some,bneI he,cond_true]
  rfl
end
end Go.Ab
namespace Go.Ab
open Go
set_option maxRecDepth 100000
noncomputable section
theorem atr (c:UInt8) (r w:List UInt8):adm (c::r++10::w)=adm (c::r):=by
 by_cases hc:c=47
 ·subst hc
  cases r with
  | nil=>rfl
  | cons d r=>
   by_cases hd:d=47
   ·subst hd;rfl
   ·have e1:adm (47::d::r++10::w)=false:=by
     unfold adm
     split
     ·rename_i heq;simp only [List.cons_append,List.cons.injEq] at heq;exact absurd heq.2.1 hd
     ·rfl
    have e2:adm (47::d::r)=false:=by
     unfold adm
     split
     ·rename_i heq;simp only [List.cons.injEq] at heq;exact absurd heq.2.1 hd
     ·rfl
    rw [e1,e2]
 ·rw [List.cons_append,ap5 _ hc,ap5 _ hc]
theorem a26:∀ (s w:List UInt8) (b:Bool) (c:UInt8) (r:List UInt8),s.drop (skipS b s)=c::r->skipS b (s++10::w)=skipS b s:=by
 intro s
 induction s with
 | nil=>intro w b c r h;cases b<;>simp at h
 | cons a s ih=>
  intro w b c r h
  cases b with
  | true=>
   simp only [skipS,List.cons_append] at h ⊢
   cases ha:(a==10)<;>simp only [ha,cond_true,cond_false,List.drop_succ_cons] at h ⊢
   ·rw [ih w true c r h]
   ·rw [ih w false c r h]
  | false=>
   simp only [skipS,List.cons_append] at h ⊢
   rw [show adm (a::(s++10::w))=adm (a::s) from atr a s w]
   cases hs:spC a<;>simp only [hs,cond_true,cond_false] at h ⊢
   ·cases hh:adm (a::s)<;>simp only [hh,cond_true,cond_false,List.drop_succ_cons] at h ⊢
    rw [ih w true c r h]
   ·rw [ih w false c r (by simpa using h)]
theorem a3y:∀ (s w:List UInt8) (b:Bool),s.drop (skipS b s)=[]->(s++10::w).drop (skipS b (s++10::w))=w.drop (skipS false w):=by
 intro s
 induction s with
 | nil=>intro w b h;cases b<;>simp [skipS,spC]
 | cons a s ih=>
  intro w b h
  cases b with
  | true=>
   simp only [skipS,List.cons_append] at h ⊢
   cases ha:(a==10)<;>simp only [ha,cond_true,cond_false,List.drop_succ_cons] at h ⊢
   ·exact ih w true h
   ·exact ih w false h
  | false=>
   simp only [skipS,List.cons_append] at h ⊢
   rw [show adm (a::(s++10::w))=adm (a::s) from atr a s w]
   cases hs:spC a<;>simp only [hs,cond_true,cond_false] at h ⊢
   ·cases hh:adm (a::s)<;>simp only [hh,cond_true,cond_false,List.drop_succ_cons,List.drop_zero] at h ⊢
    ·cases h
    ·exact ih w true h
   ·simp only [List.drop_succ_cons] at h ⊢
    exact ih w false h
theorem a4z (p:UInt8->Bool) (hp:p 10=false):∀ (l w:List UInt8),runN p (l++10::w)=runN p l:=by
 intro l
 induction l with
 | nil=>intro w;rw [List.nil_append,ac1,if_neg (by rw [hp];simp)];rfl
 | cons c r ih=>intro w;rw [List.cons_append,ac1,ac1,ih]
theorem ayd (c:UInt8) (r w:List UInt8):aew c (r++10::w)=aew c r:=by
 cases r with
 | nil=>unfold aew;simp only [List.nil_append];rw [show letB 10=false by decide]
 | cons d r=>rfl
theorem a3r:∀ (l w:List UInt8),eat (l++10::w)=eat l:=by
 intro l
 induction l with
 | nil=>intro w;rw [List.nil_append,afd,if_neg (by decide),if_neg (by decide)];rfl
 | cons c r ih=>
  intro w
  rw [List.cons_append,afd,afd,ih]
  split
  ·rfl
  ·split
   ·cases r with
    | nil=>simp only [List.nil_append];rw [if_neg (by decide)]
    | cons d r=>rfl
   ·rfl
theorem a3s (c:UInt8) (r w:List UInt8):ad4 (c::r++10::w)=ad4 (c::r):=by
 rw [List.cons_append]
 simp only [ad4]
 rw [a3r,show eat (c::(r++10::w))=eat (c::r) from a3r (c::r) w]
theorem axc {n:Nat}{l m:List UInt8} (h:n<=l.length):(l++m).take n=l.take n:=List.take_append_of_le_length h
theorem a63 {l m:List UInt8}{i:Nat} (h:i<l.length):(l++m).getD i 0=l.getD i 0:=by
 rw [List.getD_eq_getElem?_getD,List.getD_eq_getElem?_getD,List.getElem?_append_left h]
theorem a01 {c:UInt8}{r:List UInt8}{k:Tk}{n:Nat} (w:List UInt8) (hl:(c::r++10::w).length<=1048576) (h:ajo (c::r)=.inl (k,n)):ajo (c::r++10::w)=.inl (k,n):=by
 have hl1:(c::r).length<=1048576:=by rw [List.length_append] at hl;omega
 have hlw:(c::r++10::w).length=(c::r).length+(w.length+1):=by rw [List.length_append];rfl
 rw [List.cons_append,ahs,ayd]
 rw [ahs] at h
 cases h1:aew c r with
 | true=>
  rw [h1] at h
  simp only [cond_true] at h ⊢
  unfold aow at h ⊢
  rw [show ad4 (c::(r++10::w))=ad4 (c::r) from a3s c r w,show (c::(r++10::w)).take (ad4 (c::r))=(c::r).take (ad4 (c::r)) from axc (l:=c::r) (apu _)]
  exact h
 | false=>
  cases h2:digC c with
  | true=>
   rw [h1,h2] at h
   simp only [cond_true,cond_false] at h ⊢
   have hle:=ak0 digC (c::r)
   have hpos:1<=runN digC (c::r):=by rw [ac1,if_pos h2];omega
   have hrun:runN digC (c::(r++10::w))=runN digC (c::r):=a4z digC (by decide) (c::r) w
   unfold azr at h ⊢
   rw [hrun]
   obtain ⟨m,hm⟩:∃ m,runN digC (c::r)=m:=⟨_,rfl⟩
   rw [hm] at h hle hpos ⊢
   have t1:(c::(r++10::w)).take m=(c::r).take m:=axc (l:=c::r) hle
   have g0:(c::(r++10::w)).getD 0 0=(c::r).getD 0 0:=rfl
   have g1:(decide (m<(c::(r++10::w)).length)&&alnB ((c::(r++10::w)).getD m 0))=(decide (m<(c::r).length)&&alnB ((c::r).getD m 0)):=by
    by_cases hc:m<(c::r).length
    ·rw [show (c::(r++10::w)).getD m 0=(c::r).getD m 0 from a63 (l:=c::r) hc,decide_eq_true hc,decide_eq_true (show m<(c::(r++10::w)).length by rw [<-List.cons_append,hlw];omega)]
    ·have hm2:m=(c::r).length:=by omega
     have e10:(c::(r++10::w)).getD m 0=10:=by
      rw [hm2,show c::(r++10::w)=c::r++10::w from rfl,List.getD_eq_getElem?_getD,List.getElem?_append_right (Nat.le_refl _),Nat.sub_self];rfl
     rw [e10,decide_eq_false hc,show alnB 10=false by decide];simp
   rw [t1,g0,g1]
   exact h
  | false=>
   cases h3:(c==34) with
   | true=>
    rw [h1,h2,h3] at h
    simp only [cond_true,cond_false] at h ⊢
    unfold az4 unqV at h ⊢
    rcases an1 (c::r) hl1 with ⟨a,q,ha,hy⟩ | ⟨_,hy⟩
    ·have hq:=alu a
     have hal:a.length<=1048576:=by
      have:(aa6 a).length<=(c::r).length:=by rw [ha];simp
      omega
     have hx:F131 0 (c::(r++10::w))=some (a,(((aa6 a).length:Nat):Int),0):=by
      have e:c::(r++10::w)=aa6 a++(q++10::w):=by rw [<-List.append_assoc,<-ha];rfl
      rw [e]
      exact aou hal _ (by rw [<-e];exact hl)
     rw [hy] at h
     rw [hx];exact h
    ·rw [hy] at h;cases h
   | false=>
    cases h4:ai6 c with
    | true=>
     rw [h1,h2,h3,h4] at h
     simp only [cond_true,cond_false] at h ⊢
     exact h
    | false=>rw [h1,h2,h3,h4] at h;cases h
def ah9:Nat->List UInt8->Option (List Tk)
 | 0,_=>some []
 | f+1,s=>
  match s.drop (skipS false s) with
  | []=>some []
  | c::r=>match ajo (c::r) with
   | .inr _=>none
   | .inl (k,n)=>(ah9 f ((c::r).drop n)).map (k::·)
theorem arj:∀ (f line:Nat) (s:List UInt8),ah9 f s=match afe f line s with | .inl l=>some (l.map (·.1)) | .inr _=>none:=by
 intro f
 induction f with
 | zero=>intro line s;rfl
 | succ f ih=>
  intro line s
  unfold ah9 afe
  cases s.drop (skipS false s) with
  | nil=>rfl
  | cons c r=>
   simp only
   cases ajo (c::r) with
   | inr e=>rfl
   | inl kn=>
    obtain ⟨k,n⟩:=kn
    simp only
    rw [ih (line+cnt10 (s.take (skipS false s))+cnt10 ((c::r).take n)) ((c::r).drop n)]
    cases afe f (line+cnt10 (s.take (skipS false s))+cnt10 ((c::r).take n)) ((c::r).drop n)<;>rfl
theorem aop (f g:Nat) (s:List UInt8) (hs:s.length<=1048576) (h1:s.length<f) (h2:s.length<g):ah9 f s=ah9 g s:=by
 rw [arj f 0,arj g 0,azi f g 0 s hs h1 h2]
theorem asu (w:List UInt8) (m:List Tk):∀ (f g:Nat) (s:List UInt8) (l:List Tk),ah9 f s=some l->s.length<f->(s++10::w).length<g->(s++10::w).length<=1048576->(∀ g,w.length<g->ah9 g w=some m)->ah9 g (s++10::w)=some (l++m):=by
 intro f
 induction f with
 | zero=>intro g s l _ h;omega
 | succ f ih=>
  intro g s l hsc hf hg hb hw
  obtain ⟨g,rfl⟩:∃ k,g=k+1:=⟨g-1,by omega⟩
  unfold ah9 at hsc
  have hsk:=al3 s false
  cases hd:s.drop (skipS false s) with
  | nil=>
   rw [hd] at hsc
   cases hsc
   have h1:=a3y s w false hd
   have h2:=hw (g+1) (by simp only [List.length_append,List.length_cons] at hg;omega)
   unfold ah9 at h2 ⊢
   rw [h1]
   exact h2
  | cons c r=>
   have hlen:(c::r).length=s.length-skipS false s:=by rw [<-hd,List.length_drop]
   rw [hd] at hsc
   simp only at hsc
   have e1:(s++10::w).drop (skipS false (s++10::w))=c::r++10::w:=by
    rw [a26 s w false c r hd,List.drop_append_of_le_length hsk,hd]
   cases hr:ajo (c::r) with
   | inr e=>rw [hr] at hsc;cases hsc
   | inl kn=>
    obtain ⟨k,n⟩:=kn
    obtain ⟨hn1,hn2,_,_⟩:=als (by simp only [List.length_append] at hb;omega) hr
    have hr2:=a01 w (by simp only [List.length_append] at hb ⊢;omega) hr
    rw [hr] at hsc
    simp only [Option.map_eq_some_iff] at hsc
    obtain ⟨q,hq,rfl⟩:=hsc
    have hrest:((c::r).drop n).length=s.length-skipS false s-n:=by rw [List.length_drop,hlen]
    have:=ih g ((c::r).drop n) q hq (by omega) (by simp only [List.length_append,List.length_cons] at hg ⊢;omega) (by simp only [List.length_append,List.length_cons] at hb ⊢;omega) hw
    unfold ah9
    rw [e1]
    rw [List.cons_append] at hr2 ⊢
    simp only [hr2]
    rw [<-List.cons_append,List.drop_append_of_le_length hn2,this]
    rfl
end
end Go.Ab
namespace Go.Ab
open Go
set_option maxRecDepth 100000
noncomputable section
variable {M:List Tk}
theorem abx {l:List Tk} (h:l≠[]):aap (l++M)=aap l/\abw (l++M)=abw l/\aih (l++M)=aih l/\(l++M).tail=l.tail++M/\∀ k s,isS k s (l++M)=isS k s l:=by
 cases l with
 | nil=>exact absurd rfl h
 | cons x r=>exact ⟨rfl,rfl,rfl,rfl,fun _ _=>rfl⟩
theorem ajb {k:Int} (hk:(k==0)=false) {p:List UInt8->Bool}{l r:List Tk}{v:List UInt8} (h:afz k p l=.ok v r):l≠[]/\afz k p (l++M)=.ok v (r++M):=by
 have hne:l≠[]:=by
  rintro rfl
  unfold afz at h
  have:(aap []==k)=false:=beqI (fun e=>by
   have e0:(0:Int)=k:=e
   subst e0;cases hk)
  rw [this] at h;cases h
 obtain ⟨e1,e2,_,e4,_⟩:=abx (M:=M) hne
 refine ⟨hne,?_⟩
 unfold afz at h ⊢
 rw [e1,e2,e4]
 cases hb:(aap l==k)<;>simp only [hb,cond_true,cond_false] at h ⊢
 ·cases h
 ·cases hp:p (abw l)<;>simp only [hp,cond_true,cond_false] at h ⊢<;>cases h
  rfl
theorem aks {k:Int}{s:List UInt8}{l r:List Tk}{v:Unit} (h:eatS k s l=.ok v r):l≠[]/\eatS k s (l++M)=.ok v (r++M):=by
 have hne:l≠[]:=by rintro rfl;cases h
 obtain ⟨_,_,_,e4,e5⟩:=abx (M:=M) hne
 refine ⟨hne,?_⟩
 unfold eatS at h ⊢
 rw [e4,e5]
 cases hb:isS k s l<;>simp only [hb,cond_true,cond_false] at h ⊢<;>cases h
 rfl
theorem a9w {most:Int}{l r:List Tk}{v:Int} (h:numS most l=.ok v r):l≠[]/\numS most (l++M)=.ok v (r++M):=by
 have hne:l≠[]:=by rintro rfl;cases h
 obtain ⟨e1,_,e3,e4,_⟩:=abx (M:=M) hne
 refine ⟨hne,?_⟩
 unfold numS at h ⊢
 rw [e1,e3,e4]
 cases hb:(aap l==2)<;>simp only [hb,cond_true,cond_false] at h ⊢
 ·cases h
 ·cases hp:decide (0<=aih l/\aih l<=most)<;>simp only [hp,cond_true,cond_false] at h ⊢<;>cases h
  rfl
theorem a2n {l r:List Tk}{v:PV} (h:typS l=.ok v r):l≠[]/\typS (l++M)=.ok v (r++M):=by
 obtain ⟨a,q,h1,h2⟩:=Rs.bind_inv h
 cases h2
 obtain ⟨hne,h3⟩:=ajb (M:=M) rfl h1
 refine ⟨hne,?_⟩
 unfold typS aey
 rw [h3];rfl
theorem arc {pv:PV×Int}{b b' r q:List Tk}{v:PV} (h:valS pv b r=.ok v q):valS pv b' (r++M)=.ok v (q++M):=by
 unfold valS at h ⊢
 cases hb:(pv.2==0)<;>simp only [hb,cond_true,cond_false] at h ⊢<;>cases h
 rfl
theorem az6 {k:Int}{neg:Bool}{l r:List Tk}{v:PV} (h:intS parV k neg l=.ok v r):l≠[]/\intS parV k neg (l++M)=.ok v (r++M):=by
 have hne:l≠[]:=by rintro rfl;cases h
 obtain ⟨e1,_,e3,e4,_⟩:=abx (M:=M) hne
 refine ⟨hne,?_⟩
 unfold intS at h ⊢
 rw [e1,e3,e4]
 cases hb:(aap l==2)<;>simp only [hb,cond_true,cond_false] at h ⊢
 ·cases h
 ·exact arc h
theorem apd {k:Int}{l r:List Tk}{v:PV} (hne:l≠[]) (h:(bif isS 4 [45] l then intS parV k true l.tail else intS parV k false l)=.ok v r):(bif isS 4 [45] (l++M) then intS parV k true (l++M).tail else intS parV k false (l++M))=.ok v (r++M):=by
 obtain ⟨_,_,_,e4,e5⟩:=abx (M:=M) hne
 rw [e4,e5]
 cases hb:isS 4 [45] l<;>simp only [hb,cond_true,cond_false] at h ⊢
 ·exact (az6 h).2
 ·exact (az6 h).2
theorem a9h {k:Int}{l r:List Tk}{v:PV} (hne:l≠[]) (h:litS parV k l=.ok v r):litS parV k (l++M)=.ok v (r++M):=by
 obtain ⟨e1,e2,e3,e4,e5⟩:=abx (M:=M) hne
 unfold litS at h ⊢
 cases h0:(k==0)<;>simp only [h0,cond_true,cond_false] at h ⊢
 ·cases h1:(k==1)<;>simp only [h1,cond_true,cond_false] at h ⊢
  ·cases h6:(k==6||k==8)<;>simp only [h6,cond_true,cond_false] at h ⊢
   ·cases h7:(k==7)<;>simp only [h7,cond_true,cond_false] at h ⊢
    ·exact apd hne h
    ·obtain ⟨s,q,g1,g2⟩:=Rs.bind_inv h
     have g3:aa9 (l++M)=.ok s (q++M):=(ajb (M:=M) (k:=3) rfl g1).2
     rw [g3,Rs.bind_ok]
     exact arc g2
   ·obtain ⟨s,q,g1,g2⟩:=Rs.bind_inv h
    have g3:aa9 (l++M)=.ok s (q++M):=(ajb (M:=M) (k:=3) rfl g1).2
    rw [g3,Rs.bind_ok]
    exact arc g2
  ·rw [e5,e5,e2,e4]
   cases hb:(isS 1 [116,114,117,101] l||isS 1 [102,97,108,115,101] l)<;>simp only [hb,cond_true,cond_false] at h ⊢
   ·cases h
   ·exact arc h
 ·obtain ⟨s,q,g1,g2⟩:=Rs.bind_inv h
  have g3:anv (l++M)=.ok s (q++M):=(ajb (M:=M) (k:=1) rfl g1).2
  cases g2
  rw [g3];rfl
theorem aud {k:Int}{l r:List Tk}{v:PV} (hne:l≠[]) (h:ac3 parV k l=.ok v r):ac3 parV k (l++M)=.ok v (r++M):=by
 obtain ⟨e1,e2,e3,e4,e5⟩:=abx (M:=M) hne
 unfold ac3 at h ⊢
 cases h1:(k==1)<;>simp only [h1,cond_true,cond_false] at h ⊢
 ·cases h7:(k==7)<;>simp only [h7,cond_true,cond_false] at h ⊢
  ·exact apd hne h
  ·rw [e1,e2,e4]
   cases h3:(aap l==3)<;>simp only [h3,cond_true,cond_false] at h ⊢
   ·cases h
   ·cases h2:decide ((abw l).length>4096)<;>simp only [h2,cond_true,cond_false] at h ⊢
    ·cases h4:valid (abw l)<;>simp only [h4,cond_true,cond_false] at h ⊢<;>cases h
     rfl
    ·cases h
 ·rw [e5,e5,e4]
  cases h2:isS 1 [116,114,117,101] l<;>simp only [h2,cond_true,cond_false] at h ⊢
  ·cases h3:isS 1 [102,97,108,115,101] l<;>simp only [h3,cond_true,cond_false] at h ⊢<;>cases h
   rfl
  ·cases h;rfl
theorem axs {k:Int}{r:List Tk}{v:PV} (h:ac3 parV k []=.ok v r):False:=by
 unfold ac3 at h
 cases h1:(k==1)<;>simp only [h1,cond_true,cond_false] at h
 ·cases h7:(k==7)<;>simp only [h7,cond_true,cond_false] at h
  ·cases h
  ·cases h
 ·cases h
theorem a6e {l r:List Tk}{v:PV} (h:ak1 parV aae l=.ok v r):l≠[]/\ak1 parV aae (l++M)=.ok v (r++M):=by
 have hne:l≠[]:=by rintro rfl;cases h
 obtain ⟨e1,e2,_,e4,_⟩:=abx (M:=M) hne
 refine ⟨hne,?_⟩
 unfold ak1 at h ⊢
 rw [e1,e2,e4]
 cases h1:(aap l==1)<;>simp only [h1,cond_true,cond_false] at h ⊢
 ·cases h
 ·cases h2:(aae (abw l)==0)<;>simp only [h2,cond_true,cond_false] at h ⊢
  ·obtain ⟨_,q,g1,g2⟩:=Rs.bind_inv h
   obtain ⟨w,q2,g3,g4⟩:=Rs.bind_inv g2
   have hq:q≠[]:=by rintro rfl;exact axs g3
   rw [(aks (M:=M) g1).2,Rs.bind_ok,aud hq g3,Rs.bind_ok]
   cases g4;rfl
  ·cases h
theorem a5m:∀ (m:Nat) (l:List Tk) (acc:List PV),l.length<=m->∀ v r,ab3 parV aae l acc=.ok v r->ab3 parV aae (l++M) acc=.ok v (r++M):=by
 intro m
 induction m with
 | zero=>
  intro l acc hm v r h
  have:l=[]:=List.eq_nil_of_length_eq_zero (by omega)
  subst this
  rw [aby] at h
  cases h
 | succ m ih=>
  intro l acc hm v r h
  rw [aby] at h ⊢
  obtain ⟨n,q,h1,h2⟩:=Rs.bind_inv h
  have hl:=akl parV aae l n q h1
  have hq:q≠[]:=by rintro rfl;cases h2
  obtain ⟨_,_,_,e4,e5⟩:=abx (M:=M) hq
  rw [(a6e (M:=M) h1).2,Rs.bind_ok,e5,e5,e4]
  cases h3:isS 4 [93] q<;>simp only [h3,cond_true,cond_false] at h2 ⊢
  ·cases h4:isS 4 [44] q<;>simp only [h4,cond_true,cond_false] at h2 ⊢
   ·cases h2
   ·exact ih q.tail _ (by have:=ab1 q;omega) v r h2
  ·cases h2;rfl
theorem a2z {l r:List Tk}{v:List PV} (hne:l≠[]) (h:acw parV aae l=.ok v r):acw parV aae (l++M)=.ok v (r++M):=by
 obtain ⟨_,_,_,e4,e5⟩:=abx (M:=M) hne
 unfold acw at h ⊢
 rw [e5,e4]
 cases h1:isS 4 [91] l<;>simp only [h1,cond_true,cond_false] at h ⊢
 ·cases h;rfl
 ·exact a5m _ _ _ (Nat.le_refl _) v r h
theorem a5k {wd:Bool}{k:Int}{l r:List Tk}{v:Bool×PV} (hne:l≠[]) (h:aoj parV wd k l=.ok v r) (hr:r≠[]):aoj parV wd k (l++M)=.ok v (r++M):=by
 obtain ⟨_,_,_,e4,e5⟩:=abx (M:=M) hne
 unfold aoj at h ⊢
 rw [e5,e4]
 cases hb:(wd&&isS 1 [100,101,102,97,117,108,116] l)<;>simp only [hb,cond_true,cond_false] at h ⊢
 ·cases h;rfl
 ·obtain ⟨w,q,g1,g2⟩:=Rs.bind_inv h
  have hq:l.tail≠[]:=by
   intro ht
   have:=a3w parV k l.tail w q g1
   rw [ht] at this
   simp at this
  rw [a9h hq g1,Rs.bind_ok]
  cases g2;rfl
theorem awq {card key:Int}{ty:PV}{un:List UInt8}{wd:Bool}{l r:List Tk}{v:PV} (h:aim parV aae card key ty un wd l=.ok v r):l≠[]/\aim parV aae card key ty un wd (l++M)=.ok v (r++M):=by
 obtain ⟨nm,r1,g1,h⟩:=Rs.bind_inv h
 obtain ⟨_,r2,g2,h⟩:=Rs.bind_inv h
 obtain ⟨n,r3,g3,h⟩:=Rs.bind_inv h
 obtain ⟨d,r4,g4,h⟩:=Rs.bind_inv h
 obtain ⟨nts,r5,g5,h⟩:=Rs.bind_inv h
 obtain ⟨_,r6,g6,h⟩:=Rs.bind_inv h
 obtain ⟨n6,f6⟩:=aks (M:=M) g6
 have n4:r4≠[]:=by
  rintro rfl
  have:=aeb parV aae [] nts r5 g5
  simp at this
  exact n6 this
 have n3:r3≠[]:=by
  rintro rfl
  have:=a1i parV wd _ [] d r4 g4
  simp at this
  exact n4 this
 obtain ⟨n1,f1⟩:=ajb (M:=M) (k:=1) rfl g1
 refine ⟨n1,?_⟩
 unfold aim anv
 rw [f1,Rs.bind_ok,(aks (M:=M) g2).2,Rs.bind_ok,(a9w (M:=M) g3).2,Rs.bind_ok,a5k n3 g4 n4,Rs.bind_ok,a2z n4 g5,Rs.bind_ok,f6,Rs.bind_ok]
 cases h;rfl
theorem a0s {l r:List Tk}{v:PV} (h:ad0 parV aae l=.ok v r):l≠[]/\ad0 parV aae (l++M)=.ok v (r++M):=by
 have hne:l≠[]:=by rintro rfl;cases h
 obtain ⟨e1,e2,_,e4,e5⟩:=abx (M:=M) hne
 refine ⟨hne,?_⟩
 unfold ad0 at h ⊢
 rw [e5,e1,e2,e4]
 cases h1:isS 1 [109,97,112] l<;>simp only [h1,cond_true,cond_false] at h ⊢
 ·cases h2:(aap l==1&&!(ai7 (abw l)==0))<;>simp only [h2,cond_true,cond_false] at h ⊢
  ·cases h
  ·obtain ⟨ty,q,g1,h⟩:=Rs.bind_inv h
   rw [(a2n (M:=M) g1).2,Rs.bind_ok]
   exact (awq h).2
 ·obtain ⟨_,q,g1,h⟩:=Rs.bind_inv h
  have hq:q≠[]:=by rintro rfl;cases h
  obtain ⟨d1,d2,_,d4,_⟩:=abx (M:=M) hq
  rw [(aks (M:=M) g1).2,Rs.bind_ok,d1,d2,d4]
  cases h2:(aap q==1&&!(aex (abw q)==0))<;>simp only [h2,cond_true,cond_false] at h ⊢
  ·cases h
  ·obtain ⟨_,q2,g2,h⟩:=Rs.bind_inv h
   obtain ⟨ty,q3,g3,h⟩:=Rs.bind_inv h
   obtain ⟨_,q4,g4,h⟩:=Rs.bind_inv h
   rw [(aks (M:=M) g2).2,Rs.bind_ok,(a2n (M:=M) g3).2,Rs.bind_ok,(aks (M:=M) g4).2,Rs.bind_ok]
   exact (awq h).2
end
end Go.Ab
namespace Go.Ab
open Go
set_option maxRecDepth 100000
noncomputable section
def tkMsg:Tk:=⟨1,[109,101,115,115,97,103,101],0⟩
def tkM:Tk:=⟨1,[77],0⟩
def tkO:Tk:=⟨4,[123],0⟩
def tkC:Tk:=⟨4,[125],0⟩
theorem avb {T:List Tk}{v:PV} (h:ad0 parV aae T=.ok v []) (hu:isS 4 [125] T=false/\isS 1 [117,110,105,111,110] T=false/\isS 1 [109,101,115,115,97,103,101] T=false/\isS 1 [101,110,117,109] T=false/\isS 1 [111,112,101,110] T=false/\isS 1 [114,101,115,101,114,118,101,100] T=false):
 a4e parV aae [] (tkMsg::tkM::tkO::(T++[tkC]))=.ok (PV.agg [PV.str [],PV.str [],PV.slice [],PV.slice [aj7 [77] [v] [] [] []],PV.slice [],PV.slice []]) []:=by
 obtain ⟨hne,hf⟩:=a0s (M:=[tkC]) h
 obtain ⟨_,_,_,_,e5⟩:=abx (M:=[tkC]) hne
 obtain ⟨u1,u2,u3,u4,u5,u6⟩:=hu
 have hb:acx parV aae (msgS parV aae 15) [77] (T++[tkC]) ⟨[],[],[],[aj7 [77] [] [] [] []],[]⟩=.ok ⟨[v],[],[],[aj7 [77] [] [] [] []],[]⟩ []:=by
  rw [alt parV aae _ (aom parV aae 15)]
  simp only [e5,u1,u2,u3,u4,u5,u6,cond_false,Bool.or_false]
  rw [hf,Rs.bind_ok,alt parV aae _ (aom parV aae 15)]
  rfl
 have hm:msgS parV aae 16 [] [] [] (tkMsg::tkM::tkO::(T++[tkC]))=.ok ([aj7 [77] [v] [] [] []],[]) []:=by
  unfold msgS
  rw [show eatS 1 [109,101,115,115,97,103,101] (tkMsg::tkM::tkO::(T++[tkC]))=.ok () (tkM::tkO::(T++[tkC])) from rfl,Rs.bind_ok]
  rw [show ak3 [] (tkM::tkO::(T++[tkC]))=.ok [77] (tkO::(T++[tkC])) from by
   unfold ak3 afz
   rw [show ami [] (abw (tkM::tkO::(T++[tkC])))=true from by kernel_rfl]
   rfl,Rs.bind_ok]
  rw [show acw parV aae (tkO::(T++[tkC]))=.ok [] (tkO::(T++[tkC])) from rfl,Rs.bind_ok]
  rw [show eatS 4 [123] (tkO::(T++[tkC]))=.ok () (T++[tkC]) from rfl,Rs.bind_ok]
  show (acx parV aae (msgS parV aae 15) [77] (T++[tkC]) ⟨[],[],[],[aj7 [77] [] [] [] []],[]⟩).bind _=_
  rw [hb];rfl
 unfold a4e
 rw [show aru (tkMsg::tkM::tkO::(T++[tkC]))=.ok [] (tkMsg::tkM::tkO::(T++[tkC])) from rfl,Rs.bind_ok]
 rw [akh,show isS 1 [105,109,112,111,114,116] (tkMsg::tkM::tkO::(T++[tkC]))=false from rfl,cond_false,Rs.bind_ok]
 rw [apw,show (tkMsg::tkM::tkO::(T++[tkC])).isEmpty=false from rfl,cond_false,show isS 1 [109,101,115,115,97,103,101] (tkMsg::tkM::tkO::(T++[tkC]))=true from rfl,cond_true,hm,Rs.bind_ok,apw]
 rfl
theorem azh {T r:List Tk}{v:PV} (h:ad0 parV aae T=.ok v r):isS 4 [125] T=false/\isS 1 [117,110,105,111,110] T=false/\isS 1 [109,101,115,115,97,103,101] T=false/\isS 1 [101,110,117,109] T=false/\isS 1 [111,112,101,110] T=false/\isS 1 [114,101,115,101,114,118,101,100] T=false:=by
 cases T with
 | nil=>cases h
 | cons x q=>
  obtain ⟨k,s,n⟩:=x
  unfold ad0 at h
  have words:k=1/\(s=[109,97,112]∨s=[114,101,113,117,105,114,101,100]∨s=[111,112,116,105,111,110,97,108]∨s=[112,108,97,105,110]∨s=[108,105,115,116]):=by
   cases h1:isS 1 [109,97,112] (⟨k,s,n⟩::q)<;>simp only [h1,cond_true,cond_false] at h
   ·cases h2:(aap (⟨k,s,n⟩::q:List Tk)==1&&!(ai7 (abw (⟨k,s,n⟩::q:List Tk))==0))<;>simp only [h2,cond_true,cond_false] at h
    ·cases h
    ·simp only [Bool.and_eq_true,aap,abw] at h2
     refine ⟨eq_of_beq h2.1,?_⟩
     have h3:=h2.2
     unfold ai7 at h3
     by_cases a1:s=[114,101,113,117,105,114,101,100]
     ·exact Or.inr (Or.inl a1)
     by_cases a2:s=[111,112,116,105,111,110,97,108]
     ·exact Or.inr (Or.inr (Or.inl a2))
     by_cases a3:s=[112,108,97,105,110]
     ·exact Or.inr (Or.inr (Or.inr (Or.inl a3)))
     by_cases a4:s=[108,105,115,116]
     ·exact Or.inr (Or.inr (Or.inr (Or.inr a4)))
     rw [neLs a1,neLs a2,neLs a3,neLs a4] at h3
     cases h3
   ·simp only [isS,Bool.and_eq_true] at h1
    exact ⟨eq_of_beq h1.1,Or.inl (eq_of_beq h1.2)⟩
  obtain ⟨rfl,hs⟩:=words
  rcases hs with rfl | rfl | rfl | rfl | rfl<;>exact ⟨rfl,rfl,rfl,rfl,rfl,rfl⟩
end
end Go.Ab
namespace Go.Ab
open Go
set_option maxRecDepth 100000
noncomputable section
theorem a1g (g:Nat) (h:11<g):ah9 g [109,101,115,115,97,103,101,32,77,32,123]=some [tkMsg,tkM,tkO]:=by
 rw [aop g 12 [109,101,115,115,97,103,101,32,77,32,123] (by decide) (by simpa using h) (by decide)]
 kernel_rfl
theorem azt (g:Nat) (h:([125]:List UInt8).length<g):ah9 g [125]=some [tkC]:=by
 rw [aop g 2 _ (by decide) h (by decide)]
 kernel_rfl
theorem avg (s:List UInt8) (T:List Tk) (hs:s.length<=6000) (h:ah9 (s.length+1) s=some T) (g:Nat) (hg:([109,101,115,115,97,103,101,32,77,32,123]++10::(s++10::[125]):List UInt8).length<g):ah9 g ([109,101,115,115,97,103,101,32,77,32,123]++10::(s++10::[125]))=some ([tkMsg,tkM,tkO]++(T++[tkC])):=by
 refine asu (s++10::[125]) (T++[tkC]) 12 g [109,101,115,115,97,103,101,32,77,32,123] [tkMsg,tkM,tkO] (a1g 12 (by decide)) (by decide) hg (by simp;omega) fun g2 hg2=>?_
 exact asu [125] [tkC] (s.length+1) g2 s T h (by omega) hg2 (by simp;omega) fun g3 hg3=>azt g3 hg3
theorem arv (s:List UInt8):F8 0 s=some true:=by
 unfold F8
 by_cases h1:s.length>6000
 ·rw [decide_eq_true (show (s.length:Int)>6000 by omega)];rfl
 rw [decide_eq_false (show ¬(s.length:Int)>6000 by omega)]
 have hs:=aw8 s (by omega)
 rw [a1u] at hs
 obtain ⟨g1,g2⟩:=axb (s.length+1) 1 s (by omega)
 cases h:afe (s.length+1) 1 s with
 | inr p=>
  obtain ⟨n,e⟩:=p
  have he:=(g2 n e h).1
  rw [h] at hs
  simp only [cond_false,hs,Option.bind_some,bneI he,cond_true,Bool.not_true,ad8]
 | inl l=>
  obtain ⟨q1,q2⟩:=g1 l h
  rw [h] at hs
  have ht:=a7z (n:=s.length) (by omega) q1 fun p hp=>⟨(q2 p hp).1,(q2 p hp).2.1⟩
  have hlen:(l.map vTk).length=l.length:=List.length_map _
  obtain ⟨b,hb,_⟩:=a2d (l.map vTk) (by rw [hlen];omega)
  simp only [cond_false,hs,Option.bind_some,show ((0:Int) != 0)=false from rfl,Bool.not_false,cond_true,hb]
  cases b with
  | false=>simp only [Bool.not_false,cond_true,Option.bind_some,ad8]
  | true=>
   have hf:=a3l a9b (l.map vTk) ht 0
   have hbp:af5 (l.map vTk) 0=false:=by
    unfold af5
    rw [decide_eq_false (by omega),cond_false,decide_eq_false (by omega)]
   rw [hbp,cond_false,show (0:Int).toNat=0 from rfl] at hf
   simp only [Bool.not_true,cond_false,hf,Option.bind_some]
   rcases anz a9b (l.map vTk) ht 0 (by omega) ([],[],(),(),(),[],[],[],[]) with ⟨v,j,hj,hx,_⟩ | ⟨j,e,hj,he,hx,_⟩
   ·rw [hx,a09 hj]
    simp only [show ((0:Int) != 0)=false from rfl,cond_false]
    by_cases hjl:j=(l.map vTk).length
    ·have e0:(((j:Nat):Int) != (((l.map vTk).length:Nat):Int))=false:=by rw [hjl];simp
     have hnil:ts (l.map vTk) j=[]:=afv (by omega)
     rw [hnil] at hx
     have hfo:=awl (a2y ht 0) hx
     have hfl:=asc hx
     rw [abm] at hfl
     have hsame:=atd hfo (by omega)
     rw [ts_v] at hx
     have hT:ah9 (s.length+1) s=some (l.map (·.1)):=by rw [arj _ 1,h]
     have l1:decide (([109,101,115,115,97,103,101,32,77,32,123]++[10]:List UInt8).length+s.length<=aa2)=true:=agu (by simp;omega)
     have l2:decide ((([109,101,115,115,97,103,101,32,77,32,123]++[10]:List UInt8)++s).length+([10,125]:List UInt8).length<=aa2)=true:=agu (by simp;omega)
     obtain ⟨src,hsrc⟩:∃ src,src=[109,101,115,115,97,103,101,32,77,32,123]++10::(s++10::[125]):=⟨_,rfl⟩
     have esrc:(([109,101,115,115,97,103,101,32,77,32,123]++[10]:List UInt8)++s)++[10,125]=src:=by rw [hsrc];simp
     have hsl:src.length<=6100:=by rw [hsrc];simp;omega
     have p1:=a6r [] src (by omega)
     have hg:=avg s (l.map (·.1)) (by omega) hT (src.length+1) (by rw [<-hsrc];omega)
     rw [<-hsrc,arj _ 1] at hg
     cases h2:afe (src.length+1) 1 src with
     | inr p=>rw [h2] at hg;cases hg
     | inl m=>
      rw [h2] at hg p1
      have hm:m.map (·.1)=tkMsg::tkM::tkO::(l.map (·.1)++[tkC]):=by simpa using hg
      have hfile:=avb hx (azh hx)
      have f1:a1w [] (m.map vTk)=(PV.agg [PV.str [],PV.str [],PV.slice [],PV.slice [aj7 [77] [v] [] [] []],PV.slice [],PV.slice []],0,0):=by
       unfold a1w;rw [ts_v,hm,hfile]
      simp only [f1] at p1
      simp only [e0,cond_false]
      rw [show decide ((([109,101,115,115,97,103,101,32,77,32,123,10]:List UInt8)).length+s.length<=aa2)=true from l1,cond_true,show decide ((([109,101,115,115,97,103,101,32,77,32,123,10]:List UInt8)++s).length+([10,125]:List UInt8).length<=aa2)=true from l2,cond_true]
      rw [show (([109,101,115,115,97,103,101,32,77,32,123,10]:List UInt8)++s)++[10,125]=src from esrc,p1]
      have hF:F27 0 v v=some true:=hsame
      simp only [Option.bind_some]
      show (bif imp true true then bif imp true true then bif imp true true then (bif true then F27 0 v v else some false).bind _ else none else none else none)=_
      simp only [imp,cond_true,hF,Option.bind_some]
      rfl
    ·have e0:(((j:Nat):Int) != (((l.map vTk).length:Nat):Int))=true:=bneI (by omega)
     simp only [e0,cond_true,Option.bind_some,ad8]
   ·rw [hx,azx hj]
    simp only [bneI he,cond_true,Option.bind_some,ad8]
end
end Go.Ab
