/- The program's parser and its specification: names, unions, reserved numbers and names, rpcs. -/
import Derived.Test.YtcpkdafleaddlaaGreatDoorPScan3Rt
import Derived.Test.YtcpkdafleaddlaaGreatDoorPUnqRt
set_option linter.unusedVariables false
set_option linter.unusedSimpArgs false
set_option linter.unnecessarySimpa false
namespace Go.Ab
open Go
set_option maxRecDepth 100000
inductive PG {α R S Z:Type} (t:List PV) (ok:R->S) (er:PV×Z->S) (I:α->Nat->Prop) (mk:α->Int->R) (x:Rs α) (y:Option S):Prop
 | ok (v:α) (j:Nat):j<=t.length->I v j->x=.ok v (ts t j)->y=some (ok (mk v ((j:Nat):Int)))->PG t ok er I mk x y
 | er (j:Nat) (e:Int) (z:Z):j<=t.length->e≠0->x=.er (ts t j) e->y=some (er (PV.agg [PV.int ((j:Nat):Int),PV.int e],z))->PG t ok er I mk x y
theorem Par.pg {α R:Type}{t:List PV}{q:QF}{mk:α->Q0->R}{x:Rs α}{y:Option (R⊕(PV×Q0))} (h:Par t q mk x y):PG t Sum.inl Sum.inr (fun _ _=>True) (fun v j=>mk v (t,j,q)) x y:=by
 rcases h with ⟨v,j,hj,hx,hy⟩ | ⟨j,e,hj,he,hx,hy⟩
 ·exact .ok v j hj trivial hx hy
 ·exact .er j e _ hj he hx hy
theorem PG.seq {α β R R' S' Z Z':Type}{t:List PV}{I:α->Nat->Prop}{I':β->Nat->Prop}{mk:α->Int->R}{ok':R'->S'}{er':PV×Z'->S'}{mk':β->Int->R'}{x:Rs α}{y:Option (R⊕(PV×Z))}{f:α->List Tk->Rs β}{g:R->Option S'}{E:PV×Z->Option S'}
 (h:PG t Sum.inl Sum.inr I mk x y) (hc:∀ v j,j<=t.length->I v j->x=.ok v (ts t j)->PG t ok' er' I' mk' (f v (ts t j)) (g (mk v ((j:Nat):Int)))) (hE:∀ p z,∃ z',E (p,z)=some (er' (p,z'))):
 PG t ok' er' I' mk' (x.bind f) (y.bind fun z=>sumE g E z):=by
 rcases h with ⟨v,j,hj,hi,hx,hy⟩ | ⟨j,e,z,hj,he,hx,hy⟩
 ·have:=hc v j hj hi hx
  rw [hx,hy];exact this
 ·obtain ⟨z',hz⟩:=hE (PV.agg [PV.int ((j:Nat):Int),PV.int e]) z
  rw [hx,hy];exact .er j e z' hj he rfl hz
theorem PG.swap {α β R R' S' Z Z':Type}{t:List PV}{I:α->Nat->Prop}{I':β->Nat->Prop}{mk:α->Int->R}{ok':R'->S'}{er':PV×Z'->S'}{mk':β->Int->R'}{x:Rs α}{y:Option ((PV×Z)⊕R)}{f:α->List Tk->Rs β}{g:R->Option S'}{E:PV×Z->Option S'}
 (h:PG t Sum.inr Sum.inl I mk x y) (hc:∀ v j,j<=t.length->I v j->x=.ok v (ts t j)->PG t ok' er' I' mk' (f v (ts t j)) (g (mk v ((j:Nat):Int)))) (hE:∀ p z,∃ z',E (p,z)=some (er' (p,z'))):
 PG t ok' er' I' mk' (x.bind f) (y.bind fun z=>sumE E g z):=by
 rcases h with ⟨v,j,hj,hi,hx,hy⟩ | ⟨j,e,z,hj,he,hx,hy⟩
 ·have:=hc v j hj hi hx
  rw [hx,hy];exact this
 ·obtain ⟨z',hz⟩:=hE (PV.agg [PV.int ((j:Nat):Int),PV.int e]) z
  rw [hx,hy];exact .er j e z' hj he rfl hz
section
variable {α R S Z:Type}{t:List PV}{ok:R->S}{er:PV×Z->S}{I:α->Nat->Prop}{mk:α->Int->R}
theorem PG.may (ht:TOk t) (s:List UInt8) (k:Int) (hk:kOf s=k) (i:Nat) (hi:i<=t.length) (q:QF) {K:Bool×Q0->Option S}{x1 x2:Rs α}
 (h1:isS k s (ts t i)=true->i+1<=t.length->PG t ok er I mk x1 (K (true,(t,((i+1:Nat):Int),q)))) (h2:isS k s (ts t i)=false->PG t ok er I mk x2 (K (false,(t,(i:Int),q)))):
 PG t ok er I mk (bif isS k s (ts t i) then x1 else x2) ((F91 0 () s (t,(i:Int),q)).bind K):=by
 rw [ajo s k hk t ht i hi q,Option.bind_some]
 cases h:isS k s (ts t i) with
 | true=>exact h1 h (ac1 h)
 | false=>exact h2 h
theorem PG.sign (ht:TOk t) (s:List UInt8) (k:Int) (hk:kOf s=k) (i:Nat) (hi:i<=t.length) (q:QF) {K:Bool×Q0->Option S}{x1 x2:Rs α}
 (h1:isS k s (ts t i)=true->PG t ok er I mk x1 (K (true,(t,(i:Int),q)))) (h2:isS k s (ts t i)=false->PG t ok er I mk x2 (K (false,(t,(i:Int),q)))):
 PG t ok er I mk (bif isS k s (ts t i) then x1 else x2) ((F96 0 () s (t,(i:Int),q)).bind K):=by
 rw [aoh s k hk t ht i hi q,Option.bind_some]
 cases h:isS k s (ts t i) with
 | true=>exact h1 h
 | false=>exact h2 h
end
theorem acx {α:Type}{x:Rs α}{t:List PV}{i j:Nat}{v:α} (hi:i<=t.length) (hj:j<=t.length) (hs:Sh x (ts t i)) (hx:x=.ok v (ts t j)):i<j:=by
 have:=hs v _ hx
 rw [ab6,ab6] at this
 omega
theorem a7m {α:Type}{x:Rs α}{t:List PV}{i j:Nat}{v:α} (hi:i<=t.length) (hj:j<=t.length) (hs:Sh0 x (ts t i)) (hx:x=.ok v (ts t j)):i<=j:=by
 have:=hs v _ hx
 rw [ab6,ab6] at this
 omega
theorem accL {n:Nat} (h:n<=68719476736):decide (n<=aal)=true:=decide_eq_true h
theorem avx {s:List UInt8} (h:ahg s=true):s.length<=120:=by
 unfold ahg at h
 simp only [Bool.and_eq_true,decide_eq_true_eq] at h
 omega
theorem axh {o s:List UInt8} (h:ao1 o s=true):(aq3 o s).length<=120:=by
 unfold ao1 at h
 simp only [Bool.and_eq_true,Bool.or_eq_true] at h
 rcases h.2 with h2 | h2
 ·have e:o=[]:=by simpa using h2
  subst e
  have:=h.1
  unfold defP at this
  simp only [Bool.and_eq_true] at this
  exact avx this.1
 ·exact avx h2.2
theorem a3i (o s:List UInt8) (ho:o.length<=1048576) (hs:s.length<=1048576):F288 0 o s=some (aq3 o s):=by
 unfold F288 aq3
 cases h:(o==[]) with
 | true=>rfl
 | false=>
  have l1:decide (o.length+([46]:List UInt8).length<=aa9)=true:=ahx (by simp;omega)
  have l2:decide ((o++([46]:List UInt8)).length+s.length<=aa9)=true:=ahx (by simp;omega)
  simp only [cond_false,l1,l2,cond_true]
theorem a1e (o s:List UInt8) (ho:o.length<=120) (hs:s.length<=1048576):F287 0 s () o=some (ao1 o s,o):=by
 have hj:(aq3 o s).length<=1048820:=by unfold aq3;cases (o==[])<;>simp<;>omega
 unfold F287 ao1
 rw [arp s hs,Option.bind_some,ago,a3i o s (by omega) hs]
 cases defP s with
 | false=>cases (o==[])<;>rfl
 | true=>
  cases h0:(o==[]) with
  | true=>rfl
  | false=>
   cases hp:adx s with
   | false=>rfl
   | true=>
    have hsl:s.length<=120:=by
     unfold adx at hp
     cases s with
     | nil=>simp
     | cons c r=>
      simp only [Bool.and_eq_true,decide_eq_true_eq] at hp
      simp only [List.length_cons]
      have:=hp.1.1
      omega
    have:=ajk (aq3 o s) (by unfold aq3;rw [h0];simp;omega)
    simp only [Bool.not_false,cond_true,Option.bind_some,this,Bool.true_and,Bool.false_or,cond_false]
theorem am9 (o:List UInt8) (ho:o.length<=120) (t:List PV) (ht:TOk t) (i:Nat) (hi:i<=t.length) (nm sp:List UInt8) (sv im ms es:List PV):
 PG t Sum.inl Sum.inr (fun v _=>v.length<=120) (fun v j=>(v,(t,j,nm,sp,(),(),(),sv,im,ms,es))) (ao4 o (ts t i)) (F204 0 () o (t,(i:Int),nm,sp,(),(),(),sv,im,ms,es)):=by
 have hl:=ht.len
 unfold F204 ao4 takeS F92_v2
 simp only [ad1 t i (nm,sp,(),(),(),sv,im,ms,es),Option.bind_some]
 by_cases hb:aax (ts t i)=1
 ·have e1:(aax (ts t i) != 1)=false:=by rw [hb];rfl
  have e2:(aax (ts t i)==1)=true:=by rw [hb];rfl
  have h:i<t.length:=ac6 rfl e2
  have hx:aco (ts t i)=((t.getD i .bad).fld 1).asStr:=by rw [ac5 h];rfl
  simp only [e1,e2,cond_false,cond_true,aab,h,decide_true,Int.toNat_natCast,a1e o _ ho (a0h ht h),Option.bind_some,hx,abk (show i<=9223372036854775000 by omega)]
  cases hp:ao1 o ((t.getD i .bad).fld 1).asStr with
  | true=>
   simp only [Bool.not_true,cond_false,cond_true,abo,a3i o _ (by omega) (a0h ht h),Option.bind_some,Rs.bind_ok]
   exact .ok _ (i+1) h (axh hp) (by rw [aa0]) rfl
  | false=>exact .er i 8 _ hi (by decide) rfl rfl
 ·have e1:(aax (ts t i) != 1)=true:=bneI hb
  have e2:(aax (ts t i)==1)=false:=beqI hb
  simp only [e1,e2,cond_true,cond_false]
  exact .er i 2 _ hi (by decide) rfl rfl
theorem aze (t:List PV) (ht:TOk t) (h5:t.length<=100000) (i0:Nat) (q:QF):∀ (m i:Nat) (acc:List PV),t.length-i<=m->i<=t.length->acc.length+i0<=i->
 PG t Sum.inl Sum.inr (fun v j=>v.length+i0<=j) (fun v j=>(v,(t,j,q))) (al5 (ts t i) acc) (aba (S207_3step 0) ((),acc,(t,(i:Int),q))):=by
 intro m
 induction m with
 | zero=>
  intro i acc hm hi ha
  rw [aqk,show abg (ts t i)=.er (ts t i) 2 by rw [aej (by omega)];rfl]
  have hy:S207_3step 0 ((),acc,(t,(i:Int),q))=some (.inr (.inr (PV.agg [PV.int (i:Int),PV.int 2],(t,(i:Int),q)))):=by
   unfold S207_3step S207_3
   rcases af1 t ht i hi q with ⟨v,j,hj,hx,hy⟩ | ⟨j,e,hj,he,hx,hy⟩
   ·have:=acx hi hj (acz _) hx
    omega
   ·rw [show abg (ts t i)=.er (ts t i) 2 by rw [aej (by omega)];rfl] at hx
    simp only [Rs.er.injEq] at hx
    have:=a71 hi hj hx.1
    subst this
    rw [<-hx.2] at hy
    simp only [hy,Option.bind_some,aa2]
  exact .er i 2 (t,(i:Int),q) hi (by decide) rfl (aac hy)
 | succ m ih=>
  intro i acc hm hi ha
  rw [aqk]
  have ea:∀ x:PV,decide (acc.length+[x].length<=aal)=true:=fun x=>accL (by simp;omega)
  rcases af1 t ht i hi q with ⟨v,j,hj,hx,hy⟩ | ⟨j,e,hj,he,hx,hy⟩
  ·have hlt:=acx hi hj (acz _) hx
   rw [hx,Rs.bind_ok]
   cases h1:isS 4 [59] (ts t j) with
   | true=>
    refine .ok (acc++[PV.str v]) (j+1) (ac1 h1) (by simp;omega) (by rw [cond_true,aa0]) (aac ?_)
    simp only [S207_3step,S207_3,hy,Option.bind_some,abo,ea,cond_true,ajo [59] 4 (by decide) t ht j hj,h1]
   | false=>
    rw [cond_false]
    rcases adr [44] 4 (by decide) t ht j hj q with ⟨_,k,hk,hx2,hy2⟩ | ⟨k,e,hk,he,hx2,hy2⟩
    ·have hlt2:=acx hj hk (eat_sh _ _ _) hx2
     rw [hx2,Rs.bind_ok]
     have st:S207_3step 0 ((),acc,(t,(i:Int),q))=some (.inl ((),acc++[PV.str v],(t,(k:Int),q))):=by
      simp only [S207_3step,S207_3,hy,Option.bind_some,abo,ea,cond_true,cond_false,ajo [59] 4 (by decide) t ht j hj,h1,hy2]
     rw [aaw st]
     exact ih k _ (by omega) hk (by simp;omega)
    ·rw [hx2,Rs.bind_er]
     refine .er k e (t,(k:Int),q) hk he rfl (aac ?_)
     simp only [S207_3step,S207_3,hy,Option.bind_some,abo,aa2,ea,cond_true,cond_false,ajo [59] 4 (by decide) t ht j hj,h1,hy2]
  ·rw [hx,Rs.bind_er]
   refine .er j e (t,(j:Int),q) hj he rfl (aac ?_)
   simp only [S207_3step,S207_3,hy,Option.bind_some,aa2]
theorem a6s (t:List PV) (ht:TOk t) (h5:t.length<=100000) (i:Nat) (hi:i<=t.length) (q:QF):
 PG t Sum.inl Sum.inr (fun v j=>v.length+i<=j) (fun v j=>(v,(t,j,q))) (al5 (ts t i) []) (F207 0 () (t,(i:Int),q)):=by
 unfold F207
 rw [aan]
 rcases aze t ht h5 i q t.length i [] (by omega) hi (by simp) with ⟨v,j,hj,hv,hx,hy⟩ | ⟨j,e,z,hj,he,hx,hy⟩
 ·exact .ok v j hj hv hx (by simp only [hy,Option.bind_some,abo])
 ·exact .er j e z hj he hx (by simp only [hy,Option.bind_some,aa2])
end Go.Ab
namespace Go.Ab
open Go
set_option maxRecDepth 100000
def ae8 (l:List PV):Prop:=l.length<=100000/\∀ x,x∈l->asw x
def ag1 (v:PV):Prop:=a5k v/\(v.fld 8).asList.length<=100000
def ald (v:PV):Prop:=ae8 (v.fld 4).asList
def at5 (v:PV):Prop:=ae8 (v.fld 2).asList
def adw (v:PV):Prop:=(v.fld 2).asList.length<=100000/\(∀ x,x∈(v.fld 2).asList->at5 x)/\(v.fld 3).asList.length<=100000/\ae8 (v.fld 4).asList
def ar0 (v:PV):Prop:=(v.fld 1).asList.length<=100000/\(∀ x,x∈(v.fld 1).asList->ald x)/\ae8 (v.fld 2).asList
def agc (v:PV):Prop:=(v.fld 1).asList.length<=100000/\(∀ x,x∈(v.fld 1).asList->ag1 x)/\(v.fld 2).asList.length<=100000/\(v.fld 3).asList.length<=100000/\ae8 (v.fld 4).asList
theorem aef {t:List PV}{i j:Nat}{v:List PV} (h5:t.length<=100000) (h:adj parV aai (ts t i)=.ok v (ts t j)):ae8 v:=by
 have:=aom h
 rw [ab6] at this
 exact ⟨by omega,an4 h⟩
theorem aeq {P:PV->Prop}{l:List PV}{x:PV} (h:∀ y,y∈l->P y) (hx:P x):∀ y,y∈l++[x]->P y:=fun y hy=>by
 rcases List.mem_append.1 hy with hy | hy
 ·exact h y hy
 ·rw [List.mem_singleton.1 hy];exact hx
theorem a4s {P:PV->Prop}{l m:List PV} (h:∀ y,y∈l->P y) (hm:∀ y,y∈m->P y):∀ y,y∈l++m->P y:=fun y hy=>by
 rcases List.mem_append.1 hy with hy | hy
 ·exact h y hy
 ·exact hm y hy
theorem adv {P:PV->Prop}:∀ y,y∈([]:List PV)->P y:=fun y hy=>by cases hy
theorem Rs.bind_assoc {α β γ:Type} (x:Rs α) (f:α->List Tk->Rs β) (g:β->List Tk->Rs γ):(x.bind f).bind g=x.bind fun v r=>(f v r).bind g:=by
 cases x<;>rfl
inductive PL {α β R S Z σ:Type} (t:List PV) (st:β->Int->σ) (spec:List Tk->β->Rs α) (J:β->Nat->Prop) (ok:R->S) (er:PV×Z->S) (I:α->Nat->Prop) (mk:α->Int->R) (i:Nat) (x:Rs α) (y:Option (σ⊕S)):Prop
 | go (b:β) (j:Nat):i<j->j<=t.length->J b j->x=spec (ts t j) b->y=some (.inl (st b ((j:Nat):Int)))->PL t st spec J ok er I mk i x y
 | done (v:α) (j:Nat):j<=t.length->I v j->x=.ok v (ts t j)->y=some (.inr (ok (mk v ((j:Nat):Int))))->PL t st spec J ok er I mk i x y
 | er (j:Nat) (e:Int) (z:Z):j<=t.length->e≠0->x=.er (ts t j) e->y=some (.inr (er (PV.agg [PV.int ((j:Nat):Int),PV.int e],z)))->PL t st spec J ok er I mk i x y
section
variable {α β R S Z σ:Type}{t:List PV}{st:β->Int->σ}{spec:List Tk->β->Rs α}{J:β->Nat->Prop}{ok:R->S}{er:PV×Z->S}{I:α->Nat->Prop}{mk:α->Int->R}{i:Nat}
theorem PL.loop {step:σ->Option (σ⊕S)} (h:∀ i b,i<=t.length->J b i->PL t st spec J ok er I mk i (spec (ts t i) b) (step (st b (i:Int)))):∀ (m i:Nat) (b:β),t.length-i<=m->i<=t.length->J b i->PG t ok er I mk (spec (ts t i) b) (aba step (st b (i:Int))):=by
 intro m
 induction m with
 | zero=>
  intro i b hm hi hj
  rcases h i b hi hj with ⟨b',j,h1,h2,_⟩ | ⟨v,j,h1,h2,h3,h4⟩ | ⟨j,e,z,h1,h2,h3,h4⟩
  ·omega
  ·exact .ok v j h1 h2 h3 (aac h4)
  ·exact .er j e z h1 h2 h3 (aac h4)
 | succ m ih=>
  intro i b hm hi hj
  rcases h i b hi hj with ⟨b',j,h1,h2,h3,h4,h5⟩ | ⟨v,j,h1,h2,h3,h4⟩ | ⟨j,e,z,h1,h2,h3,h4⟩
  ·rw [h4,aaw h5];exact ih j b' (by omega) h2 h3
  ·exact .ok v j h1 h2 h3 (aac h4)
  ·exact .er j e z h1 h2 h3 (aac h4)
theorem PL.seq {α0 R0 Z0:Type}{I0:α0->Nat->Prop}{mk0:α0->Int->R0}{x0:Rs α0}{y0:Option (R0⊕(PV×Z0))}{f:α0->List Tk->Rs α}{g:R0->Option (σ⊕S)}{E:PV×Z0->Option (σ⊕S)}
 (h:PG t Sum.inl Sum.inr I0 mk0 x0 y0) (hc:∀ v j,j<=t.length->I0 v j->x0=.ok v (ts t j)->PL t st spec J ok er I mk i (f v (ts t j)) (g (mk0 v ((j:Nat):Int)))) (hE:∀ p z,∃ z',E (p,z)=some (.inr (er (p,z')))):
 PL t st spec J ok er I mk i (x0.bind f) (y0.bind fun z=>sumE g E z):=by
 rcases h with ⟨v,j,hj,hi,hx,hy⟩ | ⟨j,e,z,hj,he,hx,hy⟩
 ·have:=hc v j hj hi hx
  rw [hx,hy];exact this
 ·obtain ⟨z',hz⟩:=hE (PV.agg [PV.int ((j:Nat):Int),PV.int e]) z
  rw [hx,hy];exact .er j e z' hj he rfl hz
theorem PL.may (ht:TOk t) (s:List UInt8) (k:Int) (hk:kOf s=k) (j:Nat) (hj:j<=t.length) (q:QF) {K:Bool×Q0->Option (σ⊕S)}{x1 x2:Rs α}
 (h1:isS k s (ts t j)=true->j+1<=t.length->PL t st spec J ok er I mk i x1 (K (true,(t,((j+1:Nat):Int),q)))) (h2:isS k s (ts t j)=false->PL t st spec J ok er I mk i x2 (K (false,(t,(j:Int),q)))):
 PL t st spec J ok er I mk i (bif isS k s (ts t j) then x1 else x2) ((F91 0 () s (t,(j:Int),q)).bind K):=by
 rw [ajo s k hk t ht j hj q,Option.bind_some]
 cases h:isS k s (ts t j) with
 | true=>exact h1 h (ac1 h)
 | false=>exact h2 h
theorem PL.sign (ht:TOk t) (s:List UInt8) (k:Int) (hk:kOf s=k) (j:Nat) (hj:j<=t.length) (q:QF) {K:Bool×Q0->Option (σ⊕S)}{x1 x2:Rs α}
 (h1:isS k s (ts t j)=true->PL t st spec J ok er I mk i x1 (K (true,(t,(j:Int),q)))) (h2:isS k s (ts t j)=false->PL t st spec J ok er I mk i x2 (K (false,(t,(j:Int),q)))):
 PL t st spec J ok er I mk i (bif isS k s (ts t j) then x1 else x2) ((F96 0 () s (t,(j:Int),q)).bind K):=by
 rw [aoh s k hk t ht j hj q,Option.bind_some]
 cases h:isS k s (ts t j) with
 | true=>exact h1 h
 | false=>exact h2 h
end
section
variable {t:List PV}
theorem azr (most:Int) (l:List Tk) (acc:List PV):adh most l acc=(numS most l).bind fun a r=>bif isS 4 [45] r then ((numS most r.tail).bind fun b r2=>bif isS 4 [59] r2 then .ok (acc++[PV.agg [PV.int a,PV.int b]]) r2.tail else (eatS 4 [44] r2).bind fun _ r3=>adh most r3 (acc++[PV.agg [PV.int a,PV.int b]]))
 else (bif isS 4 [59] r then .ok (acc++[PV.agg [PV.int a,PV.int a]]) r.tail else (eatS 4 [44] r).bind fun _ r3=>adh most r3 (acc++[PV.agg [PV.int a,PV.int a]])):=by
 rw [awm]
 unfold auu
 simp only [Rs.bind_assoc,Rs.bind_ok]
 congr 1
 funext a r
 cases isS 4 [45] r<;>rfl
theorem arf (ht:TOk t) (hn:∀ x,x∈t->-9223372036854775808<=(x.fld 2).asInt/\(x.fld 2).asInt<=9223372036854775807) (h5:t.length<=100000) (most:Int) (hm:0<=most/\most<=2147483647) (i0:Nat) (hi0:i0<=t.length) (q:QF):
 PG t Sum.inl Sum.inr (fun v j=>v.length+i0<=j) (fun v j=>(v,(t,j,q))) (adh most (ts t i0) []) (F208 0 () most (t,(i0:Int),q)):=by
 have lp:=PL.loop (t:=t) (st:=fun (b:List PV) j=>((),most,b,((t,j,q):Q0))) (spec:=fun l b=>adh most l b) (J:=fun b j=>b.length+i0<=j) (ok:=Sum.inl) (er:=Sum.inr) (I:=fun v j=>v.length+i0<=j) (mk:=fun v j=>(v,((t,j,q):Q0))) (step:=S208_3step 0) (fun i b hi hj=>by
  have ea:∀ x:PV,decide (b.length+[x].length<=aal)=true:=fun x=>accL (by simp;omega)
  show PL t _ _ _ _ _ _ _ i (adh most (ts t i) b) _
  rw [azr]
  simp only [S208_3step,S208_3,ea,cond_true]
  refine PL.seq (apj t ht i hi most hm hn q).pg (fun a j hj2 _ hx=>?_) (fun p z=>⟨_,rfl⟩)
  have h1:=acx hi hj2 (amr most _) hx
  refine PL.may ht [45] 4 (by decide) j hj2 q (fun _ hj3=>?_) (fun _=>?_)
  ·simp only [cond_true,aa0]
   refine PL.seq (apj t ht (j+1) hj3 most hm hn q).pg (fun c k hk _ hx2=>?_) (fun p z=>⟨_,rfl⟩)
   have h2:=acx hj3 hk (amr most _) hx2
   refine PL.may ht [59] 4 (by decide) k hk q (fun _ hk3=>?_) (fun _=>?_)
   ·simp only [cond_true,aa0]
    exact .done _ (k+1) hk3 (by simp;omega) rfl rfl
   ·simp only [cond_false]
    refine PL.seq (adr [44] 4 (by decide) t ht k hk q).pg (fun _ l hl _ hx3=>?_) (fun p z=>⟨_,rfl⟩)
    have h3:=acx hk hl (eat_sh _ _ _) hx3
    exact .go (b++[PV.agg [PV.int a,PV.int c]]) l (by omega) hl (by simp;omega) rfl rfl
  ·simp only [cond_false]
   refine PL.may ht [59] 4 (by decide) j hj2 q (fun _ hk3=>?_) (fun _=>?_)
   ·simp only [cond_true,aa0]
    exact .done _ (j+1) hk3 (by simp;omega) rfl rfl
   ·simp only [cond_false]
    refine PL.seq (adr [44] 4 (by decide) t ht j hj2 q).pg (fun _ l hl _ hx3=>?_) (fun p z=>⟨_,rfl⟩)
    have h3:=acx hj2 hl (eat_sh _ _ _) hx3
    exact .go (b++[PV.agg [PV.int a,PV.int a]]) l (by omega) hl (by simp;omega) rfl rfl) t.length i0 [] (by omega) hi0 (by simp)
 unfold F208
 rw [aan]
 rcases lp with ⟨v,j,hj,hv,hx,hy⟩ | ⟨j,e,z,hj,he,hx,hy⟩
 ·exact .ok v j hj hv hx (by rw [hy];rfl)
 ·exact .er j e z hj he hx (by rw [hy];rfl)
theorem a2j (po:adf) (ht:TNum t) (h5:t.length<=100000) (i0:Nat) (hi0:i0<=t.length) (q:QF):
 PG t Sum.inl Sum.inr (fun v j=>v.length+i0<=j/\∀ x,x∈v->ag1 x) (fun v j=>(v,(t,j,q))) (asc parV aai (ts t i0)) (F206 0 () (t,(i0:Int),q)):=by
 have h0:=ht.toTOk
 have lp:=fun (un:List UInt8)=>PL.loop (t:=t) (st:=fun (b:List PV) j=>((),un,b,((t,j,q):Q0))) (spec:=fun l b=>adm parV aai un l b) (J:=fun b j=>b.length+i0<=j/\∀ x,x∈b->ag1 x) (ok:=Sum.inl) (er:=Sum.inr) (I:=fun v j=>v.length+i0<=j/\∀ x,x∈v->ag1 x) (mk:=fun v j=>(v,((t,j,q):Q0))) (step:=S206_6step 0) (fun i b hi hJ=>by
  obtain ⟨hj,hok⟩:=hJ
  have ea:∀ x:PV,decide (b.length+[x].length<=aal)=true:=fun x=>accL (by simp;omega)
  show PL t _ _ _ _ _ _ _ i (adm parV aai un (ts t i) b) _
  rw [aop]
  simp only [S206_6step,S206_6,ea,cond_true]
  refine PL.seq (avi t h0 i hi q).pg (fun ty j hj2 _ hx=>?_) (fun p z=>⟨_,rfl⟩)
  have h1:=acx hi hj2 (aq8 _) hx
  refine PL.seq (aqo po 2 0 ty un false (by
   unfold typS at hx
   cases hq:afd (ts t i)<;>rw [hq] at hx<;>simp only [Rs.bind] at hx<;>cases hx
   exact aqu _) t ht j hj2 q).pg (fun x k hk _ hx2=>?_) (fun p z=>⟨_,rfl⟩)
  have h2:=acx hj2 hk (alv parV aai _ _ _ _ _ _) hx2
  have hfo:ag1 x:=⟨aqj (a7u ht j) (fun h=>by cases h) hx2,by have:=al3 hx2;rw [ab6] at this;omega⟩
  refine PL.may h0 [125] 4 (by decide) k hk q (fun _ hk3=>?_) (fun _=>?_)
  ·simp only [cond_true,aa0]
   exact .done (b++[x]) (k+1) hk3 ⟨by simp;omega,aeq hok hfo⟩ rfl rfl
  ·simp only [cond_false]
   exact .go (b++[x]) k (by omega) hk ⟨by simp;omega,aeq hok hfo⟩ rfl rfl)
 unfold F206 asc
 refine PG.seq (adr [117,110,105,111,110] 1 (by decide) t h0 i0 hi0 q).pg (fun _ j hj _ hx=>?_) (fun p z=>⟨_,rfl⟩)
 have h1:=acx hi0 hj (eat_sh _ _ _) hx
 refine PG.seq (ajc t h0 j hj q).pg (fun un k hk _ hx2=>?_) (fun p z=>⟨_,rfl⟩)
 have h2:=acx hj hk (aif _) hx2
 refine PG.seq (adr [123] 4 (by decide) t h0 k hk q).pg (fun _ l hl _ hx3=>?_) (fun p z=>⟨_,rfl⟩)
 have h3:=acx hk hl (eat_sh _ _ _) hx3
 simp only [aan]
 rcases lp un t.length l [] (by omega) hl ⟨by simp;omega,adv⟩ with ⟨v,m,hm,hv,hx4,hy⟩ | ⟨m,e,z,hm,he,hx4,hy⟩
 ·exact .ok v m hm hv hx4 (by rw [hy];rfl)
 ·exact .er m e z hm he hx4 (by rw [hy];rfl)
theorem av3 (ht:TOk t) (i:Nat) (hi:i<=t.length) (q:QF):
 PG t Sum.inl Sum.inr (fun _ _=>True) (fun v j=>(v.1,v.2,(t,j,q))) (axw (ts t i)) (F289 0 () (t,(i:Int),q)):=by
 unfold F289 axw
 refine PG.seq (adr [40] 4 (by decide) t ht i hi q).pg (fun _ j hj _ hx=>?_) (fun p z=>⟨_,rfl⟩)
 rw [ajo [115,116,114,101,97,109] 1 (by decide) t ht j hj q]
 simp only [Option.bind_some]
 cases h:isS 1 [115,116,114,101,97,109] (ts t j) with
 | true=>
  simp only [cond_true,aa0]
  refine PG.seq (agy t ht (j+1) (ac1 h) q).pg (fun s k hk _ hx2=>?_) (fun p z=>⟨_,rfl⟩)
  refine PG.seq (adr [41] 4 (by decide) t ht k hk q).pg (fun _ l hl _ hx3=>?_) (fun p z=>⟨_,rfl⟩)
  exact .ok (true,s) l hl trivial rfl rfl
 | false=>
  simp only [cond_false]
  refine PG.seq (agy t ht j hj q).pg (fun s k hk _ hx2=>?_) (fun p z=>⟨_,rfl⟩)
  refine PG.seq (adr [41] 4 (by decide) t ht k hk q).pg (fun _ l hl _ hx3=>?_) (fun p z=>⟨_,rfl⟩)
  exact .ok (false,s) l hl trivial rfl rfl
theorem a9f (po:adf) (ht:TNm t) (h5:t.length<=100000) (i:Nat) (hi:i<=t.length) (q:QF):
 PG t Sum.inl Sum.inr (fun v _=>ald v) (fun v j=>(v,(t,j,q))) (rpcS parV aai (ts t i)) (F210 0 () (t,(i:Int),q)):=by
 have h0:=ht.toTOk
 unfold F210 rpcS
 refine PG.seq (adr [114,112,99] 1 (by decide) t h0 i hi q).pg (fun _ j hj _ _=>?_) (fun p z=>⟨_,rfl⟩)
 refine PG.seq (ajc t h0 j hj q).pg (fun nm k hk _ _=>?_) (fun p z=>⟨_,rfl⟩)
 refine PG.seq (av3 h0 k hk q) (fun a l hl _ _=>?_) (fun p z=>⟨_,rfl⟩)
 refine PG.seq (adr [114,101,116,117,114,110,115] 1 (by decide) t h0 l hl q).pg (fun _ m hm _ _=>?_) (fun p z=>⟨_,rfl⟩)
 refine PG.seq (av3 h0 m hm q) (fun b n hn _ _=>?_) (fun p z=>⟨_,rfl⟩)
 obtain ⟨a1,a2⟩:=a
 obtain ⟨b1,b2⟩:=b
 simp only
 cases a1<;>cases b1<;>simp only [cond_true,cond_false]<;>refine PG.seq (afs po t ht n hn q).pg (fun ls o ho _ hxn=>?_) (fun p z=>⟨_,rfl⟩)<;>refine PG.seq (adr [59] 4 (by decide) t h0 o ho q).pg (fun _ u hu _ _=>?_) (fun p z=>⟨_,rfl⟩)<;>exact .ok (PV.agg [PV.str nm,PV.str a2,PV.str b2,PV.int _,PV.slice ls]) u hu (aef h5 hxn) rfl rfl
end
end Go.Ab
namespace Go.Ab
open Go
set_option maxRecDepth 100000
section
variable {t:List PV}
theorem a5n (ht:TOk t) (s:List UInt8) (k:Int) (hk:kOf s=k) (i:Nat) (hi:i<=t.length) (q:QF):
 ∃ (op:Bool) (j:Nat),i<=j/\j<=t.length/\isS k s (ts t i)=op/\(bif op then (ts t i).tail else ts t i)=ts t j/\F91 0 () s (t,(i:Int),q)=some (op,(t,(j:Int),q)):=by
 have h:=ajo s k hk t ht i hi q
 cases hs:isS k s (ts t i) with
 | true=>
  rw [hs] at h
  exact ⟨true,i+1,by omega,ac1 hs,rfl,by rw [cond_true,aa0],h⟩
 | false=>
  rw [hs] at h
  exact ⟨false,i,by omega,hi,rfl,rfl,h⟩
theorem a2a (l:List Tk) (its rs:List PV):aeg parV aai l its rs=
 bif isS 4 [125] l then .ok (its,rs) l.tail
 else bif isS 1 [114,101,115,101,114,118,101,100] l then (adh 2147483647 l.tail []).bind fun x r=>aeg parV aai r its (rs++x)
 else (aq4 l).bind fun nm r1=>(eatS 4 [61] r1).bind fun _ r2=>(numS 2147483647 r2).bind fun n r3=>(adj parV aai r3).bind fun x r4=>(eatS 4 [59] r4).bind fun _ r5=>aeg parV aai r5 (its++[PV.agg [PV.str nm,PV.int n,PV.slice x]]) rs:=by
 rw [aw5]
 unfold a6y
 simp only [Rs.bind_assoc,Rs.bind_ok]
theorem ak1 (po:adf) (ht:TNum t) (h5:t.length<=100000) (outer:List UInt8) (ho:outer.length<=120) (i:Nat) (hi:i<=t.length) (nm sp:List UInt8) (sv im ms es:List PV) (hes:es.length<=1000000):
 PG t Sum.inl Sum.inr (fun v _=>adw v) (fun v j=>((t,j,nm,sp,(),(),(),sv,im,ms,es++[v]):Q0)) (avn parV aai outer (ts t i)) (F98 0 () outer (t,(i:Int),nm,sp,(),(),(),sv,im,ms,es)):=by
 have h0:=ht.toTOk
 have hl:=ht.len
 obtain ⟨op,j0,hij,hj0,e1,e2,e3⟩:=a5n h0 [111,112,101,110] 1 (by decide) i hi (nm,sp,(),(),(),sv,im,ms,es)
 unfold F98 avn
 rw [e1,e2,e3,Option.bind_some]
 refine PG.seq (adr [101,110,117,109] 1 (by decide) t h0 j0 hj0 (nm,sp,(),(),(),sv,im,ms,es)).pg (fun _ j hj _ _=>?_) (fun p z=>⟨_,rfl⟩)
 have ea:∀ x:PV,decide (es.length+[x].length<=aal)=true:=fun x=>accL (by simp;omega)
 simp only [ea,cond_true]
 refine PG.seq (am9 outer ho t h0 j hj nm sp sv im ms _) (fun name k hk hname _=>?_) (fun p z=>⟨_,rfl⟩)
 refine PG.seq (afs po t ht.toTNm k hk (nm,sp,(),(),(),sv,im,ms,_)).pg (fun nts l hl2 _ hxn=>?_) (fun p z=>⟨_,rfl⟩)
 refine PG.seq (adr [123] 4 (by decide) t h0 l hl2 (nm,sp,(),(),(),sv,im,ms,_)).pg (fun _ m hm _ _=>?_) (fun p z=>⟨_,rfl⟩)
 have lp:=PL.loop (t:=t) (st:=fun (b:List PV×List PV) (j:Int)=>((),(),(es.length:Int),t,j,nm,sp,(),(),(),sv,im,ms,es++[PV.agg [PV.str [],PV.bool op,PV.slice [],PV.slice [],PV.slice []]],name,op,b.1,b.2,nts))
  (spec:=fun l b=>aeg parV aai l b.1 b.2) (J:=fun b j=>b.1.length+b.2.length<=j/\∀ x,x∈b.1->at5 x) (ok:=Sum.inr) (er:=Sum.inl) (I:=fun v j=>v.1.length+v.2.length<=j/\∀ x,x∈v.1->at5 x)
  (mk:=fun v (j:Int)=>((),(),(es.length:Int),t,j,nm,sp,(),(),(),sv,im,ms,es++[PV.agg [PV.str [],PV.bool op,PV.slice [],PV.slice [],PV.slice []]],name,op,v.1,v.2,nts)) (step:=S98_8step 0) (fun i b hi hJJ=>by
  obtain ⟨hJ,hok⟩:=hJJ
  have eb:∀ x:PV,decide (b.1.length+[x].length<=aal)=true:=fun x=>accL (by simp;omega)
  show PL t _ _ _ _ _ _ _ i (aeg parV aai (ts t i) b.1 b.2) _
  rw [a2a]
  simp only [S98_8step,S98_8]
  refine PL.may h0 [125] 4 (by decide) i hi (nm,sp,(),(),(),sv,im,ms,_) (fun _ hi1=>?_) (fun _=>?_)
  ·simp only [Bool.not_true,cond_false,aa0]
   exact .done (b.1,b.2) (i+1) hi1 ⟨by simp;omega,hok⟩ rfl rfl
  ·simp only [Bool.not_false,cond_true]
   refine PL.may h0 [114,101,115,101,114,118,101,100] 1 (by decide) i hi (nm,sp,(),(),(),sv,im,ms,_) (fun _ hi1=>?_) (fun _=>?_)
   ·simp only [cond_true,aa0]
    refine PL.seq (arf h0 ht.num h5 2147483647 (by decide) (i+1) hi1 (nm,sp,(),(),(),sv,im,ms,_)) (fun v j hj hv _=>?_) (fun p z=>⟨_,rfl⟩)
    have hv2:v.length+(i+1)<=j:=hv
    have ec:decide (b.2.length+v.length<=aal)=true:=accL (by omega)
    simp only [ec,cond_true]
    exact .go (b.1,b.2++v) j (by omega) hj ⟨by simp;omega,hok⟩ rfl rfl
   ·simp only [cond_false]
    refine PL.seq (ajc t h0 i hi (nm,sp,(),(),(),sv,im,ms,_)).pg (fun pn j hj _ hx=>?_) (fun p z=>⟨_,rfl⟩)
    have q1:=acx hi hj (aif _) hx
    refine PL.seq (adr [61] 4 (by decide) t h0 j hj (nm,sp,(),(),(),sv,im,ms,_)).pg (fun _ k hk _ hx=>?_) (fun p z=>⟨_,rfl⟩)
    have q2:=acx hj hk (eat_sh _ _ _) hx
    refine PL.seq (apj t h0 k hk 2147483647 (by decide) ht.num (nm,sp,(),(),(),sv,im,ms,_)).pg (fun n l hl _ hx=>?_) (fun p z=>⟨_,rfl⟩)
    have q3:=acx hk hl (amr _ _) hx
    refine PL.seq (afs po t ht.toTNm l hl (nm,sp,(),(),(),sv,im,ms,_)).pg (fun ns m hm _ hx=>?_) (fun p z=>⟨_,rfl⟩)
    have q4:=a7m hl hm (ae3 parV aai _) hx
    have hns:ae8 ns:=aef h5 hx
    refine PL.seq (adr [59] 4 (by decide) t h0 m hm (nm,sp,(),(),(),sv,im,ms,_)).pg (fun _ o ho _ hx=>?_) (fun p z=>⟨_,rfl⟩)
    have q5:=acx hm ho (eat_sh _ _ _) hx
    simp only [eb,cond_true]
    exact .go (b.1++[PV.agg [PV.str pn,PV.int n,PV.slice ns]],b.2) o (by omega) ho ⟨by simp;omega,aeq hok hns⟩ rfl rfl)
  t.length m ([],[]) (by omega) hm ⟨by simp,adv⟩
 simp only [aan]
 refine PG.swap lp (fun v n hn hv _=>?_) (fun p z=>⟨_,rfl⟩)
 have r0:aaa (es.length:Int) (es++[PV.agg [PV.str [],PV.bool op,PV.slice [],PV.slice [],PV.slice []]]).length=true:=by rw [aab];simp
 simp only [r0,cond_true,Int.toNat_natCast]
 refine .ok (PV.agg [PV.str name,PV.bool op,PV.slice v.1,PV.slice v.2,PV.slice nts]) n hn ⟨show v.1.length<=100000 by omega,hv.2,show v.2.length<=100000 by omega,aef h5 hxn⟩ rfl ?_
 rw [show (es++[PV.agg [PV.str [],PV.bool op,PV.slice [],PV.slice [],PV.slice []]]).set es.length (PV.agg [PV.str name,PV.bool op,PV.slice v.1,PV.slice v.2,PV.slice nts])=es++[PV.agg [PV.str name,PV.bool op,PV.slice v.1,PV.slice v.2,PV.slice nts]] by simp]
theorem a8q (po:adf) (ht:TNum t) (h5:t.length<=100000) (i:Nat) (hi:i<=t.length) (nm sp:List UInt8) (sv im ms es:List PV) (hsv:sv.length<=1000000):
 PG t Sum.inl Sum.inr (fun v _=>ar0 v) (fun v j=>((t,j,nm,sp,(),(),(),sv++[v],im,ms,es):Q0)) (svcS parV aai (ts t i)) (F99 0 () (t,(i:Int),nm,sp,(),(),(),sv,im,ms,es)):=by
 have h0:=ht.toTOk
 have hl:=ht.len
 unfold F99 svcS
 refine PG.seq (adr [115,101,114,118,105,99,101] 1 (by decide) t h0 i hi (nm,sp,(),(),(),sv,im,ms,es)).pg (fun _ j hj _ _=>?_) (fun p z=>⟨_,rfl⟩)
 refine PG.seq (am9 [] (by simp) t h0 j hj nm sp sv im ms es) (fun name k hk hname _=>?_) (fun p z=>⟨_,rfl⟩)
 refine PG.seq (afs po t ht.toTNm k hk (nm,sp,(),(),(),sv,im,ms,es)).pg (fun nts l hl2 _ hxn=>?_) (fun p z=>⟨_,rfl⟩)
 refine PG.seq (adr [123] 4 (by decide) t h0 l hl2 (nm,sp,(),(),(),sv,im,ms,es)).pg (fun _ m hm _ _=>?_) (fun p z=>⟨_,rfl⟩)
 have lp:=PL.loop (t:=t) (st:=fun (b:List PV) (j:Int)=>((),(),t,j,nm,sp,(),(),(),sv,im,ms,es,name,b,nts))
  (spec:=fun l b=>anp parV aai l b) (J:=fun b j=>b.length<=j/\∀ x,x∈b->ald x) (ok:=Sum.inr) (er:=Sum.inl) (I:=fun v j=>v.length<=j/\∀ x,x∈v->ald x)
  (mk:=fun v (j:Int)=>((),(),t,j,nm,sp,(),(),(),sv,im,ms,es,name,v,nts)) (step:=S99_5step 0) (fun i b hi hJJ=>by
  obtain ⟨hJ,hok⟩:=hJJ
  have eb:∀ x:PV,decide (b.length+[x].length<=aal)=true:=fun x=>accL (by simp;omega)
  show PL t _ _ _ _ _ _ _ i (anp parV aai (ts t i) b) _
  rw [a1t]
  simp only [S99_5step,S99_5]
  refine PL.may h0 [125] 4 (by decide) i hi (nm,sp,(),(),(),sv,im,ms,es) (fun _ hi1=>?_) (fun _=>?_)
  ·simp only [Bool.not_true,cond_false,aa0]
   exact .done b (i+1) hi1 ⟨by omega,hok⟩ rfl rfl
  ·simp only [Bool.not_false,cond_true]
   refine PL.seq (a9f po ht.toTNm h5 i hi (nm,sp,(),(),(),sv,im,ms,es)) (fun x j hj hxm hx=>?_) (fun p z=>⟨_,rfl⟩)
   have q1:=acx hi hj (a1i parV aai _) hx
   simp only [eb,cond_true]
   exact .go (b++[x]) j (by omega) hj ⟨by simp;omega,aeq hok hxm⟩ rfl rfl)
  t.length m [] (by omega) hm ⟨by simp,adv⟩
 simp only [aan]
 refine PG.swap lp (fun v n hn hv _=>?_) (fun p z=>⟨_,rfl⟩)
 have ea:∀ x:PV,decide (sv.length+[x].length<=aal)=true:=fun x=>accL (by simp;omega)
 simp only [ea,cond_true]
 exact .ok (PV.agg [PV.str name,PV.slice v,PV.slice nts]) n hn ⟨show v.length<=100000 by omega,hv.2,aef h5 hxn⟩ rfl rfl
end
end Go.Ab
namespace Go.Ab
open Go
set_option maxRecDepth 100000
inductive PN {α R S Z:Type} (N:Nat) (t:List PV) (ok:R->S) (er:PV×Z->S) (I:α->Nat->Prop) (mk:α->Int->R) (x:Rs α) (y:Nat->Option S):Prop
 | ok (v:α) (j:Nat):j<=t.length->I v j->x=.ok v (ts t j)->(∀ n,N<=n->y n=some (ok (mk v ((j:Nat):Int))))->PN N t ok er I mk x y
 | er (j:Nat) (e:Int) (z:Z):j<=t.length->e≠0->x=.er (ts t j) e->(∀ n,N<=n->y n=some (er (PV.agg [PV.int ((j:Nat):Int),PV.int e],z)))->PN N t ok er I mk x y
theorem PG.pn {α R S Z:Type}{N:Nat}{t:List PV}{ok:R->S}{er:PV×Z->S}{I:α->Nat->Prop}{mk:α->Int->R}{x:Rs α}{y:Option S} (h:PG t ok er I mk x y):PN N t ok er I mk x (fun _=>y):=by
 rcases h with ⟨v,j,h1,h2,h3,h4⟩ | ⟨j,e,z,h1,h2,h3,h4⟩
 ·exact .ok v j h1 h2 h3 fun _ _=>h4
 ·exact .er j e z h1 h2 h3 fun _ _=>h4
theorem PN.pg {α R S Z:Type}{N:Nat}{t:List PV}{ok:R->S}{er:PV×Z->S}{I:α->Nat->Prop}{mk:α->Int->R}{x:Rs α}{y:Nat->Option S}{Y:Option S} (h:PN N t ok er I mk x y) (hy:∀ z,(∀ n,N<=n->y n=some z)->Y=some z):PG t ok er I mk x Y:=by
 rcases h with ⟨v,j,h1,h2,h3,h4⟩ | ⟨j,e,z,h1,h2,h3,h4⟩
 ·exact .ok v j h1 h2 h3 (hy _ h4)
 ·exact .er j e z h1 h2 h3 (hy _ h4)
theorem PN.shift {α R S Z:Type}{N:Nat}{t:List PV}{ok:R->S}{er:PV×Z->S}{I:α->Nat->Prop}{mk:α->Int->R}{x:Rs α}{y y':Nat->Option S} (h:PN N t ok er I mk x y) (hy:∀ n,y' (n+1)=y n):PN (N+1) t ok er I mk x y':=by
 have hs:∀ n,N+1<=n->y' n=y (n-1):=fun n hn=>by
  obtain ⟨m,rfl⟩:∃ m,n=m+1:=⟨n-1,by omega⟩
  rw [hy];rfl
 rcases h with ⟨v,j,h1,h2,h3,h4⟩ | ⟨j,e,z,h1,h2,h3,h4⟩
 ·exact .ok v j h1 h2 h3 fun n hn=>by rw [hs n hn];exact h4 _ (by omega)
 ·exact .er j e z h1 h2 h3 fun n hn=>by rw [hs n hn];exact h4 _ (by omega)
theorem PN.seq {α β R R' S' Z Z':Type}{N:Nat}{t:List PV}{I:α->Nat->Prop}{I':β->Nat->Prop}{mk:α->Int->R}{ok':R'->S'}{er':PV×Z'->S'}{mk':β->Int->R'}{x:Rs α}{y:Option (R⊕(PV×Z))}{f:α->List Tk->Rs β}{g:Nat->R->Option S'}{E:PV×Z->Option S'}
 (h:PG t Sum.inl Sum.inr I mk x y) (hc:∀ v j,j<=t.length->I v j->x=.ok v (ts t j)->PN N t ok' er' I' mk' (f v (ts t j)) (fun n=>g n (mk v ((j:Nat):Int)))) (hE:∀ p z,∃ z',E (p,z)=some (er' (p,z'))):
 PN N t ok' er' I' mk' (x.bind f) (fun n=>y.bind fun z=>sumE (g n) E z):=by
 rcases h with ⟨v,j,hj,hi,hx,hy⟩ | ⟨j,e,z,hj,he,hx,hy⟩
 ·have:=hc v j hj hi hx
  rw [hx,hy];exact this
 ·obtain ⟨z',hz⟩:=hE (PV.agg [PV.int ((j:Nat):Int),PV.int e]) z
  rw [hx,hy];exact .er j e z' hj he rfl fun _ _=>hz
theorem PN.swap {α β R R' S' Z Z':Type}{N:Nat}{t:List PV}{I:α->Nat->Prop}{I':β->Nat->Prop}{mk:α->Int->R}{ok':R'->S'}{er':PV×Z'->S'}{mk':β->Int->R'}{x:Rs α}{y:Nat->Option ((PV×Z)⊕R)}{f:α->List Tk->Rs β}{g:R->Option S'}{E:PV×Z->Option S'}
 (h:PN N t Sum.inr Sum.inl I mk x y) (hc:∀ v j,j<=t.length->I v j->x=.ok v (ts t j)->PG t ok' er' I' mk' (f v (ts t j)) (g (mk v ((j:Nat):Int)))) (hE:∀ p z,∃ z',E (p,z)=some (er' (p,z'))):
 PN N t ok' er' I' mk' (x.bind f) (fun n=>(y n).bind fun z=>sumE E g z):=by
 rcases h with ⟨v,j,hj,hi,hx,hy⟩ | ⟨j,e,z,hj,he,hx,hy⟩
 ·have:=hc v j hj hi hx
  rw [hx]
  rcases this with ⟨w,k,h1,h2,h3,h4⟩ | ⟨k,e,z,h1,h2,h3,h4⟩
  ·exact .ok w k h1 h2 h3 fun n hn=>by rw [hy n hn];exact h4
  ·exact .er k e z h1 h2 h3 fun n hn=>by rw [hy n hn];exact h4
 ·obtain ⟨z',hz⟩:=hE (PV.agg [PV.int ((j:Nat):Int),PV.int e]) z
  rw [hx];exact .er j e z' hj he rfl fun n hn=>by rw [hy n hn];exact hz
inductive PM {α β R S Z σ:Type} (N:Nat) (t:List PV) (st:β->Int->σ) (spec:List Tk->β->Rs α) (J:β->Nat->Prop) (ok:R->S) (er:PV×Z->S) (I:α->Nat->Prop) (mk:α->Int->R) (i:Nat) (x:Rs α) (y:Nat->Option (σ⊕S)):Prop
 | go (b:β) (j:Nat):i<j->j<=t.length->J b j->x=spec (ts t j) b->(∀ n,N<=n->y n=some (.inl (st b ((j:Nat):Int))))->PM N t st spec J ok er I mk i x y
 | done (v:α) (j:Nat):j<=t.length->I v j->x=.ok v (ts t j)->(∀ n,N<=n->y n=some (.inr (ok (mk v ((j:Nat):Int)))))->PM N t st spec J ok er I mk i x y
 | er (j:Nat) (e:Int) (z:Z):j<=t.length->e≠0->x=.er (ts t j) e->(∀ n,N<=n->y n=some (.inr (er (PV.agg [PV.int ((j:Nat):Int),PV.int e],z))))->PM N t st spec J ok er I mk i x y
section
variable {α β R S Z σ:Type}{N:Nat}{t:List PV}{st:β->Int->σ}{spec:List Tk->β->Rs α}{J:β->Nat->Prop}{ok:R->S}{er:PV×Z->S}{I:α->Nat->Prop}{mk:α->Int->R}{i:Nat}
theorem PM.loop {step:Nat->σ->Option (σ⊕S)} (h:∀ i b,i<=t.length->J b i->PM N t st spec J ok er I mk i (spec (ts t i) b) (fun n=>step n (st b (i:Int)))):∀ (m i:Nat) (b:β),t.length-i<=m->i<=t.length->J b i->PN N t ok er I mk (spec (ts t i) b) (fun n=>aba (step n) (st b (i:Int))):=by
 intro m
 induction m with
 | zero=>
  intro i b hm hi hj
  rcases h i b hi hj with ⟨b',j,h1,h2,_⟩ | ⟨v,j,h1,h2,h3,h4⟩ | ⟨j,e,z,h1,h2,h3,h4⟩
  ·omega
  ·exact .ok v j h1 h2 h3 fun n hn=>aac (h4 n hn)
  ·exact .er j e z h1 h2 h3 fun n hn=>aac (h4 n hn)
 | succ m ih=>
  intro i b hm hi hj
  rcases h i b hi hj with ⟨b',j,h1,h2,h3,h4,h5⟩ | ⟨v,j,h1,h2,h3,h4⟩ | ⟨j,e,z,h1,h2,h3,h4⟩
  ·rw [h4]
   rcases ih j b' (by omega) h2 h3 with ⟨v,k,g1,g2,g3,g4⟩ | ⟨k,e,z,g1,g2,g3,g4⟩
   ·exact .ok v k g1 g2 g3 fun n hn=>by rw [aaw (h5 n hn)];exact g4 n hn
   ·exact .er k e z g1 g2 g3 fun n hn=>by rw [aaw (h5 n hn)];exact g4 n hn
  ·exact .ok v j h1 h2 h3 fun n hn=>aac (h4 n hn)
  ·exact .er j e z h1 h2 h3 fun n hn=>aac (h4 n hn)
theorem PM.seq {α0 R0 Z0:Type}{I0:α0->Nat->Prop}{mk0:α0->Int->R0}{x0:Rs α0}{y0:Nat->Option (R0⊕(PV×Z0))}{f:α0->List Tk->Rs α}{g:R0->Option (σ⊕S)}{E:PV×Z0->Option (σ⊕S)}
 (h:PN N t Sum.inl Sum.inr I0 mk0 x0 y0) (hc:∀ v j,j<=t.length->I0 v j->x0=.ok v (ts t j)->PL t st spec J ok er I mk i (f v (ts t j)) (g (mk0 v ((j:Nat):Int)))) (hE:∀ p z,∃ z',E (p,z)=some (.inr (er (p,z')))):
 PM N t st spec J ok er I mk i (x0.bind f) (fun n=>(y0 n).bind fun z=>sumE g E z):=by
 rcases h with ⟨v,j,hj,hi,hx,hy⟩ | ⟨j,e,z,hj,he,hx,hy⟩
 ·have:=hc v j hj hi hx
  rw [hx]
  rcases this with ⟨w,k,h1,h2,h3,h4,h5⟩ | ⟨w,k,h1,h2,h3,h4⟩ | ⟨k,e,z,h1,h2,h3,h4⟩
  ·exact .go w k h1 h2 h3 h4 fun n hn=>by rw [hy n hn];exact h5
  ·exact .done w k h1 h2 h3 fun n hn=>by rw [hy n hn];exact h4
  ·exact .er k e z h1 h2 h3 fun n hn=>by rw [hy n hn];exact h4
 ·obtain ⟨z',hz⟩:=hE (PV.agg [PV.int ((j:Nat):Int),PV.int e]) z
  rw [hx];exact .er j e z' hj he rfl fun n hn=>by rw [hy n hn];exact hz
theorem PM.may (ht:TOk t) (s:List UInt8) (k:Int) (hk:kOf s=k) (j:Nat) (hj:j<=t.length) (q:QF) {K:Nat->Bool×Q0->Option (σ⊕S)}{x1 x2:Rs α}
 (h1:isS k s (ts t j)=true->j+1<=t.length->PM N t st spec J ok er I mk i x1 (fun n=>K n (true,(t,((j+1:Nat):Int),q)))) (h2:isS k s (ts t j)=false->PM N t st spec J ok er I mk i x2 (fun n=>K n (false,(t,(j:Int),q)))):
 PM N t st spec J ok er I mk i (bif isS k s (ts t j) then x1 else x2) (fun n=>(F91 0 () s (t,(j:Int),q)).bind (K n)):=by
 rw [ajo s k hk t ht j hj q]
 simp only [Option.bind_some]
 cases h:isS k s (ts t j) with
 | true=>exact h1 h (ac1 h)
 | false=>exact h2 h
theorem PM.sign (ht:TOk t) (s:List UInt8) (k:Int) (hk:kOf s=k) (j:Nat) (hj:j<=t.length) (q:QF) {K:Nat->Bool×Q0->Option (σ⊕S)}{x1 x2:Rs α}
 (h1:isS k s (ts t j)=true->PM N t st spec J ok er I mk i x1 (fun n=>K n (true,(t,(j:Int),q)))) (h2:isS k s (ts t j)=false->PM N t st spec J ok er I mk i x2 (fun n=>K n (false,(t,(j:Int),q)))):
 PM N t st spec J ok er I mk i (bif isS k s (ts t j) then x1 else x2) (fun n=>(F96 0 () s (t,(j:Int),q)).bind (K n)):=by
 rw [aoh s k hk t ht j hj q]
 simp only [Option.bind_some]
 cases h:isS k s (ts t j) with
 | true=>exact h1 h
 | false=>exact h2 h
end
section
variable {t:List PV}
theorem avr {α:Type} (a b:Bool) (x y:Rs α):(bif a||b then x else y)=bif a then x else (bif b then x else y):=by cases a<;>cases b<;>rfl
def MBok (L:Nat) (b:MB) (j:Nat):Prop:=b.fs.length<=j/\b.rs.length<=j/\b.gs.length<=j/\b.ms.length<=j/\b.es.length<=j/\L<=b.ms.length/\(∀ x,x∈b.fs->ag1 x)/\(∀ x,x∈b.ms->agc x)/\(∀ x,x∈b.es->adw x)
theorem ay3 (po:adf) (ht:TNum t) (h5:t.length<=100000) (N d:Nat) (a2:Nat) (ha:a2<=15) (k0:Int) (name:List UInt8) (hname:name.length<=120) (nm sp:List UInt8) (sv im:List PV) (nts:List PV)
 (ih:∀ (i:Nat) (ms es:List PV),i<=t.length->ms.length<=i->es.length<=i->(∀ x,x∈ms->agc x)->(∀ x,x∈es->adw x)->PN N t Sum.inl Sum.inr (fun v j=>v.1.length<=j/\v.2.length<=j/\ms.length<=v.1.length/\(∀ x,x∈v.1->agc x)/\(∀ x,x∈v.2->adw x)) (fun v j=>((t,j,nm,sp,(),(),(),sv,im,v.1,v.2):Q0)) (msgS parV aai d name ms es (ts t i)) (fun n=>G97 0 n ((),name,(((a2+1:Nat)):Int),(t,(i:Int),nm,sp,(),(),(),sv,im,ms,es))))
 (i:Nat) (b:MB) (hi:i<=t.length) (L:Nat) (hJ:MBok L b i):
 PM N t (fun (b:MB) (j:Int)=>((),(a2:Int),k0,(),t,j,nm,sp,(),(),(),sv,im,b.ms,b.es,name,b.fs,b.rs,b.gs,nts)) (fun l b=>ac0 parV aai (msgS parV aai d) name l b) (MBok L) Sum.inr Sum.inl (MBok L)
  (fun (v:MB) (j:Int)=>((),k0,(),t,j,nm,sp,(),(),(),sv,im,v.ms,v.es,name,v.fs,v.rs,v.gs,nts)) i (ac0 parV aai (msgS parV aai d) name (ts t i) b) (fun n=>B97_9step 0 (G97 0 n) ((),(a2:Int),k0,(),t,(i:Int),nm,sp,(),(),(),sv,im,b.ms,b.es,name,b.fs,b.rs,b.gs,nts)):=by
 have h0:=ht.toTOk
 obtain ⟨j1,j2,j3,j4,j5,j6,o1,o2,o3⟩:=hJ
 rw [awa parV aai _ (avq parV aai d),avr]
 simp only [B97_9step,B97_9]
 refine PM.may h0 [125] 4 (by decide) i hi (nm,sp,(),(),(),sv,im,b.ms,b.es) (fun _ hi1=>?_) (fun _=>?_)
 ·simp only [Bool.not_true,cond_false,aa0]
  exact .done b (i+1) hi1 ⟨by omega,by omega,by omega,by omega,by omega,j6,o1,o2,o3⟩ rfl fun _ _=>rfl
 simp only [Bool.not_false,cond_true]
 refine PM.sign h0 [117,110,105,111,110] 1 (by decide) i hi (nm,sp,(),(),(),sv,im,b.ms,b.es) (fun _=>?_) (fun _=>?_)
 ·simp only [cond_true]
  refine PM.seq (a2j po ht h5 i hi (nm,sp,(),(),(),sv,im,b.ms,b.es)).pn (fun v j hj hv hx=>?_) (fun p z=>⟨_,rfl⟩)
  have hv2:v.length+i<=j:=hv.1
  have q1:=acx hi hj (apf parV aai _) hx
  have ec:decide (b.fs.length+v.length<=aal)=true:=accL (by omega)
  simp only [ec,cond_true]
  exact .go { b with fs:=b.fs++v } j q1 hj ⟨by simp;omega,by simp;omega,by simp;omega,by simp;omega,by simp;omega,j6,a4s o1 hv.2,o2,o3⟩ rfl rfl
 simp only [cond_false]
 refine PM.sign h0 [109,101,115,115,97,103,101] 1 (by decide) i hi (nm,sp,(),(),(),sv,im,b.ms,b.es) (fun _=>?_) (fun _=>?_)
 ·simp only [cond_true]
  have w:IntKind.wrap .i64 ((a2:Int)+1)=((a2+1:Nat):Int):=abk (by omega)
  simp only [w]
  refine PM.seq (ih i b.ms b.es hi j4 j5 o2 o3) (fun v j hj hv hx=>?_) (fun p z=>⟨_,rfl⟩)
  have q1:=acx hi hj (avq parV aai d _ _ _ _) hx
  exact .go { b with ms:=v.1,es:=v.2 } j q1 hj ⟨by simp;omega,by simp;omega,by simp;omega,hv.1,hv.2.1,Nat.le_trans j6 hv.2.2.1,o1,hv.2.2.2.1,hv.2.2.2.2⟩ rfl rfl
 simp only [cond_false]
 refine PM.sign h0 [101,110,117,109] 1 (by decide) i hi (nm,sp,(),(),(),sv,im,b.ms,b.es) (fun _=>?_) (fun _=>?_)
 ·simp only [Bool.not_true,cond_false,cond_true]
  refine PM.seq (ak1 po ht h5 name hname i hi nm sp sv im b.ms b.es (by omega)).pn (fun v j hj hve hx=>?_) (fun p z=>⟨_,rfl⟩)
  have q1:=acx hi hj (aik parV aai _ _) hx
  exact .go { b with es:=b.es++[v] } j q1 hj ⟨by simp;omega,by simp;omega,by simp;omega,by simp;omega,by simp;omega,j6,o1,o2,aeq o3 hve⟩ rfl rfl
 simp only [Bool.not_false,cond_true,cond_false]
 refine PM.sign h0 [111,112,101,110] 1 (by decide) i hi (nm,sp,(),(),(),sv,im,b.ms,b.es) (fun _=>?_) (fun _=>?_)
 ·simp only [cond_true]
  refine PM.seq (ak1 po ht h5 name hname i hi nm sp sv im b.ms b.es (by omega)).pn (fun v j hj hve hx=>?_) (fun p z=>⟨_,rfl⟩)
  have q1:=acx hi hj (aik parV aai _ _) hx
  exact .go { b with es:=b.es++[v] } j q1 hj ⟨by simp;omega,by simp;omega,by simp;omega,by simp;omega,by simp;omega,j6,o1,o2,aeq o3 hve⟩ rfl rfl
 simp only [cond_false]
 refine PM.may h0 [114,101,115,101,114,118,101,100] 1 (by decide) i hi (nm,sp,(),(),(),sv,im,b.ms,b.es) (fun _ hi1=>?_) (fun _=>?_)
 ·simp only [cond_true,aa0,ad1 t (i+1) (nm,sp,(),(),(),sv,im,b.ms,b.es),Option.bind_some]
  cases h3:(aax (ts t (i+1))==3) with
  | true=>
   simp only [cond_true]
   refine PM.seq (a6s t h0 h5 (i+1) hi1 (nm,sp,(),(),(),sv,im,b.ms,b.es)).pn (fun v j hj hv hx=>?_) (fun p z=>⟨_,rfl⟩)
   have hv2:v.length+(i+1)<=j:=hv
   have ec:decide (b.gs.length+v.length<=aal)=true:=accL (by omega)
   simp only [ec,cond_true]
   exact .go { b with gs:=b.gs++v } j (by omega) hj ⟨by simp;omega,by simp;omega,by simp;omega,by simp;omega,by simp;omega,j6,o1,o2,o3⟩ rfl rfl
  | false=>
   simp only [cond_false]
   refine PM.seq (arf h0 ht.num h5 65535 (by decide) (i+1) hi1 (nm,sp,(),(),(),sv,im,b.ms,b.es)).pn (fun v j hj hv hx=>?_) (fun p z=>⟨_,rfl⟩)
   have hv2:v.length+(i+1)<=j:=hv
   have ec:decide (b.rs.length+v.length<=aal)=true:=accL (by omega)
   simp only [ec,cond_true]
   exact .go { b with rs:=b.rs++v } j (by omega) hj ⟨by simp;omega,by simp;omega,by simp;omega,by simp;omega,by simp;omega,j6,o1,o2,o3⟩ rfl rfl
 ·simp only [cond_false]
  refine PM.seq (a2q po t ht i hi (nm,sp,(),(),(),sv,im,b.ms,b.es)).pg.pn (fun v j hj _ hx=>?_) (fun p z=>⟨_,rfl⟩)
  have q1:=acx hi hj (aqb parV aai _) hx
  have ec:decide (b.fs.length+[v].length<=aal)=true:=accL (by simp;omega)
  simp only [ec,cond_true]
  have hfo:ag1 v:=⟨a3w (a7u ht i) hx,by have:=a0r hx;rw [ab6] at this;omega⟩
  exact .go { b with fs:=b.fs++[v] } j q1 hj ⟨by simp;omega,by simp;omega,by simp;omega,by simp;omega,by simp;omega,j6,aeq o1 hfo,o2,o3⟩ rfl rfl
theorem a97 (po:adf) (ht:TNum t) (h5:t.length<=100000) (nm sp:List UInt8) (sv im:List PV):∀ (d a2:Nat),a2+d=16->∀ (outer:List UInt8),outer.length<=120->∀ (i:Nat) (ms es:List PV),i<=t.length->ms.length<=i->es.length<=i->(∀ x,x∈ms->agc x)->(∀ x,x∈es->adw x)->
 PN (d+1) t Sum.inl Sum.inr (fun v j=>v.1.length<=j/\v.2.length<=j/\ms.length<=v.1.length/\(∀ x,x∈v.1->agc x)/\(∀ x,x∈v.2->adw x)) (fun v j=>((t,j,nm,sp,(),(),(),sv,im,v.1,v.2):Q0)) (msgS parV aai d outer ms es (ts t i)) (fun n=>G97 0 n ((),outer,((a2:Nat):Int),(t,(i:Int),nm,sp,(),(),(),sv,im,ms,es))):=by
 have h0:=ht.toTOk
 intro d
 induction d with
 | zero=>
  intro a2 ha outer ho i ms es hi hm he om oe
  have hd:decide (((a2:Nat):Int)≥16)=true:=decide_eq_true (by omega)
  refine .er i 17 (t,(i:Int),nm,sp,(),(),(),sv,im,ms,es) hi (by decide) rfl fun n hn=>?_
  obtain ⟨m,rfl⟩:∃ m,n=m+1:=⟨n-1,by omega⟩
  simp only [G97,B97,hd,cond_true]
 | succ d ih=>
  intro a2 ha outer ho i ms es hi hm he om oe
  have hd:decide (((a2:Nat):Int)≥16)=false:=decide_eq_false (by omega)
  refine PN.shift (y:=fun n=>B97 0 (G97 0 n) () outer ((a2:Nat):Int) (t,(i:Int),nm,sp,(),(),(),sv,im,ms,es)) ?_ fun n=>rfl
  simp only [B97,hd,cond_false]
  unfold msgS
  refine PN.seq (adr [109,101,115,115,97,103,101] 1 (by decide) t h0 i hi (nm,sp,(),(),(),sv,im,ms,es)).pg (fun _ j hj _ hx=>?_) (fun p z=>⟨_,rfl⟩)
  have q1:=acx hi hj (eat_sh _ _ _) hx
  refine PN.seq (am9 outer ho t h0 j hj nm sp sv im ms es) (fun name k hk hname hx2=>?_) (fun p z=>⟨_,rfl⟩)
  have q2:=acx hj hk (ak8 _ _) hx2
  have ec:∀ x:PV,decide (ms.length+[x].length<=aal)=true:=fun x=>accL (by simp;omega)
  simp only [ec,cond_true]
  refine PN.seq (afs po t ht.toTNm k hk (nm,sp,(),(),(),sv,im,ms++[auv name [] [] [] []],es)).pg (fun nts l hl _ hx3=>?_) (fun p z=>⟨_,rfl⟩)
  have hnt:=aef h5 hx3
  have q3:=a7m hk hl (ae3 parV aai _) hx3
  refine PN.seq (adr [123] 4 (by decide) t h0 l hl (nm,sp,(),(),(),sv,im,ms++[auv name [] [] [] []],es)).pg (fun _ m hm2 _ hx4=>?_) (fun p z=>⟨_,rfl⟩)
  have q4:=acx hl hm2 (eat_sh _ _ _) hx4
  simp only [aan]
  have lp:=PM.loop (step:=fun n=>B97_9step 0 (G97 0 n)) (fun i' b hi' hJ=>ay3 po ht h5 (d+1) d a2 (by omega) (ms.length:Int) name hname nm sp sv im nts (fun i2 ms2 es2 h1 h2 h3 h4 h6=>ih (a2+1) (by omega) name hname i2 ms2 es2 h1 h2 h3 h4 h6) i' b hi' (ms.length+1) hJ) t.length m ⟨[],[],[],ms++[auv name [] [] [] []],es⟩ (by omega) hm2 ⟨by simp,by simp,by simp,by simp;omega,show es.length<=m by omega,by simp,adv,aeq om ⟨Nat.zero_le _,adv,Nat.zero_le _,Nat.zero_le _,Nat.zero_le _,adv⟩,oe⟩
  refine PN.swap lp (fun v n hn hv hx5=>?_) (fun p z=>⟨_,rfl⟩)
  obtain ⟨g1,g2,g3,g4,g5,hlen,p1,p2,p3⟩:=hv
  have hlen:ms.length<v.ms.length:=hlen
  have hnew:agc (auv name v.fs v.rs v.gs nts):=⟨show v.fs.length<=100000 by omega,p1,show v.rs.length<=100000 by omega,show v.gs.length<=100000 by omega,hnt⟩
  have r0:aaa (ms.length:Int) v.ms.length=true:=by rw [aab];exact decide_eq_true hlen
  simp only [r0,cond_true,Int.toNat_natCast]
  exact .ok (v.ms.set ms.length (auv name v.fs v.rs v.gs nts),v.es) n hn ⟨by simp;exact g4,g5,by simp;omega,fun x hx=>by
   rcases List.mem_or_eq_of_mem_set hx with hx | rfl
   ·exact p2 x hx
   ·exact hnew,p3⟩ rfl rfl
end
end Go.Ab
namespace Go.Ab
open Go
set_option maxRecDepth 100000
noncomputable section
section
variable {t:List PV}
theorem a8v (po:adf) (ht:TNum t) (h5:t.length<=100000) (nm sp:List UInt8) (sv im:List PV) (i:Nat) (ms es:List PV) (hi:i<=t.length) (hm:ms.length<=i) (he:es.length<=i) (om:∀ x,x∈ms->agc x) (oe:∀ x,x∈es->adw x):
 PG t Sum.inl Sum.inr (fun v j=>v.1.length<=j/\v.2.length<=j/\ms.length<=v.1.length/\(∀ x,x∈v.1->agc x)/\(∀ x,x∈v.2->adw x)) (fun v j=>((t,j,nm,sp,(),(),(),sv,im,v.1,v.2):Q0)) (msgS parV aai 16 [] ms es (ts t i)) (F97 0 () [] (0:Int) (t,(i:Int),nm,sp,(),(),(),sv,im,ms,es)):=
 (a97 po ht h5 nm sp sv im 16 0 (by omega) [] (by simp) i ms es hi hm he om oe).pg fun z h=>an9 17 h
theorem at0 (ht:TOk t) (h5:t.length<=100000) (nm sp:List UInt8) (sv ms es:List PV) (i:Nat) (hi:i<=t.length):
 PG t Sum.inr Sum.inl (fun v j=>v.length<=j) (fun v (j:Int)=>((),((t,j,nm,sp,(),(),(),sv,v,ms,es):Q0))) (ado (ts t i) []) (aba (S44_4step 0) ((),(t,(i:Int),nm,sp,(),(),(),sv,[],ms,es))):=by
 refine PL.loop (t:=t) (st:=fun (b:List PV) (j:Int)=>((),((t,j,nm,sp,(),(),(),sv,b,ms,es):Q0))) (spec:=fun l b=>ado l b) (J:=fun b j=>b.length<=j) (step:=S44_4step 0) (fun i b hi hJ=>?_) t.length i [] (by omega) hi (by simp)
 have eb:∀ x:PV,decide (b.length+[x].length<=aal)=true:=fun x=>accL (by simp;omega)
 show PL t _ _ _ _ _ _ _ i (ado (ts t i) b) _
 rw [aoy]
 simp only [S44_4step,S44_4]
 refine PL.may ht [105,109,112,111,114,116] 1 (by decide) i hi (nm,sp,(),(),(),sv,b,ms,es) (fun _ hi1=>?_) (fun _=>?_)
 ·simp only [cond_true,aa0]
  refine PL.seq (af1 t ht (i+1) hi1 (nm,sp,(),(),(),sv,b,ms,es)).pg (fun s j hj _ hx=>?_) (fun p z=>⟨_,rfl⟩)
  have q1:=acx hi1 hj (acz _) hx
  simp only [eb,cond_true]
  refine PL.seq (adr [59] 4 (by decide) t ht j hj (nm,sp,(),(),(),sv,b++[PV.str s],ms,es)).pg (fun _ k hk _ hx2=>?_) (fun p z=>⟨_,rfl⟩)
  have q2:=acx hj hk (eat_sh _ _ _) hx2
  exact .go (b++[PV.str s]) k (by omega) hk (by simp;omega) rfl rfl
 ·simp only [cond_false]
  exact .done b i hi hJ rfl rfl
def FBok (b:FB) (j:Nat):Prop:=b.ms.length<=j/\b.es.length<=j/\b.ss.length<=j/\(∀ x,x∈b.ms->agc x)/\(∀ x,x∈b.es->adw x)/\(∀ x,x∈b.ss->ar0 x)
theorem a4e (po:adf) (ht:TNum t) (h5:t.length<=100000) (nm sp:List UInt8) (im:List PV) (i:Nat) (hi:i<=t.length):
 PG t Sum.inr Sum.inl FBok (fun (v:FB) (j:Int)=>((t,j,nm,sp,(),(),(),v.ss,im,v.ms,v.es):Q0)) (aix parV aai (ts t i) ⟨[],[],[]⟩) (aba (S44_7step 0) ((),(t,(i:Int),nm,sp,(),(),(),[],im,[],[]))):=by
 have h0:=ht.toTOk
 refine PL.loop (t:=t) (st:=fun (b:FB) (j:Int)=>((),((t,j,nm,sp,(),(),(),b.ss,im,b.ms,b.es):Q0))) (spec:=fun l b=>aix parV aai l b) (J:=FBok) (step:=S44_7step 0) (fun i b hi hJ=>?_) t.length i ⟨[],[],[]⟩ (by omega) hi ⟨by simp,by simp,by simp,adv,adv,adv⟩
 obtain ⟨j1,j2,j3,o1,o2,o3⟩:=hJ
 show PL t _ _ _ _ _ _ _ i (aix parV aai (ts t i) b) _
 rw [a1v,avr]
 simp only [S44_7step,S44_7]
 by_cases hlt:i<t.length
 ·have d:decide ((i:Int)<(t.length:Int))=true:=decide_eq_true (by omega)
  have hne:(ts t i).isEmpty=false:=by rw [ac5 hlt];rfl
  rw [d,hne]
  simp only [cond_true,cond_false]
  refine PL.sign h0 [109,101,115,115,97,103,101] 1 (by decide) i hi (nm,sp,(),(),(),b.ss,im,b.ms,b.es) (fun _=>?_) (fun _=>?_)
  ·simp only [cond_true]
   refine PL.seq (a8v po ht h5 nm sp b.ss im i b.ms b.es hi j1 j2 o1 o2) (fun v j hj hv hx=>?_) (fun p z=>⟨_,rfl⟩)
   have q1:=acx hi hj (avq parV aai 16 _ _ _ _) hx
   exact .go { b with ms:=v.1,es:=v.2 } j q1 hj ⟨hv.1,hv.2.1,by simp;omega,hv.2.2.2.1,hv.2.2.2.2,o3⟩ rfl rfl
  simp only [cond_false]
  refine PL.sign h0 [101,110,117,109] 1 (by decide) i hi (nm,sp,(),(),(),b.ss,im,b.ms,b.es) (fun _=>?_) (fun _=>?_)
  ·simp only [Bool.not_true,cond_false,cond_true]
   refine PL.seq (ak1 po ht h5 [] (by simp) i hi nm sp b.ss im b.ms b.es (by omega)) (fun v j hj hvo hx=>?_) (fun p z=>⟨_,rfl⟩)
   have q1:=acx hi hj (aik parV aai _ _) hx
   exact .go { b with es:=b.es++[v] } j q1 hj ⟨by simp;omega,by simp;omega,by simp;omega,o1,aeq o2 hvo,o3⟩ rfl rfl
  simp only [Bool.not_false,cond_true,cond_false]
  refine PL.sign h0 [111,112,101,110] 1 (by decide) i hi (nm,sp,(),(),(),b.ss,im,b.ms,b.es) (fun _=>?_) (fun _=>?_)
  ·simp only [cond_true]
   refine PL.seq (ak1 po ht h5 [] (by simp) i hi nm sp b.ss im b.ms b.es (by omega)) (fun v j hj hvo hx=>?_) (fun p z=>⟨_,rfl⟩)
   have q1:=acx hi hj (aik parV aai _ _) hx
   exact .go { b with es:=b.es++[v] } j q1 hj ⟨by simp;omega,by simp;omega,by simp;omega,o1,aeq o2 hvo,o3⟩ rfl rfl
  ·simp only [cond_false]
   refine PL.seq (a8q po ht h5 i hi nm sp b.ss im b.ms b.es (by omega)) (fun v j hj hvo hx=>?_) (fun p z=>⟨_,rfl⟩)
   have q1:=acx hi hj (a7v parV aai _) hx
   exact .go { b with ss:=b.ss++[v] } j q1 hj ⟨by simp;omega,by simp;omega,by simp;omega,o1,o2,aeq o3 hvo⟩ rfl rfl
 ·have d:decide ((i:Int)<(t.length:Int))=false:=decide_eq_false (by omega)
  have hne:(ts t i).isEmpty=true:=by rw [aej (by omega)];rfl
  rw [d,hne]
  simp only [cond_true,cond_false]
  exact .done b i hi ⟨j1,j2,j3,o1,o2,o3⟩ rfl rfl
def amf (l:List Tk):Rs (List UInt8×List PV×FB):=(awi l).bind fun sp r=>(ado r []).bind fun im r2=>(aix parV aai r2 ⟨[],[],[]⟩).bind fun b r3=>.ok (sp,im,b) r3
theorem aj3 (name:List UInt8) (l:List Tk):azq parV aai name l=(amf l).bind fun v r=>.ok (PV.agg [PV.str name,PV.str v.1,PV.slice v.2.1,PV.slice v.2.2.ms,PV.slice v.2.2.es,PV.slice v.2.2.ss]) r:=by
 unfold azq amf
 simp only [Rs.bind_assoc,Rs.bind_ok]
def a3f (n:Nat) (v:List UInt8×List PV×FB) (j:Nat):Prop:=v.2.1.length<=n/\FBok v.2.2 n
theorem fb_le {b:FB}{j n:Nat} (h:FBok b j) (hj:j<=n):FBok b n:=⟨Nat.le_trans h.1 hj,Nat.le_trans h.2.1 hj,Nat.le_trans h.2.2.1 hj,h.2.2.2⟩
theorem ash (po:adf) (ht:TNum t) (h5:t.length<=100000) (nm sp:List UInt8) (i:Nat) (hi:i<=t.length):
 PG t Sum.inl Sum.inr (a3f t.length) (fun (v:List UInt8×List PV×FB) (j:Int)=>((t,j,nm,v.1,(),(),(),v.2.2.ss,v.2.1,v.2.2.ms,v.2.2.es):Q0)) ((ado (ts t i) []).bind fun im r2=>(aix parV aai r2 ⟨[],[],[]⟩).bind fun b r3=>.ok (sp,im,b) r3)
  ((aba (S44_4step 0) ((),(t,(i:Int),nm,sp,(),(),(),[],[],[],[]))).bind fun z=>sumE (fun y58=>some (.inr y58)) (fun y59=>(aba (S44_7step 0) ((),y59.2)).bind fun z=>sumE (fun y60=>some (.inr y60)) (fun y61=>some (.inl y61)) z) z):=by
 refine PG.swap (at0 ht.toTOk h5 nm sp [] [] [] i hi) (fun im j hj hvi _=>?_) (fun p z=>⟨_,rfl⟩)
 refine PG.swap (a4e po ht h5 nm sp im j hj) (fun b k hk hvb _=>?_) (fun p z=>⟨_,rfl⟩)
 exact .ok (sp,im,b) k hk ⟨Nat.le_trans hvi hj,fb_le hvb hk⟩ rfl rfl
theorem aq1 (po:adf) (ht:TNum t) (h5:t.length<=100000) (nm:List UInt8):
 PG t Sum.inl Sum.inr (a3f t.length) (fun (v:List UInt8×List PV×FB) (j:Int)=>((t,j,nm,v.1,(),(),(),v.2.2.ss,v.2.1,v.2.2.ms,v.2.2.es):Q0)) (amf (ts t 0)) (F44 0 () (t,(0:Int),nm,[],(),(),(),[],[],[],[])):=by
 have h0:=ht.toTOk
 unfold F44 amf awi
 rw [show (0:Int)=((0:Nat):Int) from rfl,ajo [115,112,97,99,101] 1 (by decide) t h0 0 (by omega) (nm,[],(),(),(),[],[],[],[]),Option.bind_some]
 simp only [aan]
 cases h:isS 1 [115,112,97,99,101] (ts t 0) with
 | true=>
  simp only [cond_true,Rs.bind_assoc,Rs.bind_ok,aa0]
  refine PG.seq (a5h t h0 1 (ac1 h) (nm,[],(),(),(),[],[],[],[])).pg (fun sp j hj _ _=>?_) (fun p z=>⟨_,rfl⟩)
  refine PG.seq (adr [59] 4 (by decide) t h0 j hj (nm,sp,(),(),(),[],[],[],[])).pg (fun _ k hk _ _=>?_) (fun p z=>⟨_,rfl⟩)
  exact ash po ht h5 nm sp k hk
 | false=>
  simp only [cond_false,Rs.bind_ok]
  exact ash po ht h5 nm [] 0 (by omega)
end
def ae1:PV:=PV.agg [PV.str [],PV.str [],PV.slice [],PV.slice [],PV.slice [],PV.slice []]
def a2x (xs:List PV) (j:Nat):Int:=((xs.getD (if xs.length-1<j then xs.length-1 else j) .bad).fld 3).asInt
def ajy (name:List UInt8) (xs:List PV):PV×Int×Int:=
 match azq parV aai name (ts xs 0) with
 | .ok v _=>(v,0,0)
 | .er r e=>(ae1,a2x xs (xs.length-r.length),e)
theorem arv:∃ v,amf []=.ok v []:=by
 refine ⟨([],[],⟨[],[],[]⟩),?_⟩
 unfold amf awi
 rw [show isS 1 [115,112,97,99,101] []=false from rfl,cond_false,Rs.bind_ok,aoy,show isS 1 [105,109,112,111,114,116] []=false from rfl,cond_false,Rs.bind_ok,a1v]
 rfl
def atu (v:PV):Prop:=(v.fld 2).asList.length<=100000/\(v.fld 3).asList.length<=100000/\(v.fld 4).asList.length<=100000/\(v.fld 5).asList.length<=100000/\(∀ x,x∈(v.fld 3).asList->agc x)/\(∀ x,x∈(v.fld 4).asList->adw x)/\(∀ x,x∈(v.fld 5).asList->ar0 x)
theorem aij:atu ae1:=⟨Nat.zero_le _,Nat.zero_le _,Nat.zero_le _,Nat.zero_le _,adv,adv,adv⟩
theorem a7g (po:adf) (name:List UInt8) (xs:List PV) (ht:TNum xs) (h5:xs.length<=100000):atu (ajy name xs).1:=by
 unfold ajy
 rw [aj3]
 rcases aq1 po ht h5 name with ⟨v,j,hj,⟨h1,h2,h3,h4,h6,h7,h8⟩,hx,hy⟩ | ⟨j,e,z,hj,he,hx,hy⟩
 ·rw [hx]
  exact ⟨show v.2.1.length<=_ by omega,show v.2.2.ms.length<=_ by omega,show v.2.2.es.length<=_ by omega,show v.2.2.ss.length<=_ by omega,h6,h7,h8⟩
 ·rw [hx];exact aij
theorem akh (po:adf) (name src:List UInt8) (xs:List PV) (l0:Int) (hs:F28 0 src=some (xs,l0,0)) (ht:TNum xs) (h5:xs.length<=100000):F15 0 name src=some (ajy name xs):=by
 unfold F15 ajy
 rw [hs,Option.bind_some,aj3]
 simp only [show ((0:Int) != 0)=false from rfl,cond_false]
 unfold F43
 rcases aq1 po ht h5 name with ⟨v,j,hj,_,hx,hy⟩ | ⟨j,e,z,hj,he,hx,hy⟩
 ·rw [hy,hx,Rs.bind_ok]
  rfl
 ·rw [hy,hx,Rs.bind_er]
  have hne:0<xs.length:=by
   rcases Nat.eq_zero_or_pos xs.length with h | h
   ·rw [aej (by omega)] at hx
    obtain ⟨v,hv⟩:=arv
    rw [hv] at hx;cases hx
   ·exact h
  have w:IntKind.wrap .i64 ((xs.length:Int)-1)=((xs.length-1:Nat):Int):=by rw [abd (by omega) (by omega)];omega
  have e1:((((PV.agg [PV.int ((j:Nat):Int),PV.int e]).fld 1).asInt) != (0:Int))=true:=bneI he
  have e2:((PV.agg [PV.int ((j:Nat):Int),PV.int e]).fld 0).asInt=(j:Int):=rfl
  have e3:((PV.agg [PV.int ((j:Nat):Int),PV.int e]).fld 1).asInt=e:=rfl
  have e4:(if ((xs.length-1:Nat):Int)<(j:Int) then ((xs.length-1:Nat):Int) else (j:Int))=((if xs.length-1<j then xs.length-1 else j:Nat):Int):=by split<;>split<;>omega
  have e5:aaa ((if xs.length-1<j then xs.length-1 else j:Nat):Int) xs.length=true:=by rw [aab];exact decide_eq_true (by split<;>omega)
  have e6:xs.length-(ts xs j).length=j:=by rw [ab6];omega
  simp only [Option.bind_some,aa2,e1,e2,e3,w,e4,e5,cond_true,Int.toNat_natCast,e6,bneI he]
  rfl
end
end Go.Ab
namespace Go.Ab
open Go
set_option maxRecDepth 100000
noncomputable section
def spC (c:UInt8):Bool:=c==32||c==9||c==13||c==10
def ag0:List UInt8->Bool
 | 47::47::_=>true
 | _=>false
def am6 (c:UInt8) (r:List UInt8):Int:=
 bif spC c then 1 else bif ag0 (c::r) then 2 else bif adq c r then 3 else bif digC c then 4 else bif c==34 then 5 else bif af3 c then 6 else 0
theorem pre47 (r:List UInt8):F230 0 (47::r) ([47,47]:List UInt8)=some (ag0 (47::r)):=by
 unfold F230 F297
 have e:((([47,47]:List UInt8).length:Nat):Int)=(2:Int):=rfl
 simp only [e]
 cases r with
 | nil=>rfl
 | cons d r=>
  have h1:decide (((47::d::r:List UInt8).length:Int)≥2)=true:=decide_eq_true (by simp only [List.length_cons];omega)
  have h2:decide ((0:Int)<=0/\(0:Int)<=2/\(2:Int)<=((47::d::r:List UInt8).length:Int))=true:=decide_eq_true (by simp only [List.length_cons];omega)
  have h3:(((47::d::r:List UInt8).take (2:Int).toNat).drop (0:Int).toNat==([47,47]:List UInt8))=ag0 (47::d::r):=by
   show ([47,d]==([47,47]:List UInt8))=_
   by_cases hd:d=47
   ·subst hd;rfl
   ·have:ag0 (47::d::r)=false:=by
     unfold ag0
     split
     ·rename_i heq;simp only [List.cons.injEq] at heq;exact absurd heq.2.1 hd
     ·rfl
    rw [this,beq_eq_false_iff_ne]
    intro q
    simp only [List.cons.injEq] at q
    exact hd q.2.1
  simp only [h1,h2,h3,imp,cond_true,Option.bind_some]
theorem a5z {c:UInt8} (r:List UInt8) (h:c≠47):ag0 (c::r)=false:=by
 unfold ag0
 split
 ·rename_i heq;simp only [List.cons.injEq] at heq;exact absurd heq.1 h
 ·rfl
theorem a7n {c:UInt8} (h:spC c=false):c≠32/\c≠9/\c≠13/\c≠10:=by
 unfold spC at h
 simp only [Bool.or_eq_false_iff,beq_eq_false_iff_ne] at h
 exact ⟨h.1.1.1,h.1.1.2,h.1.2,h.2⟩
theorem aim (c:UInt8) (r:List UInt8):F123 0 (c::r)=some (am6 c r):=by
 unfold am6
 cases hs:spC c with
 | true=>
  have e3:(c::r).getD (0:Int).toNat 0=c:=rfl
  unfold F123
  simp only [in0,e3,cond_true,bqI (c:=c) (k:=32) (n:=32) rfl,bqI (c:=c) (k:=9) (n:=9) rfl,bqI (c:=c) (k:=13) (n:=13) rfl,bqI (c:=c) (k:=10) (n:=10) rfl]
  unfold spC at hs
  cases h1:(c==32)<;>cases h2:(c==9)<;>cases h3:(c==13)<;>cases h4:(c==10)<;>first | rfl | (rw [h1,h2,h3,h4] at hs;cases hs)
 | false=>
  obtain ⟨n1,n2,n3,n4⟩:=a7n hs
  simp only [cond_false]
  by_cases h47:c=47
  ·subst h47
   have e1:(((47::r:List UInt8).take (1:Int).toNat).drop (0:Int).toNat)=[47]:=rfl
   have e2:decide ((0:Int)<=(0:Int)/\(0:Int)<=(1:Int)/\(1:Int)<=((47::r:List UInt8).length:Int))=true:=decide_eq_true (by simp only [List.length_cons];omega)
   have e3:(47::r:List UInt8).getD (0:Int).toNat 0=47:=rfl
   have k1:(((47:UInt8).toNat:Int)==(32:Int))=false:=rfl
   have k2:(((47:UInt8).toNat:Int)==(9:Int))=false:=rfl
   have k3:(((47:UInt8).toNat:Int)==(13:Int))=false:=rfl
   have k4:(((47:UInt8).toNat:Int)==(10:Int))=false:=rfl
   have k5:(((47:UInt8).toNat:Int)==(46:Int))=false:=rfl
   have k6:(((47:UInt8).toNat:Int)==(34:Int))=false:=rfl
   have l1:letB 47=false:=by decide
   have l2:digC 47=false:=by decide
   have l3:af3 47=false:=by decide
   have l4:adq 47 r=false:=by unfold adq;rw [l1];rfl
   unfold F123
   simp only [in0,e1,e2,e3,cond_true,k1,k2,k3,k4,k5,k6,cond_false,pre47,Option.bind_some,ag2,alb,atf,l1,l2,l3,l4,imp,Bool.not_false,Bool.true_or,Bool.or_true,aag]
   cases ag0 (47::r)<;>rfl
  ·rw [ahs c r ⟨n1,n2,n3,n4,h47⟩,a5z r h47];rfl
def skipS:Bool->List UInt8->Nat
 | _,[]=>0
 | true,c::r=>bif c==10 then skipS false r+1 else skipS true r+1
 | false,c::r=>bif spC c then skipS false r+1 else bif ag0 (c::r) then skipS true r+1 else 0
theorem ap8:∀ (s:List UInt8) (b:Bool),skipS b s<=s.length:=by
 intro s
 induction s with
 | nil=>intro b;cases b<;>exact Nat.le_refl _
 | cons c r ih=>
  intro b
  have h1:=ih true
  have h2:=ih false
  cases b
  ·simp only [skipS,List.length_cons]
   cases spC c<;>cases ag0 (c::r)<;>simp only [cond_true,cond_false]<;>omega
  ·simp only [skipS,List.length_cons]
   cases (c==10)<;>simp only [cond_true,cond_false]<;>omega
def ne10 (c:UInt8):Bool:=!(c==10)
theorem a1b:∀ s:List UInt8,skipS true s=runN ne10 s+skipS false (s.drop (runN ne10 s)):=by
 intro s
 induction s with
 | nil=>rfl
 | cons c r ih=>
  rw [ac4]
  unfold ne10
  cases h:(c==10) with
  | true=>
   have e:c=10:=eq_of_beq h
   subst e
   simp [skipS,spC]
  | false=>
   simp only [skipS,h,cond_false,Bool.not_false,if_true,List.drop_succ_cons]
   rw [ih]
   unfold ne10
   omega
theorem a6x (c:UInt8):F125 0 (c.toNat:Int)=some (ne10 c):=by
 unfold F125 ne10
 show some (!((c.toNat:Int)==10))=_
 rw [bqI (c:=c) (k:=10) (n:=10) rfl]
theorem a94 (s:List UInt8) (hl:s.length<=1048576):F124 0 s ()=some ((runN ne10 s:Nat):Int):=by
 have h:=aqr (p:=ne10) (step:=S124_3step 0) s (fun i hi=>by
  simp only [S124_3step,S124_3,abn,hi,decide_true,aab,imp,cond_true,Int.toNat_natCast,a6x,Option.bind_some,Bool.not_true,Bool.false_or,Bool.true_or,abk (show i<=9223372036854775000 by omega)]
  cases ne10 (s.getD i 0)<;>rfl) (by
  simp only [S124_3step,S124_3,abn,Nat.lt_irrefl,decide_false,aab,imp,cond_false,Bool.not_false,Bool.true_or,cond_true,Option.bind_some]) s.length 0 (by omega) (by omega)
 unfold F124
 rw [aan,show (0:Int)=((0:Nat):Int) from rfl,h,List.drop_zero,Nat.zero_add];rfl
theorem apu {c:UInt8}{r:List UInt8}:(am6 c r==1)=spC c:=by
 unfold am6
 cases spC c with
 | true=>rfl
 | false=>
  cases ag0 (c::r)<;>cases adq c r<;>cases digC c<;>cases (c==34)<;>cases af3 c<;>rfl
theorem avz {c:UInt8}{r:List UInt8} (h:spC c=false):(am6 c r==2)=ag0 (c::r):=by
 unfold am6
 rw [h]
 cases ag0 (c::r)<;>cases adq c r<;>cases digC c<;>cases (c==34)<;>cases af3 c<;>rfl
theorem axq (src:List UInt8) (hl:src.length<=1048576):∀ (m i:Nat),src.length-i<=m->i<=src.length->∃ z,aba (S59_3step 0) (src,(i:Int))=some z/\(z=.inl ((i+skipS false (src.drop i):Nat):Int)∨z=.inr ((i+skipS false (src.drop i):Nat):Int)):=by
 intro m
 induction m with
 | zero=>
  intro i hm hi
  have e1:decide ((i:Int)<(src.length:Int))=false:=decide_eq_false (by omega)
  rw [List.drop_eq_nil_of_le (by omega)]
  exact ⟨.inr (i:Int),aac (by simp only [S59_3step,S59_3,e1,cond_false]),Or.inr rfl⟩
 | succ m ih=>
  intro i hm hi
  by_cases hlt:i<src.length
  ·have e1:decide ((i:Int)<(src.length:Int))=true:=decide_eq_true (by omega)
   rw [aat hlt 0]
   obtain ⟨c,hc⟩:∃ c,src.getD i 0=c:=⟨_,rfl⟩
   have hd:src.drop i=c::src.drop (i+1):=by rw [aat hlt 0,hc]
   rw [hc]
   cases hs:spC c with
   | true=>
    obtain ⟨z,h1,h2⟩:=ih (i+1) (by omega) (by omega)
    have st:S59_3step 0 (src,(i:Int))=some (.inl (src,((i+1:Nat):Int))):=by
     simp only [S59_3step,S59_3,e1,aie src hi,cond_true,ady,hd,aim,apu,hs,Option.bind_some,abk (show i<=9223372036854775000 by omega)]
    refine ⟨z,by rw [aaw st,h1],?_⟩
    simp only [skipS,hs,cond_true]
    rw [show i+(skipS false (src.drop (i+1))+1)=i+1+skipS false (src.drop (i+1)) by omega]
    exact h2
   | false=>
    cases hh:ag0 (c::src.drop (i+1)) with
    | true=>
     have hn:c≠10:=(a7n hs).2.2.2
     have hn1:ne10 c=true:=by unfold ne10;rw [beq_eq_false_iff_ne.2 hn];rfl
     have hr:runN ne10 (src.drop i)=runN ne10 (src.drop (i+1))+1:=by rw [hd,ac4,if_pos hn1]
     have hle:=ajp ne10 (src.drop i)
     rw [List.length_drop] at hle
     obtain ⟨z,h1,h2⟩:=ih (i+runN ne10 (src.drop i)) (by omega) (by omega)
     have hrun:=a94 (src.drop i) (by rw [List.length_drop];omega)
     have w:IntKind.wrap .i64 ((i:Int)+((runN ne10 (src.drop i):Nat):Int))=((i+runN ne10 (src.drop i):Nat):Int):=by rw [abd (by omega) (by omega)];omega
     have st:S59_3step 0 (src,(i:Int))=some (.inl (src,((i+runN ne10 (src.drop i):Nat):Int))):=by
      rw [<-w]
      simp only [S59_3step,S59_3,e1,aie src hi,cond_true,ady,hrun,Option.bind_some]
      rw [hd]
      simp only [aim,apu,avz hs,hs,hh,Option.bind_some,cond_true,cond_false]
     refine ⟨z,by rw [aaw st,h1],?_⟩
     have hsk:skipS false (c::src.drop (i+1))=runN ne10 (src.drop i)+skipS false (src.drop (i+runN ne10 (src.drop i))):=by
      simp only [skipS,hs,hh,cond_true,cond_false]
      rw [a1b,List.drop_drop,hr]
      rw [show i+1+runN ne10 (src.drop (i+1))=i+(runN ne10 (src.drop (i+1))+1) by omega]
      omega
     rw [hsk,<-Nat.add_assoc]
     exact h2
    | false=>
     refine ⟨.inl (i:Int),aac ?_,?_⟩
     ·simp only [S59_3step,S59_3,e1,aie src hi,cond_true,ady,hd,aim,apu,avz hs,hs,hh,Option.bind_some,cond_false]
     ·simp [skipS,hs,hh]
  ·have e1:decide ((i:Int)<(src.length:Int))=false:=decide_eq_false (by omega)
   rw [List.drop_eq_nil_of_le (by omega)]
   exact ⟨.inr (i:Int),aac (by simp only [S59_3step,S59_3,e1,cond_false]),Or.inr rfl⟩
theorem a5u (s:List UInt8) (hl:s.length<=1048576):F59 0 s=some ((skipS false s:Nat):Int):=by
 obtain ⟨z,h1,h2⟩:=axq s hl s.length 0 (by omega) (by omega)
 rw [List.drop_zero,Nat.zero_add] at h2
 unfold F59
 rw [aan,show (0:Int)=((0:Nat):Int) from rfl,h1]
 rcases h2 with rfl | rfl<;>rfl
theorem aoc:∀ (s:List UInt8) (b:Bool) (c:UInt8) (r:List UInt8),s.drop (skipS b s)=c::r->spC c=false/\ag0 (c::r)=false:=by
 intro s
 induction s with
 | nil=>intro b c r h;cases b<;>simp at h
 | cons a s ih=>
  intro b c r h
  cases b with
  | true=>
   simp only [skipS] at h
   cases ha:(a==10)<;>simp only [ha,cond_true,cond_false,List.drop_succ_cons] at h
   ·exact ih true c r h
   ·exact ih false c r h
  | false=>
   simp only [skipS] at h
   cases hs:spC a<;>simp only [hs,cond_true,cond_false] at h
   ·cases hh:ag0 (a::s)<;>simp only [hh,cond_true,cond_false,List.drop_succ_cons,List.drop_zero] at h
    ·simp only [List.cons.injEq] at h
     obtain ⟨rfl,rfl⟩:=h
     exact ⟨hs,hh⟩
    ·exact ih true c r h
   ·exact ih false c r (by simpa using h)
end
end Go.Ab
namespace Go.Ab
open Go
set_option maxRecDepth 100000
noncomputable section
theorem a7t:∀ l:List UInt8,eat l<=l.length:=by
 intro l
 induction l with
 | nil=>exact Nat.le_refl _
 | cons c r ih=>
  rw [aex]
  split
  ·simp;omega
  ·split
   ·split
    ·split<;>simp<;>omega
    ·omega
   ·omega
def aff:List UInt8->Nat
 | []=>0
 | c::r=>bif c==46 then eat r+1 else eat (c::r)
theorem awu (s:List UInt8):aff s<=s.length:=by
 cases s with
 | nil=>exact Nat.le_refl _
 | cons c r=>
  have h1:=a7t r
  have h2:=a7t (c::r)
  simp only [aff,List.length_cons] at*
  cases (c==46)<;>simp only [cond_true,cond_false]<;>omega
theorem auz (c:UInt8) (r:List UInt8) (hl:(c::r).length<=1048576):F234 0 (c::r)=some ((aff (c::r):Nat):Int):=by
 unfold F234
 have e3:(c::r).getD (0:Int).toNat 0=c:=rfl
 simp only [in0,e3,cond_true,bqI (c:=c) (k:=46) (n:=46) rfl,aff]
 cases hc:(c==46) with
 | true=>
  have h:=ae5 (c::r) hl (c::r).length 1 (by omega) (by simp)
  simp only [cond_true,aan]
  rw [show (1:Int)=((1:Nat):Int) from rfl,h]
  show some (((1+eat r:Nat):Nat):Int)=_
  rw [Nat.add_comm]
 | false=>
  have h:=ae5 (c::r) hl (c::r).length 0 (by omega) (by omega)
  simp only [cond_false,aan]
  rw [show (0:Int)=((0:Nat):Int) from rfl,h,List.drop_zero,Nat.zero_add];rfl
def aoe (s:List UInt8):(Tk×Nat)⊕Int:=bif afw (s.take (aff s)) then .inl (⟨1,s.take (aff s),0⟩,aff s) else .inr 8
def axe (s:List UInt8):(Tk×Nat)⊕Int:=
 bif (decide (1<runN digC s)&&s.getD 0 0==48)||(decide (runN digC s<s.length)&&alnB (s.getD (runN digC s) 0)) then .inr 2
 else bif (ab1 (Lib.parseUintB 64 (s.take (runN digC s)))).2 then .inl (⟨2,[],IntKind.wrap .i64 (ab1 (Lib.parseUintB 64 (s.take (runN digC s)))).1⟩,runN digC s) else .inr 6
def unqV (s:List UInt8):List UInt8×Int×Int:=(F131 0 s).getD ([],0,2)
def a3d (s:List UInt8):(Tk×Nat)⊕Int:=bif (unqV s).2.2==0 then .inl (⟨3,(unqV s).1,0⟩,(unqV s).2.1.toNat) else .inr 2
def anh:List UInt8->(Tk×Nat)⊕Int
 | []=>.inr 2
 | c::r=>bif adq c r then aoe (c::r) else bif digC c then axe (c::r) else bif c==34 then a3d (c::r) else bif af3 c then .inl (⟨4,[c],0⟩,1) else .inr 2
inductive RdOk (y:Option (PV×Int×Int)):(Tk×Nat)⊕Int->Prop
 | ok (k:Tk) (n:Nat):y=some (PV.agg [PV.int k.k,PV.str k.s,PV.int k.n,PV.int 0],(n:Int),0)->RdOk y (.inl (k,n))
 | er (e:Int) (v:PV) (m:Int):e≠0->y=some (v,m,e)->RdOk y (.inr e)
theorem a0z {x:(Tk×Nat)⊕Int} (h:RdOk none x):False:=by
 cases h with
 | ok k n h=>cases h
 | er e v m he h=>cases h
theorem ajr (c:UInt8) (r:List UInt8):anh (c::r)=bif adq c r then aoe (c::r) else bif digC c then axe (c::r) else bif c==34 then a3d (c::r) else bif af3 c then .inl (⟨4,[c],0⟩,1) else .inr 2:=rfl
theorem a1f (c:UInt8) (r:List UInt8) (hl:(c::r).length<=1048576):RdOk (F129 0 (c::r)) (aoe (c::r)):=by
 have hle:=awu (c::r)
 have e1:decide ((0:Int)<=(0:Int)/\(0:Int)<=((aff (c::r):Nat):Int)/\((aff (c::r):Nat):Int)<=((c::r).length:Int))=true:=decide_eq_true (by omega)
 have e2:((c::r).take ((aff (c::r):Nat):Int).toNat).drop (0:Int).toNat=(c::r).take (aff (c::r)):=by
  rw [Int.toNat_natCast];rfl
 obtain ⟨y,h1,h2⟩:=al2 ((c::r).take (aff (c::r))) (by rw [List.length_take];omega)
 have hy:F129 0 (c::r)=bif !afw ((c::r).take (aff (c::r))) then some (PV.agg [PV.int 0,PV.str [],PV.int 0,PV.int 0],0,8) else some (PV.agg [PV.int 1,PV.str ((c::r).take (aff (c::r))),PV.int 0,PV.int 0],((aff (c::r):Nat):Int),0):=by
  unfold F129
  simp only [auz c r hl,Option.bind_some,e1,e2,cond_true,h1,h2]
 unfold aoe
 cases ht:afw ((c::r).take (aff (c::r))) with
 | true=>rw [ht] at hy;exact .ok _ _ hy
 | false=>rw [ht] at hy;exact .er _ _ _ (by decide) hy
theorem a5x (c:UInt8) (r:List UInt8) (hl:(c::r).length<=1048576):RdOk (F130 0 (c::r)) (axe (c::r)):=by
 have hle:=ajp digC (c::r)
 have hr:=asb (c::r) hl
 obtain ⟨n,hn⟩:∃ n,runN digC (c::r)=n:=⟨_,rfl⟩
 unfold axe
 rw [hn] at hle hr ⊢
 have e1:decide ((0:Int)<=(0:Int)/\(0:Int)<=(n:Int)/\(n:Int)<=((c::r).length:Int))=true:=decide_eq_true (by omega)
 have e2:((c::r).take n).drop (0:Int).toNat=(c::r).take n:=rfl
 have x2:decide ((n:Int)>(1:Int))=decide (1<n):=decide_eq_decide.2 (by omega)
 have x7:decide ((n:Int)<((c::r).length:Int))=decide (n<(c::r).length):=decide_eq_decide.2 (by omega)
 have x5:((((c::r).getD (0:Int).toNat 0).toNat:Int)==(48:Int))=((c::r).getD 0 0==48):=bqI (k:=48) rfl
 have hp:=aiz ((c::r).take n) (by rw [List.length_take];omega)
 have key:F130 0 (c::r)=bif (decide (1<n)&&(c::r).getD 0 0==48)||(decide (n<(c::r).length)&&alnB ((c::r).getD n 0)) then some (PV.agg [PV.int 0,PV.str [],PV.int 0,PV.int 0],0,2)
  else bif !(ab1 (Lib.parseUintB 64 ((c::r).take n))).2 then some (PV.agg [PV.int 0,PV.str [],PV.int 0,PV.int 0],0,6) else some (PV.agg [PV.int 2,PV.str [],PV.int (IntKind.wrap .i64 (ab1 (Lib.parseUintB 64 ((c::r).take n))).1),PV.int 0],(n:Int),0):=by
  unfold F130
  simp only [hr,Option.bind_some,x2,x7,x5,in0,aab,imp,Bool.true_or,Bool.or_true,aag,cond_true,Int.toNat_natCast,atl,e1,e2,hp]
  by_cases hc:n<(c::r).length
  ·simp only [hc,decide_true,Bool.true_and,cond_true,Bool.true_or,Bool.or_true]
   cases decide (1<n)<;>cases ((c::r).getD 0 0==48)<;>cases alnB ((c::r).getD n 0)<;>rfl
  ·simp only [hc,decide_false,Bool.false_and,cond_false,aag,Bool.not_false,Bool.true_or,cond_true]
   cases decide (1<n)<;>cases ((c::r).getD 0 0==48)<;>rfl
 cases hb:(decide (1<n)&&(c::r).getD 0 0==48)||(decide (n<(c::r).length)&&alnB ((c::r).getD n 0)) with
 | true=>rw [hb] at key;exact .er _ _ _ (by decide) key
 | false=>
  rw [hb] at key
  cases hu:(ab1 (Lib.parseUintB 64 ((c::r).take n))).2 with
  | true=>rw [hu] at key;exact .ok _ _ key
  | false=>rw [hu] at key;exact .er _ _ _ (by decide) key
theorem awz (c:UInt8) (r:List UInt8) (hl:(c::r).length<=1048576) (hs:spC c=false) (hh:ag0 (c::r)=false):RdOk (F61 0 (c::r)) (anh (c::r)):=by
 have hst:=aim c r
 unfold am6 at hst
 rw [hs,hh,cond_false,cond_false] at hst
 rw [ajr]
 unfold F61
 rw [hst,Option.bind_some]
 cases h1:adq c r with
 | true=>
  simp only [cond_true,show ((3:Int)==3)=true from rfl]
  have h:=a1f c r hl
  cases hy:F129 0 (c::r) with
  | none=>rw [hy] at h;exact (a0z h).elim
  | some y=>rw [hy] at h;rw [Option.bind_some];exact h
 | false=>
  cases h2:digC c with
  | true=>
   simp only [cond_true,cond_false,show ((4:Int)==3)=false from rfl,show ((4:Int)==4)=true from rfl]
   have h:=a5x c r hl
   cases hy:F130 0 (c::r) with
   | none=>rw [hy] at h;exact (a0z h).elim
   | some y=>rw [hy] at h;rw [Option.bind_some];exact h
  | false=>
   cases h3:(c==34) with
   | true=>
    simp only [cond_true,cond_false,show ((5:Int)==3)=false from rfl,show ((5:Int)==4)=false from rfl,show ((5:Int)==5)=true from rfl]
    unfold a3d unqV
    rcases amq (c::r) hl with ⟨a,q,ha,hy⟩ | ⟨_,hy⟩
    ·rw [hy];exact .ok ⟨3,a,0⟩ (aa4 a).length rfl
    ·rw [hy];exact .er 2 _ _ (by decide) rfl
   | false=>
    cases h4:af3 c with
    | true=>
     have e:decide ((0:Int)<=(0:Int)/\(0:Int)<=(1:Int)/\(1:Int)<=((c::r).length:Int))=true:=decide_eq_true (by simp only [List.length_cons];omega)
     simp only [cond_true,cond_false,show ((6:Int)==3)=false from rfl,show ((6:Int)==4)=false from rfl,show ((6:Int)==5)=false from rfl,show ((6:Int)==6)=true from rfl,e]
     exact .ok ⟨4,[c],0⟩ 1 rfl
    | false=>exact .er 2 _ _ (by decide) rfl
def WfTk (k:Tk):Prop:=(k.k=1/\afw k.s=true/\k.n=0)∨(k.k=2/\k.s=[]/\∃ u:Nat,u<18446744073709551616/\k.n=IntKind.wrap .i64 (u:Int))∨(k.k=3/\k.n=0)∨(k.k=4/\k.n=0/\∃ c,k.s=[c]/\af3 c=true)
theorem asq {l:List UInt8}{u:Nat} (h:Lib.parseUintB 64 l=.ok u):u<18446744073709551616:=by
 have:=Lib.parseUintB_le h
 omega
theorem aps {c:UInt8}{r:List UInt8} (hl:(c::r).length<=1048576) {k:Tk}{n:Nat} (h:anh (c::r)=.inl (k,n)):1<=n/\n<=(c::r).length/\WfTk k/\k.s.length<=(c::r).length:=by
 rw [ajr] at h
 cases h1:adq c r with
 | true=>
  rw [h1] at h
  simp only [cond_true] at h
  unfold aoe at h
  cases ht:afw ((c::r).take (aff (c::r)))<;>rw [ht] at h<;>simp only [cond_true,cond_false] at h<;>cases h
  have hle:=awu (c::r)
  refine ⟨?_,hle,Or.inl ⟨rfl,ht,rfl⟩,by simp only [List.length_take];omega⟩
  rcases Nat.eq_zero_or_pos (aff (c::r)) with h0 | h0
  ·rw [h0,List.take_zero] at ht;exact absurd ht (by decide)
  ·exact h0
 | false=>
  cases h2:digC c with
  | true=>
   rw [h1,h2] at h
   simp only [cond_true,cond_false] at h
   have hle:=ajp digC (c::r)
   have hpos:1<=runN digC (c::r):=by rw [ac4,if_pos h2];omega
   unfold axe at h
   cases hb:(decide (1<runN digC (c::r))&&(c::r).getD 0 0==48)||(decide (runN digC (c::r)<(c::r).length)&&alnB ((c::r).getD (runN digC (c::r)) 0))<;>rw [hb] at h<;>simp only [cond_true,cond_false] at h
   ·cases hp:Lib.parseUintB 64 ((c::r).take (runN digC (c::r))) with
    | ok u=>
     rw [hp] at h
     simp only [ab1,cond_true] at h
     cases h
     exact ⟨hpos,hle,Or.inr (Or.inl ⟨rfl,rfl,u,asq hp,rfl⟩),Nat.zero_le _⟩
    | range=>rw [hp] at h;cases h
    | «syntax»=>rw [hp] at h;cases h
   ·cases h
  | false=>
   cases h3:(c==34) with
   | true=>
    rw [h1,h2,h3] at h
    simp only [cond_true,cond_false] at h
    unfold a3d unqV at h
    rcases amq (c::r) hl with ⟨a,q,ha,hy⟩ | ⟨_,hy⟩
    ·rw [hy] at h
     simp only [Option.getD_some,show ((0:Int)==0)=true from rfl,cond_true,Int.toNat_natCast] at h
     cases h
     have hq:(aa4 a).length<=(c::r).length:=by rw [ha];simp
     have hq2:=aqh a
     refine ⟨?_,hq,Or.inr (Or.inr (Or.inl ⟨rfl,rfl⟩)),by show a.length<=_;omega⟩
     obtain ⟨z,hz⟩:=an2 a
     rw [hz];simp
    ·rw [hy] at h;cases h
   | false=>
    cases h4:af3 c with
    | true=>
     rw [h1,h2,h3,h4] at h
     simp only [cond_true,cond_false] at h
     cases h
     exact ⟨Nat.le_refl _,by simp,Or.inr (Or.inr (Or.inr ⟨rfl,rfl,c,rfl,h4⟩)),by simp⟩
    | false=>rw [h1,h2,h3,h4] at h;cases h
def tokV (k:Tk) (line:Nat):PV:=PV.agg [PV.int k.k,PV.str k.s,PV.int k.n,PV.int (line:Int)]
def cnt10 (s:List UInt8):Nat:=s.count 10
theorem aw1 (s:List UInt8):cnt10 s<=s.length:=List.count_le_length
def scanF:Nat->Nat->List UInt8->List PV->List PV⊕(Nat×Int)
 | 0,_,_,acc=>.inl acc
 | f+1,line,s,acc=>
  match s.drop (skipS false s) with
  | []=>.inl acc
  | c::r=>match anh (c::r) with
   | .inr e=>.inr (line+cnt10 (s.take (skipS false s)),e)
   | .inl (k,n)=>scanF f (line+cnt10 (s.take (skipS false s))+cnt10 ((c::r).take n)) ((c::r).drop n) (acc++[tokV k (line+cnt10 (s.take (skipS false s)))])
def a68 (s:List UInt8):List PV×Int×Int:=match scanF (s.length+1) 1 s [] with | .inl xs=>(xs,0,0) | .inr (l,e)=>([],(l:Int),e)
theorem lcnt (l:List UInt8):aob 0 l ([10]:List UInt8)=some ((cnt10 l:Nat):Int):=rfl
theorem azh {src:List UInt8} (hl:src.length<=16384):∀ (f i:Nat) (acc:List PV) (line:Nat),src.length-i<f->i<=src.length->acc.length<=i->line<=i+1->
 aba (S28_7step 0) (src,acc,(line:Int),(i:Int))=some (match scanF f line (src.drop i) acc with | .inl xs=>.inl xs | .inr (l,e)=>.inr ([],(l:Int),e)):=by
 intro f
 induction f with
 | zero=>intro i acc line hm;omega
 | succ f ih=>
  intro i acc line hm hi ha hline
  unfold scanF
  have hsk:=ap8 (src.drop i) false
  rw [List.length_drop] at hsk
  by_cases hlt:i<src.length
  ·have e1:decide ((i:Int)<(src.length:Int))=true:=decide_eq_true (by omega)
   have h1:=a5u (src.drop i) (by rw [List.length_drop];omega)
   obtain ⟨k,hk⟩:∃ k,skipS false (src.drop i)=k:=⟨_,rfl⟩
   rw [hk] at hsk h1 ⊢
   have w1:IntKind.wrap .i64 ((i:Int)+(k:Int))=((i+k:Nat):Int):=by rw [abd (by omega) (by omega)];omega
   have e2:decide (0<=(i:Int)/\(i:Int)<=((i+k:Nat):Int)/\((i+k:Nat):Int)<=(src.length:Int))=true:=decide_eq_true (by omega)
   have t1:(src.take (((i+k:Nat):Int)).toNat).drop ((i:Int)).toNat=(src.drop i).take k:=by
    rw [Int.toNat_natCast,Int.toNat_natCast,List.drop_take,show i+k-i=k by omega]
   have hc:=aw1 ((src.drop i).take k)
   rw [List.length_take,List.length_drop] at hc
   have w2:IntKind.wrap .i64 ((line:Int)+((cnt10 ((src.drop i).take k):Nat):Int))=((line+cnt10 ((src.drop i).take k):Nat):Int):=by rw [abd (by omega) (by omega)];omega
   have hdd:(src.drop i).drop k=src.drop (i+k):=by rw [List.drop_drop]
   rw [hdd]
   by_cases hend:i+k=src.length
   ·have e3:(((i+k:Nat):Int)==(src.length:Int))=true:=by rw [hend];simp
    have hnil:src.drop (i+k)=[]:=List.drop_eq_nil_of_le (by omega)
    rw [hnil]
    refine aac ?_
    simp only [S28_7step,S28_7,e1,aie src hi,cond_true,ady,h1,w1,e2,lcnt,e3,Option.bind_some]
   ·have e3:(((i+k:Nat):Int)==(src.length:Int))=false:=by rw [beq_eq_false_iff_ne];omega
    have hlt2:i+k<src.length:=by omega
    obtain ⟨c,hcc⟩:∃ c,src.getD (i+k) 0=c:=⟨_,rfl⟩
    have hd:src.drop (i+k)=c::src.drop (i+k+1):=by rw [aat hlt2 0,hcc]
    have hstop:=aoc (src.drop i) false c (src.drop (i+k+1)) (by rw [hk,hdd,hd])
    have hlen:(c::src.drop (i+k+1)).length<=1048576:=by rw [<-hd,List.length_drop];omega
    have hrd:=awz c (src.drop (i+k+1)) hlen hstop.1 hstop.2
    rw [hd]
    cases hx:anh (c::src.drop (i+k+1)) with
    | inr e=>
     rw [hx] at hrd
     cases hrd with
     | er _ v m he hy=>
      rw [<-hd] at hy
      refine aac ?_
      simp only [S28_7step,S28_7,e1,aie src hi,aie src (show i+k<=src.length by omega),cond_true,cond_false,ady,h1,w1,w2,e2,lcnt,t1,e3,hy,hx,bneI he,Option.bind_some]
    | inl kn=>
     obtain ⟨tk,n⟩:=kn
     obtain ⟨hn1,hn2,hwf,_⟩:=aps hlen hx
     rw [<-hd,List.length_drop] at hn2
     rw [hx] at hrd
     cases hrd with
     | ok _ _ hy=>
      rw [<-hd] at hy
      have w3:IntKind.wrap .i64 (((i+k:Nat):Int)+(n:Int))=((i+k+n:Nat):Int):=by rw [abd (by omega) (by omega)];omega
      have e4:decide (0<=((i+k:Nat):Int)/\((i+k:Nat):Int)<=((i+k+n:Nat):Int)/\((i+k+n:Nat):Int)<=(src.length:Int))=true:=decide_eq_true (by omega)
      have t2:(src.take (((i+k+n:Nat):Int)).toNat).drop (((i+k:Nat):Int)).toNat=(src.drop (i+k)).take n:=by
       rw [Int.toNat_natCast,Int.toNat_natCast,List.drop_take,show i+k+n-(i+k)=n by omega]
      have hc2:=aw1 ((src.drop (i+k)).take n)
      rw [List.length_take,List.length_drop] at hc2
      have w4:IntKind.wrap .i64 (((line+cnt10 ((src.drop i).take k):Nat):Int)+((cnt10 ((src.drop (i+k)).take n):Nat):Int))=((line+cnt10 ((src.drop i).take k)+cnt10 ((src.drop (i+k)).take n):Nat):Int):=by rw [abd (by omega) (by omega)];omega
      have ea:∀ x:PV,decide (acc.length+[x].length<=aal)=true:=fun x=>decide_eq_true (by simp only [List.length_cons,List.length_nil];unfold aal;omega)
      have z0:((0:Int) != (0:Int))=false:=rfl
      have st:S28_7step 0 (src,acc,(line:Int),(i:Int))=some (.inl (src,acc++[tokV tk (line+cnt10 ((src.drop i).take k))],((line+cnt10 ((src.drop i).take k)+cnt10 ((src.drop (i+k)).take n):Nat):Int),((i+k+n:Nat):Int))):=by
       simp only [S28_7step,S28_7,e1,aie src hi,aie src (show i+k<=src.length by omega),cond_true,cond_false,ady,h1,w1,w2,w3,w4,e2,e4,ea,lcnt,t1,t2,e3,hy,z0,Option.bind_some]
       rfl
      have:=ih (i+k+n) (acc++[tokV tk (line+cnt10 ((src.drop i).take k))]) (line+cnt10 ((src.drop i).take k)+cnt10 ((src.drop (i+k)).take n)) (by omega) (by omega) (by simp;omega) (by omega)
      simp only [hx]
      rw [aaw st,this,<-hd,List.drop_drop]
  ·have e1:decide ((i:Int)<(src.length:Int))=false:=decide_eq_false (by omega)
   have hnil:src.drop i=[]:=List.drop_eq_nil_of_le (by omega)
   rw [hnil]
   exact aac (by simp only [S28_7step,S28_7,e1,cond_false];rfl)
theorem av6 (s:List UInt8) (hl:s.length<=16384):F28 0 s=some (a68 s):=by
 have h:=azh hl (s.length+1) 0 [] 1 (by omega) (by omega) (by simp) (by omega)
 have e:decide ((s.length:Int)>(16384:Int))=false:=decide_eq_false (by omega)
 rw [List.drop_zero] at h
 unfold F28 a68
 rw [e,cond_false,aan,show (0:Int)=((0:Nat):Int) from rfl,show (1:Int)=((1:Nat):Int) from rfl,h]
 cases scanF (s.length+1) 1 s [] with
 | inl xs=>rfl
 | inr p=>rfl
end
end Go.Ab
namespace Go.Ab
open Go
set_option maxRecDepth 100000
theorem aey {σ τ:Type}{step:σ->Option (σ⊕τ)} (st:Nat->σ) (n:Nat) (y:τ) (h:∀ i,i<n->step (st i)=some (.inl (st (i+1)))) (he:step (st n)=some (.inr y)):aba step (st 0)=some y:=by
 have:=ai9 (step:=step) st n (fun _=>true) y y (fun i hi=>by rw [h i hi];rfl) he n 0 (by omega)
 rw [this,allT];rfl
theorem ads {l:List PV} (h:ae8 l):F58 0 l l=some true:=alg l (by have:=h.1;omega) h.2
theorem as4 {v:PV} (h:ag1 v):F27 0 v v=some true:=ar8 h.1 (by have:=h.2;omega)
theorem aoj (l:List PV) (hl:l.length<=100000):F47 0 l l=some true:=by
 unfold F47
 simp only [bne_self_eq_false,cond_false,aan]
 rw [show (0:Int)=((0:Nat):Int) from rfl,aey (fun i=>(l,l,((i:Nat):Int))) l.length (.inr ()) (fun i hi=>by
  simp only [S47_5step,S47_5,abn,hi,decide_true,cond_true,aab,Int.toNat_natCast,beq_self_eq_true,Bool.not_true,cond_false,abk (show i<=9223372036854775000 by omega)])
  (by simp only [S47_5step,S47_5,abn,Nat.lt_irrefl,decide_false,cond_false])]
 rfl
theorem aox (l:List PV) (hl:l.length<=100000):F228 0 l l=some true:=by
 unfold F228
 simp only [bne_self_eq_false,cond_false,aan]
 rw [show (0:Int)=((0:Nat):Int) from rfl,aey (fun i=>(l,l,((i:Nat):Int))) l.length (.inr ()) (fun i hi=>by
  simp only [S228_5step,S228_5,abn,hi,decide_true,cond_true,aab,Int.toNat_natCast,bne_self_eq_false,Bool.not_false,imp,cond_false,abk (show i<=9223372036854775000 by omega)])
  (by simp only [S228_5step,S228_5,abn,Nat.lt_irrefl,decide_false,cond_false])]
 rfl
theorem azo {v:PV} (h:agc v):F111 0 v v=some true:=by
 obtain ⟨h1,h2,h3,h4,h5⟩:=h
 unfold F111
 simp only [bne_self_eq_false,beq_self_eq_true,Bool.not_true,cond_false,Bool.not_false,cond_true,aox _ h3,aoj _ h4,ads h5,Option.bind_some,aan]
 have lp:=aey (step:=S111_5step 0) (fun i=>((),(),((i:Nat):Int),(v.fld 0).asStr,(v.fld 1).asList,(v.fld 2).asList,(v.fld 3).asList,(v.fld 4).asList,(v.fld 0).asStr,(v.fld 1).asList,(v.fld 2).asList,(v.fld 3).asList,(v.fld 4).asList)) (v.fld 1).asList.length (.inr ((v.fld 0).asStr,(v.fld 1).asList,(v.fld 2).asList,(v.fld 3).asList,(v.fld 4).asList,(v.fld 0).asStr,(v.fld 1).asList,(v.fld 2).asList,(v.fld 3).asList,(v.fld 4).asList)) (fun i hi=>by
  simp only [S111_5step,S111_5,abn,hi,decide_true,cond_true,aab,Int.toNat_natCast,as4 (h2 _ (acs hi .bad)),Option.bind_some,Bool.not_true,cond_false,abk (show i<=9223372036854775000 by omega)])
  (by simp only [S111_5step,S111_5,abn,Nat.lt_irrefl,decide_false,cond_false])
 have lp:aba (S111_5step 0) ((),(),(0:Int),(v.fld 0).asStr,(v.fld 1).asList,(v.fld 2).asList,(v.fld 3).asList,(v.fld 4).asList,(v.fld 0).asStr,(v.fld 1).asList,(v.fld 2).asList,(v.fld 3).asList,(v.fld 4).asList)=_:=lp
 rw [lp]
 rfl
theorem a05 {v:PV} (h:adw v):F112 0 v v=some true:=by
 obtain ⟨h1,h2,h3,h4⟩:=h
 unfold F112
 simp only [bne_self_eq_false,beq_self_eq_true,Bool.not_true,cond_false,Bool.not_false,cond_true,aox _ h3,ads h4,Option.bind_some,aan]
 have lp:=aey (step:=S112_5step 0) (fun i=>((),(),((i:Nat):Int),(v.fld 0).asStr,(v.fld 1).asBool,(v.fld 2).asList,(v.fld 3).asList,(v.fld 4).asList,(v.fld 0).asStr,(v.fld 1).asBool,(v.fld 2).asList,(v.fld 3).asList,(v.fld 4).asList)) (v.fld 2).asList.length (.inr ((v.fld 0).asStr,(v.fld 1).asBool,(v.fld 2).asList,(v.fld 3).asList,(v.fld 4).asList,(v.fld 0).asStr,(v.fld 1).asBool,(v.fld 2).asList,(v.fld 3).asList,(v.fld 4).asList)) (fun i hi=>by
  have hn:ae8 (((v.fld 2).asList.getD i .bad).fld 2).asList:=h2 _ (acs hi .bad)
  simp only [S112_5step,S112_5,abn,hi,decide_true,cond_true,aab,Int.toNat_natCast,beq_self_eq_true,bne_self_eq_false,Bool.not_true,Bool.not_false,imp,cond_false,ads hn,Option.bind_some,abk (show i<=9223372036854775000 by omega)])
  (by simp only [S112_5step,S112_5,abn,Nat.lt_irrefl,decide_false,cond_false])
 have lp:aba (S112_5step 0) ((),(),(0:Int),(v.fld 0).asStr,(v.fld 1).asBool,(v.fld 2).asList,(v.fld 3).asList,(v.fld 4).asList,(v.fld 0).asStr,(v.fld 1).asBool,(v.fld 2).asList,(v.fld 3).asList,(v.fld 4).asList)=_:=lp
 rw [lp]
 rfl
theorem a3c {v:PV} (h:ar0 v):F113 0 v v=some true:=by
 obtain ⟨h1,h2,h3⟩:=h
 unfold F113
 simp only [bne_self_eq_false,beq_self_eq_true,Bool.not_true,cond_false,Bool.not_false,cond_true,ads h3,Option.bind_some,aan]
 have lp:=aey (step:=S113_5step 0) (fun i=>((),(),((i:Nat):Int),(v.fld 0).asStr,(v.fld 1).asList,(v.fld 2).asList,(v.fld 0).asStr,(v.fld 1).asList,(v.fld 2).asList)) (v.fld 1).asList.length (.inr ((v.fld 0).asStr,(v.fld 1).asList,(v.fld 2).asList,(v.fld 0).asStr,(v.fld 1).asList,(v.fld 2).asList)) (fun i hi=>by
  have hn:ae8 (((v.fld 1).asList.getD i .bad).fld 4).asList:=h2 _ (acs hi .bad)
  simp only [S113_5step,S113_5,abn,hi,decide_true,cond_true,aab,Int.toNat_natCast,beq_self_eq_true,bne_self_eq_false,Bool.not_true,Bool.not_false,imp,cond_false,ads hn,Option.bind_some,abk (show i<=9223372036854775000 by omega)])
  (by simp only [S113_5step,S113_5,abn,Nat.lt_irrefl,decide_false,cond_false])
 have lp:aba (S113_5step 0) ((),(),(0:Int),(v.fld 0).asStr,(v.fld 1).asList,(v.fld 2).asList,(v.fld 0).asStr,(v.fld 1).asList,(v.fld 2).asList)=_:=lp
 rw [lp]
 rfl
theorem a08 (ms es ss:List PV) (h1:ms.length<=100000) (h2:es.length<=100000) (h3:ss.length<=100000) (o1:∀ x,x∈ms->agc x) (o2:∀ x,x∈es->adw x) (o3:∀ x,x∈ss->ar0 x):
 F48 0 (PV.agg [PV.slice ms,PV.slice es,PV.slice ss]) (PV.agg [PV.slice ms,PV.slice es,PV.slice ss])=some true:=by
 obtain ⟨d,hd⟩:∃ d,d=PV.agg [PV.slice ms,PV.slice es,PV.slice ss]:=⟨_,rfl⟩
 have e0:(d.fld 0).asList=ms:=by rw [hd];rfl
 have e1:(d.fld 1).asList=es:=by rw [hd];rfl
 have e2:(d.fld 2).asList=ss:=by rw [hd];rfl
 rw [<-hd]
 have lp1:=aey (step:=S48_5step 0) (fun i=>((),(),((i:Nat):Int),d,d)) ms.length (.inr ((),(),d,d)) (fun i hi=>by
  simp only [S48_5step,S48_5,e0,abn,hi,decide_true,cond_true,aab,Int.toNat_natCast,azo (o1 _ (acs hi .bad)),Option.bind_some,Bool.not_true,cond_false,abk (show i<=9223372036854775000 by omega)])
  (by simp only [S48_5step,S48_5,e0,abn,Nat.lt_irrefl,decide_false,cond_false])
 have lp2:=aey (step:=S48_10step 0) (fun i=>((),(),((i:Nat):Int),d,d)) es.length (.inr ((),(),d,d)) (fun i hi=>by
  simp only [S48_10step,S48_10,e1,abn,hi,decide_true,cond_true,aab,Int.toNat_natCast,a05 (o2 _ (acs hi .bad)),Option.bind_some,Bool.not_true,cond_false,abk (show i<=9223372036854775000 by omega)])
  (by simp only [S48_10step,S48_10,e1,abn,Nat.lt_irrefl,decide_false,cond_false])
 have lp3:=aey (step:=S48_15step 0) (fun i=>((),(),((i:Nat):Int),d,d)) ss.length (.inr (d,d)) (fun i hi=>by
  simp only [S48_15step,S48_15,e2,abn,hi,decide_true,cond_true,aab,Int.toNat_natCast,a3c (o3 _ (acs hi .bad)),Option.bind_some,Bool.not_true,cond_false,abk (show i<=9223372036854775000 by omega)])
  (by simp only [S48_15step,S48_15,e2,abn,Nat.lt_irrefl,decide_false,cond_false])
 have lp1:aba (S48_5step 0) ((),(),(0:Int),d,d)=_:=lp1
 have lp2:aba (S48_10step 0) ((),(),(0:Int),d,d)=_:=lp2
 have lp3:aba (S48_15step 0) ((),(),(0:Int),d,d)=_:=lp3
 unfold F48
 simp only [bne_self_eq_false,cond_false,aan,lp1,lp2,lp3,Option.bind_some,aa2]
theorem al0 {v:PV} (h:atu v):F17 0 v v=some true:=by
 obtain ⟨h1,h2,h3,h4,o1,o2,o3⟩:=h
 unfold F17
 simp only [beq_self_eq_true,cond_true,aoj _ h1,Option.bind_some,a08 _ _ _ h2 h3 h4 o1 o2 o3]
end Go.Ab
namespace Go.Ab
open Go
set_option maxRecDepth 100000
noncomputable section
def scanG:Nat->Nat->List UInt8->List (Tk×Nat)⊕(Nat×Int)
 | 0,_,_=>.inl []
 | f+1,line,s=>
  match s.drop (skipS false s) with
  | []=>.inl []
  | c::r=>match anh (c::r) with
   | .inr e=>.inr (line+cnt10 (s.take (skipS false s)),e)
   | .inl (k,n)=>match scanG f (line+cnt10 (s.take (skipS false s))+cnt10 ((c::r).take n)) ((c::r).drop n) with
    | .inl l=>.inl ((k,line+cnt10 (s.take (skipS false s)))::l)
    | .inr p=>.inr p
def vTk (p:Tk×Nat):PV:=tokV p.1 p.2
theorem a9r:∀ (f line:Nat) (s:List UInt8) (acc:List PV),scanF f line s acc=match scanG f line s with | .inl l=>.inl (acc++l.map vTk) | .inr p=>.inr p:=by
 intro f
 induction f with
 | zero=>intro line s acc;simp [scanF,scanG]
 | succ f ih=>
  intro line s acc
  unfold scanF scanG
  cases hd:s.drop (skipS false s) with
  | nil=>simp
  | cons c r=>
   simp only
   cases hr:anh (c::r) with
   | inr e=>rfl
   | inl kn=>
    obtain ⟨k,n⟩:=kn
    simp only
    rw [ih]
    cases scanG f (line+cnt10 (s.take (skipS false s))+cnt10 ((c::r).take n)) ((c::r).drop n) with
    | inl l=>simp [vTk]
    | inr p=>rfl
theorem avu:∀ (f line:Nat) (s:List UInt8),s.length<=1048576->(∀ l,scanG f line s=.inl l->l.length<=s.length/\∀ p,p∈l->WfTk p.1/\p.1.s.length<=s.length/\line<=p.2/\p.2<=line+s.length)/\(∀ n e,scanG f line s=.inr (n,e)->e≠0/\line<=n/\n<=line+s.length):=by
 intro f
 induction f with
 | zero=>intro line s _;exact ⟨fun l h=>(by cases h;exact ⟨Nat.zero_le _,fun p hp=>by cases hp⟩),fun n e h=>by cases h⟩
 | succ f ih=>
  intro line s hs
  unfold scanG
  have hsk:=ap8 s false
  have hc:=aw1 (s.take (skipS false s))
  rw [List.length_take] at hc
  cases hd:s.drop (skipS false s) with
  | nil=>exact ⟨fun l h=>(by cases h;exact ⟨Nat.zero_le _,fun p hp=>by cases hp⟩),fun n e h=>by cases h⟩
  | cons c r=>
   have hlen:(c::r).length=s.length-skipS false s:=by rw [<-hd,List.length_drop]
   have hstop:=aoc s false c r hd
   simp only
   cases hr:anh (c::r) with
   | inr e=>
    have hx:=awz c r (by omega) hstop.1 hstop.2
    rw [hr] at hx
    refine ⟨fun l h=>(by cases h),fun n e' h=>?_⟩
    cases h
    cases hx with
    | er _ v m he _=>exact ⟨he,by omega,by omega⟩
   | inl kn=>
    obtain ⟨k,n⟩:=kn
    obtain ⟨hn1,hn2,hwf,hks⟩:=aps (by omega) hr
    have hc2:=aw1 ((c::r).take n)
    rw [List.length_take] at hc2
    have hrest:((c::r).drop n).length=s.length-skipS false s-n:=by rw [List.length_drop,hlen]
    obtain ⟨g1,g2⟩:=ih (line+cnt10 (s.take (skipS false s))+cnt10 ((c::r).take n)) ((c::r).drop n) (by omega)
    simp only
    cases hg:scanG f (line+cnt10 (s.take (skipS false s))+cnt10 ((c::r).take n)) ((c::r).drop n) with
    | inl l=>
     refine ⟨fun l' h=>?_,fun n e h=>by cases h⟩
     cases h
     obtain ⟨q1,q2⟩:=g1 l hg
     refine ⟨by simp only [List.length_cons];omega,fun p hp=>?_⟩
     rcases List.mem_cons.1 hp with rfl | hp
     ·exact ⟨hwf,by show k.s.length<=_;omega,by show line<=line+_;omega,by show line+_<=_;omega⟩
     ·obtain ⟨a1,a2,a3,a4⟩:=q2 p hp
      exact ⟨a1,by omega,by omega,by omega⟩
    | inr p=>
     obtain ⟨m,e⟩:=p
     refine ⟨fun l h=>(by cases h),fun n' e' h=>?_⟩
     cases h
     obtain ⟨a1,a2,a3⟩:=g2 m e hg
     exact ⟨a1,by omega,by omega⟩
theorem a0k (s:List UInt8):a68 s=match scanG (s.length+1) 1 s with | .inl l=>(l.map vTk,0,0) | .inr (n,e)=>([],(n:Int),e):=by
 unfold a68
 rw [a9r]
 cases scanG (s.length+1) 1 s<;>rfl
theorem ts_v (l:List (Tk×Nat)):ts (l.map vTk) 0=l.map (·.1):=by
 unfold ts
 rw [List.drop_zero,List.map_map]
 rfl
theorem bai {k:Tk} (h:WfTk k):-9223372036854775808<=k.n/\k.n<=9223372036854775807:=by
 rcases h with ⟨_,_,h⟩ | ⟨_,_,u,hu,h⟩ | ⟨_,h⟩ | ⟨_,h,_⟩
 ·rw [h];decide
 ·rw [h,IntKind.wrap_i64];omega
 ·rw [h];decide
 ·rw [h];decide
theorem a7q {l:List (Tk×Nat)}{n:Nat} (hn:n<=16384) (hl:l.length<=n) (h:∀ p,p∈l->WfTk p.1/\p.1.s.length<=n):TNum (l.map vTk):=
 { len:=by rw [List.length_map];omega
   txt:=fun x hx=>by
    obtain ⟨p,hp,rfl⟩:=List.mem_map.1 hx
    have:=(h p hp).2
    show p.1.s.length<=_
    omega
   num:=fun x hx=>by
    obtain ⟨p,hp,rfl⟩:=List.mem_map.1 hx
    exact bai (h p hp).1
   sml:=fun x hx=>by
    obtain ⟨p,hp,rfl⟩:=List.mem_map.1 hx
    have:=(h p hp).2
    show p.1.s.length<=_
    omega }
theorem axm (po:adf) (name:List UInt8) (l:List (Tk×Nat)) (ht:TNum (l.map vTk)) (h5:l.length<=100000):
 (∃ v r,azq parV aai name (l.map (·.1))=.ok v r/\(v.fld 0).asStr=name)∨∃ r e,azq parV aai name (l.map (·.1))=.er r e/\e≠0/\0<l.length:=by
 rw [<-ts_v,aj3]
 rcases aq1 po ht (by rw [List.length_map];exact h5) name with ⟨v,j,hj,_,hx,hy⟩ | ⟨j,e,z,hj,he,hx,hy⟩
 ·rw [hx];exact Or.inl ⟨_,_,rfl,rfl⟩
 ·rw [hx]
  refine Or.inr ⟨_,e,rfl,he,?_⟩
  rcases Nat.eq_zero_or_pos l.length with h | h
  ·have:l=[]:=List.eq_nil_of_length_eq_zero h
   subst this
   obtain ⟨v,hv⟩:=arv
   have hx:amf []=_:=hx
   rw [hv] at hx;cases hx
  ·exact h
theorem a5q (name src:List UInt8) (hl:src.length<=16384):F15 0 name src=some (match scanG (src.length+1) 1 src with | .inl l=>ajy name (l.map vTk) | .inr (n,e)=>(ae1,(n:Int),e)):=by
 have hs:=av6 src hl
 obtain ⟨g1,g2⟩:=avu (src.length+1) 1 src (by omega)
 rw [a0k] at hs
 cases h:scanG (src.length+1) 1 src with
 | inl l=>
  rw [h] at hs
  obtain ⟨q1,q2⟩:=g1 l h
  exact akh a7e name src _ 0 hs (a7q hl q1 fun p hp=>⟨(q2 p hp).1,(q2 p hp).2.1⟩) (by rw [List.length_map];omega)
 | inr p=>
  obtain ⟨n,e⟩:=p
  rw [h] at hs
  have he:=(g2 n e h).1
  unfold F15
  simp only [hs,Option.bind_some,bneI he,cond_true]
  rfl
end
end Go.Ab
namespace Go.Ab
open Go
set_option maxRecDepth 100000
noncomputable section
def wrT (k:Tk):List UInt8:=bif k.k==2 then decB (IntKind.wrap .u64 k.n).toNat else bif k.k==3 then aa4 k.s else k.s
theorem ava {u:Nat} (hu:u<18446744073709551616):IntKind.wrap .u64 (IntKind.wrap .i64 (u:Int))=(u:Int):=by
 rw [IntKind.wrap_u64,IntKind.wrap_i64];omega
theorem axp {x:PV} (h:WfTk (tkOf x)) (hl:(x.fld 1).asStr.length<=1048576):F65 0 x=some (wrT (tkOf x))/\wrT (tkOf x)≠[]:=by
 unfold F65 wrT
 have e0:(x.fld 0).asInt=(tkOf x).k:=rfl
 have e1:(x.fld 1).asStr=(tkOf x).s:=rfl
 have e2:(x.fld 2).asInt=(tkOf x).n:=rfl
 rw [e1] at hl
 simp only [e0,e1,e2]
 obtain ⟨k,hk⟩:∃ k,tkOf x=k:=⟨_,rfl⟩
 rw [hk] at h hl ⊢
 rcases h with ⟨h1,h2,h3⟩ | ⟨h1,h2,u,hu,h3⟩ | ⟨h1,h3⟩ | ⟨h1,h3,c,h2,h4⟩
 ·obtain ⟨y,t1,t2⟩:=al2 k.s hl
  have hne:k.s≠[]:=by intro h;rw [h] at h2;exact absurd h2 (by decide)
  refine ⟨?_,by rw [h1];exact hne⟩
  simp only [h1,h3,show ((1:Int)==2)=false from rfl,show ((0:Int) != 0)=false from rfl,show ((1:Int)==1)=true from rfl,show ((1:Int)==3)=false from rfl,cond_false,cond_true,t1,t2,h2,Option.bind_some]
 ·refine ⟨?_,by rw [h1];exact atz _⟩
  rw [h1,h2,h3,ava hu]
  simp only [show ((2:Int)==2)=true from rfl,cond_true,show (([]:List UInt8)==[])=true from rfl,fmtB hu,Option.bind_some,Int.toNat_natCast]
 ·refine ⟨?_,by rw [h1];obtain ⟨z,hz⟩:=an2 k.s;show aa4 k.s≠[];rw [hz];simp⟩
  have hq:=akz k.s hl
  simp only [h1,h3,show ((3:Int)==2)=false from rfl,show ((0:Int) != 0)=false from rfl,show ((3:Int)==1)=false from rfl,show ((3:Int)==3)=true from rfl,cond_false,cond_true,hq,Option.bind_some]
 ·refine ⟨?_,by rw [h1,h2];show [c]≠[];simp⟩
  simp only [h1,h2,h3,show ((4:Int)==2)=false from rfl,show ((0:Int) != 0)=false from rfl,show ((4:Int)==1)=false from rfl,show ((4:Int)==3)=false from rfl,show ((4:Int)==4)=true from rfl,cond_false,cond_true,atf,h4,Option.bind_some]
theorem avg {k:Tk} (h:WfTk k) (hl:k.s.length<=1048576) {s:List UInt8} (he:endN s):TokT (wrT k) s k:=by
 obtain ⟨kk,ks,kn⟩:=k
 rcases h with ⟨h1,h2,h3⟩ | ⟨h1,h2,u,hu,h3⟩ | ⟨h1,h3⟩ | ⟨h1,h3,c,h2,h4⟩
 ·simp only at h1 h2 h3;subst h1;subst h3;exact .name h2 he
 ·simp only at h1 h2 h3;subst h1;subst h2;subst h3
  show TokT (decB (IntKind.wrap .u64 (IntKind.wrap .i64 (u:Int))).toNat) s _
  rw [ava hu,Int.toNat_natCast]
  exact .int hu (fun c r e=>(he c r e).1)
 ·simp only at h1 h3;subst h1;subst h3;exact .text hl
 ·simp only at h1 h2 h3;subst h1;subst h2;subst h3;exact .sign h4
theorem a6a:∀ (n u:Nat),u<10^(n+1)->(Lib.decDigits u).length<=n+1:=by
 intro n
 induction n with
 | zero=>
  intro u hu
  rw [<-a1y,preD,if_pos (by omega)];simp
 | succ n ih=>
  intro u hu
  rw [<-a1y,preD]
  by_cases h:u<10
  ·rw [if_pos h];simp
  ·rw [if_neg h]
   have:=ih (u / 10) (by rw [Nat.pow_succ] at hu;omega)
   simp only [List.length_append,List.length_cons,List.length_nil];omega
theorem aw9 (M:Nat):∀ (l:List UInt8) (acc u:Nat),Lib.parseUintM M acc l=.ok u->u<(acc+1)*10^l.length:=by
 intro l
 induction l with
 | nil=>intro acc u h;cases h;simp
 | cons c r ih=>
  intro acc u h
  unfold Lib.parseUintM at h
  split at h
  ·split at h
   ·cases h
   ·split at h
    ·cases h
    ·have:=ih _ u h
     have h2:acc*10+(c.toNat-48)+1<=(acc+1)*10:=by omega
     calc u<(acc*10+(c.toNat-48)+1)*10^r.length:=this
      _<=(acc+1)*10*10^r.length:=Nat.mul_le_mul_right _ h2
      _=(acc+1)*10^(c::r).length:=by rw [List.length_cons,Nat.pow_succ,Nat.mul_assoc,Nat.mul_comm 10]
  ·cases h
theorem a09 {c:UInt8}{r:List UInt8} (hl:(c::r).length<=1048576) {k:Tk}{n:Nat} (h:anh (c::r)=.inl (k,n)):(wrT k).length<=n:=by
 rw [ajr] at h
 cases h1:adq c r with
 | true=>
  rw [h1] at h
  simp only [cond_true] at h
  unfold aoe at h
  cases ht:afw ((c::r).take (aff (c::r)))<;>rw [ht] at h<;>simp only [cond_true,cond_false] at h<;>cases h
  show ((c::r).take (aff (c::r))).length<=_
  rw [List.length_take];omega
 | false=>
  cases h2:digC c with
  | true=>
   rw [h1,h2] at h
   simp only [cond_true,cond_false] at h
   have hle:=ajp digC (c::r)
   have hpos:1<=runN digC (c::r):=by rw [ac4,if_pos h2];omega
   unfold axe at h
   cases hb:(decide (1<runN digC (c::r))&&(c::r).getD 0 0==48)||(decide (runN digC (c::r)<(c::r).length)&&alnB ((c::r).getD (runN digC (c::r)) 0))<;>rw [hb] at h<;>simp only [cond_true,cond_false] at h
   ·cases hp:Lib.parseUintB 64 ((c::r).take (runN digC (c::r))) with
    | ok u=>
     rw [hp] at h
     simp only [ab1,cond_true] at h
     cases h
     have hu:=asq hp
     have hpw:u<10^(runN digC (c::r)):=by
      unfold Lib.parseUintB at hp
      split at hp
      ·cases hp
      ·have:=aw9 _ _ 0 u hp
       rw [List.length_take,Nat.min_eq_left hle] at this
       omega
     show (decB (IntKind.wrap .u64 (IntKind.wrap .i64 (u:Int))).toNat).length<=_
     rw [ava hu,Int.toNat_natCast,agb (by omega)]
     obtain ⟨m,hm⟩:∃ m,runN digC (c::r)=m+1:=⟨runN digC (c::r)-1,by omega⟩
     rw [hm] at hpw ⊢
     exact a6a m u hpw
    | range=>rw [hp] at h;cases h
    | «syntax»=>rw [hp] at h;cases h
   ·cases h
  | false=>
   cases h3:(c==34) with
   | true=>
    rw [h1,h2,h3] at h
    simp only [cond_true,cond_false] at h
    unfold a3d unqV at h
    rcases amq (c::r) hl with ⟨a,q,ha,hy⟩ | ⟨_,hy⟩
    ·rw [hy] at h
     simp only [Option.getD_some,show ((0:Int)==0)=true from rfl,cond_true,Int.toNat_natCast] at h
     cases h
     exact Nat.le_refl _
    ·rw [hy] at h;cases h
   | false=>
    cases h4:af3 c with
    | true=>
     rw [h1,h2,h3,h4] at h
     simp only [cond_true,cond_false] at h
     cases h
     exact Nat.le_refl _
    | false=>rw [h1,h2,h3,h4] at h;cases h
def sumW (l:List (Tk×Nat)):Nat:=(l.map fun p=>(wrT p.1).length).sum
theorem az9:∀ (f line:Nat) (s:List UInt8),s.length<=1048576->∀ l,scanG f line s=.inl l->sumW l<=s.length:=by
 intro f
 induction f with
 | zero=>intro line s _ l h;cases h;exact Nat.zero_le _
 | succ f ih=>
  intro line s hs l h
  unfold scanG at h
  have hsk:=ap8 s false
  cases hd:s.drop (skipS false s) with
  | nil=>rw [hd] at h;cases h;exact Nat.zero_le _
  | cons c r=>
   have hlen:(c::r).length=s.length-skipS false s:=by rw [<-hd,List.length_drop]
   rw [hd] at h
   simp only at h
   cases hr:anh (c::r) with
   | inr e=>rw [hr] at h;cases h
   | inl kn=>
    obtain ⟨k,n⟩:=kn
    obtain ⟨hn1,hn2,_,_⟩:=aps (by omega) hr
    have hw:=a09 (by omega) hr
    rw [hr] at h
    simp only at h
    cases hg:scanG f (line+cnt10 (s.take (skipS false s))+cnt10 ((c::r).take n)) ((c::r).drop n) with
    | inl m=>
     rw [hg] at h
     cases h
     have:=ih _ _ (by rw [List.length_drop];omega) m hg
     rw [List.length_drop] at this
     simp only [sumW,List.map_cons,List.sum_cons] at this ⊢
     omega
    | inr p=>rw [hg] at h;cases h
def sepT (k:Tk) (last:Bool):List UInt8:=bif k.k==4&&(wrT k==[59]||wrT k==[123]||wrT k==[125]) then [10] else bif last then [] else [32]
def prT:List Tk->List UInt8
 | []=>[]
 | k::r=>wrT k++(sepT k r.isEmpty++prT r)
theorem a8y:∀ l:List Tk,(∀ k,k∈l->WfTk k/\k.s.length<=1048576)->TksT (prT l) l:=by
 intro l
 induction l with
 | nil=>intro _;exact .nil
 | cons k r ih=>
  intro h
  have hr:=ih fun x hx=>h x (by simp [hx])
  have hk:=h k (by simp)
  have fin:∀ s,(s=[]->r=[])->(s=[]∨s=[10]∨s=[32])->TksT (wrT k++(s++prT r)) (k::r):=fun s hs hc=>by
   rcases hc with rfl | rfl | rfl
   ·have hr0:=hs rfl
    subst hr0
    exact .tok (avg hk.1 hk.2 (fun c q e=>by cases e)) .nil
   ·exact .tok (avg hk.1 hk.2 (fun c q e=>by cases e;exact ⟨by decide,by decide⟩)) (.sp (Or.inr rfl) hr)
   ·exact .tok (avg hk.1 hk.2 (fun c q e=>by cases e;exact ⟨by decide,by decide⟩)) (.sp (Or.inl rfl) hr)
  show TksT (wrT k++(sepT k r.isEmpty++prT r)) (k::r)
  refine fin _ ?_ ?_
  ·unfold sepT
   cases (k.k==4&&(wrT k==[59]||wrT k==[123]||wrT k==[125])) with
   | true=>intro h;cases h
   | false=>
    cases hr0:r.isEmpty with
    | true=>intro _;simpa using hr0
    | false=>intro h;cases h
  ·unfold sepT
   cases (k.k==4&&(wrT k==[59]||wrT k==[123]||wrT k==[125])) with
   | true=>exact Or.inr (Or.inl rfl)
   | false=>
    cases r.isEmpty with
    | true=>exact Or.inl rfl
    | false=>exact Or.inr (Or.inr rfl)
theorem a74:∀ l:List Tk,(prT l).length<=(l.map fun k=>(wrT k).length).sum+l.length:=by
 intro l
 induction l with
 | nil=>exact Nat.zero_le _
 | cons k r ih=>
  have:(sepT k r.isEmpty).length<=1:=by
   unfold sepT
   cases (k.k==4&&(wrT k==[59]||wrT k==[123]||wrT k==[125]))<;>cases r.isEmpty<;>decide
  simp only [prT,List.length_append,List.map_cons,List.sum_cons,List.length_cons]
  omega
theorem ay9 (t:List PV) (hl:t.length<=100000) (hw:∀ x,x∈t->WfTk (tkOf x)/\(x.fld 1).asStr.length<=16384):∀ (m i:Nat) (acc:List UInt8),t.length-i<=m->i<=t.length->acc.length+(prT (ts t i)).length<=1000000->
 aba (S32_4step 0) (t,(),t,(t.length:Int),(i:Int),acc)=some (.inr ((),acc++prT (ts t i))):=by
 intro m
 induction m with
 | zero=>
  intro i acc hm hi hb
  have e:decide ((i:Int)<(t.length:Int))=false:=decide_eq_false (by omega)
  rw [aej (by omega)]
  refine aac ?_
  simp only [S32_4step,S32_4,e,cond_false,prT,List.append_nil]
 | succ m ih=>
  intro i acc hm hi hb
  by_cases h:i<t.length
  ·have e:decide ((i:Int)<(t.length:Int))=true:=decide_eq_true (by omega)
   have hx:=hw _ (acs h .bad)
   obtain ⟨w1,w2⟩:=axp hx.1 (by omega)
   rw [ac5 h] at hb ⊢
   obtain ⟨x,hxx⟩:∃ x,t.getD i .bad=x:=⟨_,rfl⟩
   rw [hxx] at w1 w2 hb ⊢
   obtain ⟨w,hww⟩:∃ w,wrT (tkOf x)=w:=⟨_,rfl⟩
   simp only [prT,List.length_append] at hb
   rw [hww] at w1 w2 hb
   have l1:Nat.ble (acc.length+w.length) 140737488355328=true:=by rw [Nat.ble_eq];omega
   have lw:abf 0 w acc=some ((w.length:Int),.nilIface,acc++w):=by unfold abf;rw [l1];rfl
   have lb:∀ c:Int,0<=c->c<=255->adk 0 c (acc++w)=some (.nilIface,acc++w++[UInt8.ofNat c.toNat]):=fun c h0 h1=>by
    unfold adk
    rw [decide_eq_true (show 0<=c/\c<=255 from ⟨h0,h1⟩),show Nat.ble ((acc++w).length+1) 140737488355328=true by rw [Nat.ble_eq,List.length_append];omega];rfl
   have we:(w==([]:List UInt8))=false:=neLs w2
   have ek:(x.fld 0).asInt=(tkOf x).k:=rfl
   have wi:IntKind.wrap .i64 ((i:Int)+1)=((i+1:Nat):Int):=abk (by omega)
   have wl:IntKind.wrap .i64 ((t.length:Int)-1)=(t.length:Int)-1:=by rw [abd (by omega) (by omega)]
   have hlast:(ts t (i+1)).isEmpty=decide (¬i+1<t.length):=by
    by_cases h2:i+1<t.length
    ·rw [ac5 h2,decide_eq_false (by omega)];rfl
    ·rw [aej (by omega),decide_eq_true h2];rfl
   have dl:decide ((i:Int)<(t.length:Int)-1)=decide (i+1<t.length):=decide_eq_decide.2 (by omega)
   have st:S32_4step 0 (t,(),t,(t.length:Int),(i:Int),acc)=some (.inl (t,(),t,(t.length:Int),((i+1:Nat):Int),acc++w++sepT (tkOf x) (ts t (i+1)).isEmpty)):=by
    simp only [S32_4step,S32_4,e,cond_true,aab,h,decide_true,Int.toNat_natCast,hxx,w1,Option.bind_some,we,cond_false,lw,ek,wi,wl,dl,lb 10 (by decide) (by decide),lb 32 (by decide) (by decide)]
    unfold sepT
    rw [hlast,hww]
    cases ((tkOf x).k==4)<;>cases (w==[59])<;>cases (w==[123])<;>cases (w==[125])<;>by_cases h2:i+1<t.length<;>simp [h2]
   rw [aaw st,ih (i+1) _ (by omega) (by omega) (by simp only [List.length_append];omega)]
   simp only [prT,hww,List.append_assoc]
  ·have e:decide ((i:Int)<(t.length:Int))=false:=decide_eq_false (by omega)
   rw [aej (by omega)]
   refine aac ?_
   simp only [S32_4step,S32_4,e,cond_false,prT,List.append_nil]
theorem a0y (t:List PV) (hl:t.length<=100000) (hw:∀ x,x∈t->WfTk (tkOf x)/\(x.fld 1).asStr.length<=16384) (hb:(prT (ts t 0)).length<=16384):F32 0 t=some (prT (ts t 0)):=by
 have lp:=ay9 t hl hw t.length 0 [] (by omega) (by omega) (by simp;omega)
 have lp:aba (S32_4step 0) (t,(),t,(t.length:Int),(0:Int),[])=_:=lp
 have d:decide (((prT (ts t 0)).length:Int)>16384)=false:=decide_eq_false (by omega)
 unfold F32
 rw [aan,lp]
 simp only [List.nil_append,Option.bind_some,aa2,a8m,d,cond_false,alx]
theorem avp (name src:List UInt8):F10 0 name src=some true:=by
 unfold F10
 by_cases h1:src.length>6000
 ·rw [decide_eq_true (show (src.length:Int)>6000 by omega)];rfl
 rw [decide_eq_false (show ¬(src.length:Int)>6000 by omega)]
 have hs:=av6 src (by omega)
 rw [a0k] at hs
 have p1:=a5q name src (by omega)
 obtain ⟨g1,g2⟩:=avu (src.length+1) 1 src (by omega)
 have zz:F17 0 ae1 (PV.agg [(PV.str ([]:List UInt8)),(PV.str ([]:List UInt8)),(PV.slice []),(PV.slice []),(PV.slice []),(PV.slice [])])=some true:=al0 aij
 have zz1:F17 0 ae1 ae1=some true:=al0 aij
 cases h:scanG (src.length+1) 1 src with
 | inr p=>
  obtain ⟨n,e⟩:=p
  have he:=(g2 n e h).1
  rw [h] at hs p1
  simp only [cond_false,hs,Option.bind_some,bneI he,cond_true,p1,beq_self_eq_true,zz,aev]
 | inl l=>
  obtain ⟨q1,q2⟩:=g1 l h
  have hsum:=az9 _ _ src (by omega) l h
  rw [h] at hs p1
  have hwf:∀ x,x∈l.map vTk->WfTk (tkOf x)/\(x.fld 1).asStr.length<=16384:=fun x hx=>by
   obtain ⟨p,hp,rfl⟩:=List.mem_map.1 hx
   exact ⟨(q2 p hp).1,by have:=(q2 p hp).2.1;show p.1.s.length<=_;omega⟩
  have hpl:=a74 (l.map (·.1))
  have hss:((l.map (·.1)).map fun k:Tk=>(wrT k).length).sum=sumW l:=by rw [List.map_map];rfl
  rw [hss,List.length_map] at hpl
  have hpr:=a0y (l.map vTk) (by rw [List.length_map];omega) hwf (by rw [ts_v];omega)
  rw [ts_v] at hpr
  have htk:=a8y (l.map (·.1)) fun k hk=>by
   obtain ⟨p,hp,rfl⟩:=List.mem_map.1 hk
   exact ⟨(q2 p hp).1,by have:=(q2 p hp).2.1;omega⟩
  obtain ⟨xs2,s2,m2,o2⟩:=a5w (by omega) htk
  have hx2l:xs2.length=l.length:=by have:=congrArg List.length m2;simpa using this
  have hmem:∀ x,x∈xs2->∃ p,p∈l/\tkOf x=p.1:=fun x hx=>by
   have:tkOf x∈xs2.map tkOf:=List.mem_map_of_mem hx
   rw [m2] at this
   obtain ⟨p,hp,e⟩:=List.mem_map.1 this
   exact ⟨p,hp,e.symm⟩
  have hsml:∀ x,x∈xs2->(x.fld 1).asStr.length<=16384:=fun x hx=>by
   obtain ⟨p,hp,e⟩:=hmem x hx
   have:=(q2 p hp).2.1
   have e1:(x.fld 1).asStr=p.1.s:=congrArg Tk.s e
   rw [e1];omega
  have ht2:TNum xs2:={ len:=by omega,txt:=fun x hx=>(o2 x hx).2,num:=fun x hx=>(o2 x hx).1,sml:=hsml }
  have p2:=akh a7e name (prT (l.map (·.1))) xs2 0 s2 ht2 (by omega)
  have hts:ts xs2 0=l.map (·.1):=by unfold ts;rw [List.drop_zero,m2]
  have d:decide (((prT (l.map (·.1))).length:Int)>16384)=false:=decide_eq_false (by omega)
  have ht:=a7q (n:=src.length) (by omega) q1 fun p hp=>⟨(q2 p hp).1,(q2 p hp).2.1⟩
  have ok1:=a7g a7e name (l.map vTk) ht (by rw [List.length_map];omega)
  simp only [cond_false,hs,Option.bind_some,show ((0:Int) != 0)=false from rfl,p1,hpr,d,p2]
  rcases axm a7e name l ht (by omega) with ⟨v,r,hf,hnm⟩ | ⟨r,e,hf,he,hl0⟩
  ·have f1:ajy name (l.map vTk)=(v,0,0):=by unfold ajy;rw [ts_v,hf]
   have f2:ajy name xs2=(v,0,0):=by unfold ajy;rw [hts,hf]
   rw [f1] at ok1
   simp only [f1,f2,beq_self_eq_true,cond_true,al0 ok1,Option.bind_some,aev]
  ·have f1:ajy name (l.map vTk)=(ae1,a2x (l.map vTk) ((l.map vTk).length-r.length),e):=by unfold ajy;rw [ts_v,hf]
   have f2:ajy name xs2=(ae1,a2x xs2 (xs2.length-r.length),e):=by unfold ajy;rw [hts,hf]
   simp only [f1,f2,beq_self_eq_true,cond_true,zz1,Option.bind_some,aev]
end
end Go.Ab
