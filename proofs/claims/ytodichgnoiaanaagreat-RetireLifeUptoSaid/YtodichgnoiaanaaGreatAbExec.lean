/- The evaluator is sound: regions, code. -/
import Derived.Test.YtodichgnoiaanaaGreatAbCall
set_option linter.unusedVariables false
set_option linter.unusedSimpArgs false
set_option linter.unnecessarySimpa false
namespace Go.Ab
open Go
section
variable {Γ:Ctx}{D:Dom}{ow:Own}{μ:Nat->Nat}{st:List BX}{w:World}
theorem axt {ρ:Nat->Option Nat}{γ:Nat->Nat}{st0:List BX}:∀ {l l':List BX}{j:Nat},a01 st0 ρ γ j l=some l'->l'.length=l.length/\∀ (i:Nat) (x:BX),l[i]?=some x->∃ y,l'[i]?=some y/\agw st0 ρ γ (j+i) x=some y:=by
 intro l
 induction l with
 | nil=>intro l' j h;simp only [a01,Option.some.injEq] at h;subst h;exact ⟨rfl,fun i x hx=>by simp at hx⟩
 | cons b r ih=>
  intro l' j h
  simp only [a01] at h
  split at h
  ·rename_i x q hx hq
   simp only [Option.some.injEq] at h;subst h
   obtain ⟨h1,h2⟩:=ih hq
   refine ⟨by simp [h1],fun i y hy=>?_⟩
   cases i with
   | zero=>simp at hy;subst hy;exact ⟨x,by simp,hx⟩
   | succ i=>
    obtain ⟨z,hz1,hz2⟩:=h2 i y (by simpa using hy)
    exact ⟨z,by simpa using hz1,by rw [show j+(i+1)=j+1+i by omega];exact hz2⟩
  ·cases h
theorem asz:∀ (ks:List Nat) (bs st:List BX),ks.Nodup->ks.length<=bs.length->(∀ k,k∈ks->k<st.length)->
 (abi ks bs st).length=st.length+(bs.length-ks.length)/\(∀ k,k<st.length->k∉ks->(abi ks bs st)[k]?=st[k]?)/\(∀ (j k:Nat),ks[j]?=some k->(abi ks bs st)[k]?=bs[j]?)/\
 (∀ i,(abi ks bs st)[st.length+i]?=bs[ks.length+i]?):=by
 intro ks
 induction ks with
 | nil=>
  intro bs st _ _ _
  refine ⟨by simp [abi],fun k hk _=>by simp [abi,List.getElem?_append_left hk],fun j k h=>by simp at h,fun i=>by simp [abi,List.getElem?_append_right]⟩
 | cons x r ih=>
  intro bs st hn hl hlt
  cases bs with
  | nil=>simp at hl
  | cons b q=>
   obtain ⟨n1,n2⟩:=List.nodup_cons.1 hn
   have hx:x<st.length:=hlt x (by simp)
   obtain ⟨h1,h2,h3,h4⟩:=ih q (st.set x b) n2 (by simpa using hl) (fun k hk=>by simpa using hlt k (by simp [hk]))
   simp only [abi]
   refine ⟨by rw [h1];simp,fun k hk hkn=>?_,fun j k hj=>?_,fun i=>?_⟩
   ·have hkr:k∉r:=fun h=>hkn (by simp [h])
    have hkx:k≠x:=fun h=>hkn (by simp [h])
    rw [h2 k (by simpa using hk) hkr,List.getElem?_set_ne (by omega)]
   ·cases j with
    | zero=>
     simp at hj;subst hj
     rw [h2 x (by simpa using hx) n1,List.getElem?_set_self hx]
     simp
    | succ j=>
     simp at hj
     rw [h3 j k hj]
     simp
   ·have:=h4 i
    simp only [List.length_set] at this
    rw [this]
    simp [Nat.add_right_comm]
def aja (ow:Own) (n:Nat) (ks:List Nat) (ow':Own):Own:=fun b=>
 match ow' b with
 | some j=>acg n ks j
 | none=>match ow b with | some k=>if k∈ks then none else some k | none=>none
def ahv (st:List BX) (μ μ':Nat->Nat) (n:Nat) (ks:List Nat):Nat->Nat:=fun k=>if k<n then (match st[k]? with | some (.arr _ _ _)=>(if k∈ks then μ' (idx k ks) else μ k) | _=>μ k) else μ' (k-n+ks.length)
theorem ac4 (hw:WRel Γ D ow μ st w) {ks:List Nat} (hn:ks.Nodup) {sub:List BX} (hsub:agb st (ab8 ks) (fun _=>0) ks=some sub) {args as:List SV} (has:renL st (ab8 ks) (fun _=>0) args=some as) {vals:Array Value} (hsz:vals.size=args.length)
 (hargs:∀ (i:Nat) (s:SV) (v:Value),args[i]?=some s->vals[i]?=some v->SRep Γ.P D w ow μ st s v) {f:FuncId}{rs:List SV}{sub':List BX} (hm:Meets Γ.P f as sub rs sub') {rs':List SV}{bs:List BX} (hb:ad8 st ks rs sub'=some (rs',bs)):
 Calls Γ.P f vals w fun e w'=>∃ v D' ow2 μ2,e=agj rs' v/\WRel Γ D' ow2 μ2 (abi ks bs st) w'/\Moves D w ow μ st D' w' ow2 μ2 (abi ks bs st)/\ahq Γ.P D' w' ow2 μ2 (abi ks bs st) rs' v:=by
 obtain ⟨hsl,hspec⟩:=ahm ks sub hsub
 have em:=Emb.sub (ow:=ow) (μ:=μ) hn hsub
 obtain ⟨hal,hag⟩:=agx has
 have tabs:Tabs Γ.P (afi ow ks) w:=by
  intro p hp g hg
  obtain ⟨h1,cs,T,fr,h2,h3⟩:=Γ.tabs p hp g hg
  have hlt:g<Γ.B:=by rw [Γ.hB];exact (Array.getElem?_eq_some_iff.1 h2).1
  have hon:ow g=none:=by
   cases ho:ow g with
   | none=>rfl
   | some k=>have:=hw.owN g k ho hlt;rw [h1] at this;cases this
  exact ⟨by simp [afi,hon],cs,T,fr,by rw [hw.old g hlt h1];exact h2,h3⟩
 have pre:Pre Γ.P D (afi ow ks) (fun j=>μ (ks.getD j 0)) sub w as vals:=by
  refine ⟨by rw [hsz,hal],fun i s v hs hv=>?_,hw.objs.sub hn hsub,tabs⟩
  obtain ⟨y,hy,hyx⟩:=hag i s hs
  exact ad7 em (hargs i y v hy hv) hyx
 refine (hm.2 D (afi ow ks) (fun j=>μ (ks.getD j 0)) w vals pre).mono fun e w' ⟨v,D',he,hp⟩=>?_
 obtain ⟨ow',μ',hr⟩:=hp.rest
 unfold ad8 at hb
 split at hb
 case h_2=>cases hb
 rename_i rs1 bs1 hrs hbs
 simp only [Option.some.injEq,Prod.mk.injEq] at hb
 obtain ⟨rfl,rfl⟩:=hb
 obtain ⟨hbl,hbspec⟩:=axt hbs
 have hle:sub.length<=sub'.length:=by
  rcases Nat.lt_or_ge sub'.length sub.length with h | h
  ·obtain ⟨b',h1,_⟩:=hr.keep sub'.length _ (List.getElem?_eq_getElem h)
   rw [List.getElem?_eq_none (Nat.le_refl _)] at h1;cases h1
  ·exact h
 have ksl:∀ k,k∈ks->k<st.length:=by
  intro k hk
  obtain ⟨j,hj⟩:=List.mem_iff_getElem?.1 hk
  obtain ⟨b,b',h1,_⟩:=hspec j k hj
  exact (List.getElem?_eq_some_iff.1 h1).1
 obtain ⟨bl,bo,bk,bn⟩:=asz ks bs1 st hn (by omega) ksl
 generalize hB:abi ks bs1 st=B at*
 have hBl:B.length=st.length+(sub'.length-ks.length):=by rw [bl,hbl]
 -- by the callee's numbers
 have rhoK:∀ (j k:Nat),ks[j]?=some k->acg st.length ks j=some k:=fun j k h=>by unfold acg;rw [h]
 have rhoN:∀ (j:Nat),ks.length<=j->acg st.length ks j=some (st.length+(j-ks.length)):=fun j h=>by unfold acg;rw [List.getElem?_eq_none h]
 have rhoInv:∀ (j k:Nat),acg st.length ks j=some k->ks[j]?=some k∨(ks.length<=j/\k=st.length+(j-ks.length)):=by
  intro j k h
  unfold acg at h
  cases hj:ks[j]? with
  | some k'=>rw [hj] at h;exact Or.inl h
  | none=>rw [hj] at h;simp only [Option.some.injEq] at h;exact Or.inr ⟨List.getElem?_eq_none_iff.1 hj,h.symm⟩
 have atB:∀ (j k:Nat),acg st.length ks j=some k->B[k]?=bs1[j]?:=by
  intro j k h
  rcases rhoInv j k h with h | ⟨h1,h2⟩
  ·exact bk j k h
  ·rw [h2,bn,show ks.length+(j-ks.length)=j by omega]
 -- what was there,by its sort
 have keepK:∀ (j k:Nat) (b:BX),ks[j]?=some k->st[k]?=some b->∃ b1,sub'[j]?=some b1/\b1.kind=b.kind/\((∀ g,b≠.acc g)->(∀ E g xs,b≠.arr E g xs)->μ' j=μ k):=by
  intro j k b hj hk
  obtain ⟨b0,b',h1,h2,h3⟩:=hspec j k hj
  rw [hk] at h1;cases h1
  obtain ⟨q1,q2⟩:=acf h2
  obtain ⟨b1,r1,r2,r3⟩:=hr.keep j b' h3
  refine ⟨b1,r1,r2.trans q1,fun hacc harr=>?_⟩
  have:=r3 (afb q1 hacc) (arf q1 harr)
  rw [this];simp [List.getD,hj]
 have muk:∀ k,k<st.length->k∉ks->ahv st μ μ' st.length ks k=μ k:=by
  intro k hk hks
  simp only [ahv,hk,if_true]
  split
  ·simp [hks]
  ·rfl
 have mukB:∀ k b,st[k]?=some b->(∀ E g xs,b≠.arr E g xs)->ahv st μ μ' st.length ks k=μ k:=by
  intro k b hb hne
  have hk:=(List.getElem?_eq_some_iff.1 hb).1
  simp only [ahv,hk,if_true]
  split
  ·rename_i E g xs h;rw [hb] at h;cases h;exact absurd rfl (hne _ _ _)
  ·rfl
 have mukA:∀ j k E g xs,ks[j]?=some k->st[k]?=some (.arr E g xs)->ahv st μ μ' st.length ks k=μ' j:=by
  intro j k E g xs hj hb
  have hk:=(List.getElem?_eq_some_iff.1 hb).1
  have hks:=List.mem_of_getElem? hj
  have e:idx k ks=j:=amh hn (apg (List.any_eq_true.2 ⟨k,hks,Nat.beq_refl k⟩)) hj
  simp only [ahv,hk,if_true,hb,hks,e]
 have mb:Emb (acg st.length ks) (afq st ks sub') ow' μ' sub' (aja ow st.length ks ow') (ahv st μ μ' st.length ks) B:=by
  refine ⟨fun j k b hk hj=>?_,fun j k b hk hob=>by simp only [aja,hob];exact hk⟩
  obtain ⟨y,hy1,hy2⟩:=hbspec j b hj
  rw [Nat.zero_add] at hy2
  obtain ⟨q1,q2⟩:=acf hy2
  refine ⟨y,by rw [atB j k hk];exact hy1,q1,fun hacc=>?_,q2⟩
  rcases rhoInv j k hk with h | ⟨h1,h2⟩
  ·have hkl:=ksl k (List.mem_of_getElem? h)
   have hst:st[k]?=some st[k]:=List.getElem?_eq_getElem hkl
   obtain ⟨b1,r1,r2,r3⟩:=keepK j k _ h hst
   rw [hj] at r1;cases r1
   by_cases ha:∃ E g xs,st[k]=.arr E g xs
   ·obtain ⟨E,g,xs,ha⟩:=ha
    rw [ha] at hst
    exact mukA j k E g xs h hst
   ·have hna:∀ E g xs,st[k]≠.arr E g xs:=fun E g xs e=>ha ⟨E,g,xs,e⟩
    rw [mukB k _ hst hna]
    exact (r3 (afb r2.symm hacc) hna).symm
  ·have:¬k<st.length:=by omega
   simp only [ahv,this,if_false]
   rw [show k-st.length+ks.length=j by omega]
 have notin:∀ b,(∀ k,k∈ks->ow b≠some k)->b<w.heap.size->w'.heap[b]?=w.heap[b]?:=fun b hb hlt=>hp.old b hlt (akf hb)
 have keep:∀ b k,ow b=some k->k∉ks->w'.heap[b]?=w.heap[b]?:=fun b k ob hk=>notin b (fun k' hk' e=>by rw [ob] at e;cases e;exact hk hk') (hw.owlt b k ob).1
 have noD:∀ b k,ow b=some k->k∉ks->∀ o,D' b o->D b o:=by
  intro b k ob hk o d
  rcases hp.new b o d with h | h | h
  ·exact h
  ·have:=(hw.owlt b k ob).1;omega
  ·exact absurd (akf (fun k' hk' e=>by rw [ob] at e;cases e;exact hk hk')) h
 have ob2:∀ b k,k∉ks->ow b=some k->aja ow st.length ks ow' b=some k:=by
  intro b k hk ob
  have hn':ow' b=none:=by
   cases h:ow' b with
   | none=>rfl
   | some j=>
    obtain ⟨k',hj,ob'⟩:=ad6 (hr.own b j h (hw.owlt b k ob).1)
    rw [ob] at ob';cases ob'
    exact absurd (List.mem_of_getElem? hj) hk
  simp only [aja,hn',ob,hk,if_false]
 have ob3:∀ b k,aja ow st.length ks ow' b=some k->(k∉ks/\ow b=some k)∨∃ j,acg st.length ks j=some k/\ow' b=some j:=by
  intro b k h
  unfold aja at h
  split at h
  ·rename_i j hj;exact Or.inr ⟨j,h,hj⟩
  ·split at h
   ·rename_i k' hk'
    split at h
    ·cases h
    ·rename_i hnk;cases h;exact Or.inl ⟨hnk,hk'⟩
   ·cases h
 -- each thing of before
 have same:∀ (k:Nat) (b:BX),st[k]?=some b->k∉ks->B[k]?=some b:=fun k b h hk=>by rw [bo k (List.getElem?_eq_some_iff.1 h).1 hk];exact h
 have kindB:∀ (k:Nat) (b:BX),st[k]?=some b->∃ b',B[k]?=some b'/\b'.kind=b.kind:=by
  intro k b h
  by_cases hk:k∈ks
  ·obtain ⟨j,hj⟩:=List.mem_iff_getElem?.1 hk
   obtain ⟨b1,r1,r2,_⟩:=keepK j k b hj h
   obtain ⟨y,hy1,hy2⟩:=hbspec j b1 r1
   exact ⟨y,by rw [bk j k hj];exact hy1,(acf hy2).1.trans r2⟩
  ·exact ⟨b,same k b h hk,rfl⟩
 have m:Moves D w ow μ st D' w' (aja ow st.length ks ow') (ahv st μ μ' st.length ks) B:=by
  refine ⟨hp.dom,hp.keeps,fun k T s e=>⟨mukB k _ e (by simp),?_⟩,fun k K E es e=>⟨mukB k _ e (by simp),?_⟩,fun k b e hs=>⟨mukB k _ e (fun E g xs hb=>by subst hb;exact hs rfl),?_⟩,fun k E g xs e=>?_,fun k g e=>?_⟩
  ·obtain ⟨b',h1,h2⟩:=kindB k _ e
   obtain ⟨s',rfl⟩:=ak8 h2
   exact ⟨s',h1⟩
  ·obtain ⟨b',h1,h2⟩:=kindB k _ e
   obtain ⟨s',rfl⟩:=avr h2
   exact ⟨s',h1⟩
  ·obtain ⟨b',h1,h2⟩:=kindB k _ e
   refine ⟨b',h1,?_⟩
   cases b with
   | iter s p=>obtain ⟨s',p',rfl⟩:=azw h2;rfl
   | bld T s=>obtain ⟨s',rfl⟩:=avq h2;rfl
   | mit K E es=>
    cases b'<;>simp [BX.kind] at h2
    obtain ⟨rfl,rfl⟩:=h2;rfl
   | _=>exact absurd rfl hs
  ·by_cases hk:k∈ks
   ·obtain ⟨j,hj⟩:=List.mem_iff_getElem?.1 hk
    obtain ⟨b1,r1,r2,_⟩:=keepK j k _ hj e
    obtain ⟨g1,ys,rfl⟩:=ahc r2
    obtain ⟨b',h1,_,_,_,h5⟩:=mb.obj j k _ (rhoK j k hj) r1
    have h5:=h5 _ _ _ rfl
    rw [h5] at h1
    have hgam:afq st ks sub' j=(bif Nat.beq g1 0 then g else g+1):=by unfold afq;simp only [hj,e,r1]
    rw [hgam] at h1
    refine ⟨_,_,h1,?_,fun hgg=>?_⟩
    ·cases Nat.beq g1 0<;>simp
    ·have hg1:g1=0:=by
      cases hb:Nat.beq g1 0 with
      | true=>exact Nat.eq_of_beq_eq_true hb
      | false=>rw [hb] at hgg;simp at hgg
     subst hg1
     obtain ⟨b0,b2,q1,q2,q3⟩:=hspec j k hj
     rw [e] at q1;cases q1
     have q2:=(acf q2).2.2 _ _ _ rfl
     rw [q2] at q3
     obtain ⟨s1,s2⟩:=hr.same j E 0 xs ys q3 r1
     refine ⟨s1,fun cur hc hoj=>?_⟩
     have hgd:ks.getD j 0=k:=by simp [List.getD,hj]
     obtain ⟨t1,t2,cur',t3,t4⟩:=s2 cur (by simp only [hgd];exact hc) (by simp only [hgd];exact apx hn hj hoj)
     simp only [hgd] at t1 t2 t3
     refine ⟨(mukA j k E g xs hj e).trans t1,?_,cur',t3,t4⟩
     simp only [aja,t2]
     exact rhoK j k hj
   ·refine ⟨g,xs,same k _ e hk,Nat.le_refl _,fun _=>⟨rfl,fun cur hc hoj=>?_⟩⟩
    exact ⟨muk k (List.getElem?_eq_some_iff.1 e).1 hk,ob2 _ k hk hoj,cur,(keep _ k hoj hk).trans hc,rfl⟩
  ·by_cases hk:k∈ks
   ·obtain ⟨j,hj⟩:=List.mem_iff_getElem?.1 hk
    obtain ⟨b1,r1,r2,_⟩:=keepK j k _ hj e
    obtain ⟨g1,rfl⟩:=a3a r2
    obtain ⟨b',h1,_,_,h4,_⟩:=mb.obj j k _ (rhoK j k hj) r1
    have:=h4 ⟨_,rfl⟩
    rw [this] at h1
    have hg:afq st ks sub' j=g+1:=by unfold afq;rw [hj];simp only [e]
    rw [hg] at h1
    exact ⟨g+1,h1,by omega,fun h=>by omega⟩
   ·exact ⟨g,same k _ e hk,Nat.le_refl _,fun _ b ob=>⟨keep b k ob hk,ob2 b k hk ob,noD b k ob hk⟩⟩
 -- each thing of behind
 have which:∀ (k:Nat) (b:BX),B[k]?=some b->(k∉ks/\st[k]?=some b)∨∃ j b1,acg st.length ks j=some k/\sub'[j]?=some b1/\agw sub' (acg st.length ks) (afq st ks sub') j b1=some b:=by
  intro k b h
  have fromJ:∀ j,acg st.length ks j=some k->∃ j b1,acg st.length ks j=some k/\sub'[j]?=some b1/\agw sub' (acg st.length ks) (afq st ks sub') j b1=some b:=by
   intro j hj
   have h2:=atB j k hj
   rw [h] at h2
   have hlt:j<sub'.length:=by rw [<-hbl];exact (List.getElem?_eq_some_iff.1 h2.symm).1
   obtain ⟨y,hy1,hy2⟩:=hbspec j _ (List.getElem?_eq_getElem hlt)
   rw [Nat.zero_add] at hy2
   rw [<-h2] at hy1;cases hy1
   exact ⟨j,_,hj,List.getElem?_eq_getElem hlt,hy2⟩
  by_cases hk:k∈ks
  ·obtain ⟨j,hj⟩:=List.mem_iff_getElem?.1 hk
   exact Or.inr (fromJ j (rhoK j k hj))
  ·by_cases hlt:k<st.length
   ·rw [bo k hlt hk] at h;exact Or.inl ⟨hk,h⟩
   ·exact Or.inr (fromJ (k-st.length+ks.length) (by rw [rhoN _ (by omega)];congr 1;omega))
 have objB:∀ (k:Nat) (b:BX),B[k]?=some b->ObjIn Γ.P D' w' (aja ow st.length ks ow') (ahv st μ μ' st.length ks) B k b:=by
  intro k b h
  rcases which k b h with ⟨hk,h1⟩ | ⟨j,b1,hj,h1,h2⟩
  ·have hlt:=(List.getElem?_eq_some_iff.1 h1).1
   cases b with
   | box T s=>
    obtain ⟨c,T',q1,q2,q3,q4,q5⟩:=hw.box k T s h1
    exact BoxRep.mono ⟨c,T',q1,q2,q3,q4,q5⟩ m (muk k hlt hk) (keep _ k q3 hk) (ob2 _ k hk q3) (fun o d=>q4 o (noD _ _ q3 hk o d))
   | map K E es=>
    obtain ⟨ents,clock,kc,vc,q1,q2,q3⟩:=hw.map k K E es h1
    exact OMapRep.mono ⟨ents,clock,kc,vc,q1,q2,q3⟩ m.dom m.keeps (muk k hlt hk) (keep _ k q2 hk) (ob2 _ k hk q2) (fun o d=>q3.1 o (noD _ _ q2 hk o d))
   | acc g=>trivial
   | hole=>trivial
   | _=>exact (hw.obj k _ h1).mono m.dom m.keeps (fun _=>muk k hlt hk) (fun c oc=>⟨keep c k oc hk,ob2 c k hk oc,noD c k oc hk⟩)
  ·exact (hr.objs.obj j b1 h1).ren mb h1 hj h2
 have par':∀ k,k<Γ.np->∃ b,B[k]?=some b/\b.kind=Γ.K0 k:=by
  intro k hk
  obtain ⟨x,hx,p1⟩:=hw.par k hk
  obtain ⟨b',h1,h2⟩:=kindB k x hx
  exact ⟨b',h1,h2.trans p1⟩
 obtain ⟨hres,hend⟩:=axu mb hr.res hrs
 rw [<-hend] at he
 refine ⟨v,D',_,_,he,⟨fun k T s e=>objB k _ e,fun k K E es e=>objB k _ e,fun k b e=>?_,fun b k ob=>?_,hr.objs.dlt,hp.os.trans hw.os,hp.tape.trans hw.tape,hp.output.trans hw.output,Nat.le_trans hw.hs hp.size,
  fun b hb hn0=>?_,fun b o d=>hp.dom b o (hw.dom0 b o d),fun b o d=>?_,fun b k ob hb=>?_,by rw [hBl];have:=hw.np;omega,fun k hk hK=>?_,par',fun b k y ob e hy o d=>?_,hw.keep0.trans hp.keeps hw.dom0,hw.arr0_moves m par'⟩,m,hres⟩
 ·have:=objB k b e
  cases b with
  | box T s=>trivial
  | map K E es=>trivial
  | acc g=>trivial
  | hole=>trivial
  | _=>exact this
 ·rcases ob3 b k ob with ⟨_,h⟩ | ⟨j,hj,h⟩
  ·exact ⟨Nat.lt_of_lt_of_le (hw.owlt b k h).1 hp.size,by rw [hBl];have:=(hw.owlt b k h).2;omega⟩
  ·have h1:=hr.objs.owlt b j h
   refine ⟨h1.1,?_⟩
   rw [hBl]
   rcases rhoInv j k hj with h2 | ⟨h2,h3⟩
   ·have:=ksl k (List.mem_of_getElem? h2);omega
   ·omega
 ·have hlt:b<w.heap.size:=Nat.lt_of_lt_of_le hb hw.hs
  refine (notin b (fun k hk e=>?_) hlt).trans (hw.old b hb hn0)
  have:=hw.owN b k e hb
  rw [hn0] at this;cases this
 ·rcases hp.new b o d with d | d | d
  ·exact hw.domN b o d
  ·exact Or.inr (Or.inl (Nat.le_trans hw.hs d))
  ·cases ho:ow b with
   | none=>exact absurd (by simp [afi,ho]) d
   | some k=>
    by_cases hb:b<Γ.B
    ·exact Or.inr (Or.inr (by rw [hw.owN b k ho hb];simp))
    ·exact Or.inr (Or.inl (by omega))
 ·rcases ob3 b k ob with ⟨_,h⟩ | ⟨j,hj,h⟩
  ·exact hw.owN b k h hb
  ·obtain ⟨k',hj',h'⟩:=ad6 (hr.own b j h (Nat.lt_of_lt_of_le hb hw.hs))
   rw [rhoK j k' hj'] at hj;cases hj
   exact hw.owN b k h' hb
 ·obtain ⟨x,hx,p1⟩:=hw.par k hk
  rw [mukB k x hx (fun E g xs hb=>by subst hb;exact hK E p1.symm)]
  exact hw.mu0 k hk hK
 ·rcases ob3 b k ob with ⟨hk,h⟩ | ⟨j,hj,h⟩
  ·rcases which k y e with ⟨_,h1⟩ | ⟨j,b1,hj,_,_⟩
   ·exact hw.lone b k y h h1 hy o (noD b k h hk o d)
   ·rcases rhoInv j k hj with h2 | ⟨_,h3⟩
    ·exact absurd (List.mem_of_getElem? h2) hk
    ·have:=(hw.owlt b k h).2;omega
  ·have h2:=atB j k hj
   rw [e] at h2
   have hlt:j<sub'.length:=by rw [<-hbl];exact (List.getElem?_eq_some_iff.1 h2.symm).1
   obtain ⟨z,hz1,hz2⟩:=hbspec j _ (List.getElem?_eq_getElem hlt)
   rw [<-h2] at hz1;cases hz1
   exact hr.objs.lone b j _ h (List.getElem?_eq_getElem hlt) (afb (acf hz2).1.symm hy) o d
end
mutual
theorem amw {γ γ':Nat->Nat}{ρ:Nat->Option Nat}:∀ (s s':SV),renS [] (fun _=>none) γ s=some s'->renS [] ρ γ' s=some s'
 | .fn f n caps,s',h=>by
  simp only [renS] at h ⊢
  split at h
  ·rename_i cs hc;rw [aji caps cs hc];exact h
  ·cases h
 | .agg T fs,s',h=>by
  simp only [renS] at h ⊢
  split at h
  ·rename_i cs hc;rw [aji fs cs hc];exact h
  ·cases h
 | .ifc T s,s',h=>by
  simp only [renS] at h ⊢
  split at h
  ·rename_i x hx;rw [amw s x hx];exact h
  ·cases h
 | .pan s,s',h=>by
  simp only [renS] at h ⊢
  split at h
  ·rename_i x hx;rw [amw s x hx];exact h
  ·cases h
 | .acc k g E xs,s',h=>by
  simp only [renS,Option.some.injEq] at h ⊢
  subst h
  have:ana [] k g=false:=rfl
  rw [this]
  split<;>rfl
 | .ref k p T,s',h=>by simp [renS] at h
 | .bref k T,s',h=>by simp [renS] at h
 | .mref k,s',h=>by simp [renS] at h
 | .arr k g E,s',h=>by simp [renS] at h
 | .aref k g i E p T,s',h=>by simp [renS] at h
 | .eref k i E,s',h=>by simp [renS] at h
 | .asl k lo n E,s',h=>by simp [renS] at h
 | .iref k,s',h=>by simp [renS] at h
 | .gd _ _ _,s',h=>by simp [renS] at h
 | .nx _ _ _,s',h=>by simp [renS] at h
 | .tup _,s',h=>by simp [renS] at h
 | .mitr _,s',h=>by simp [renS] at h
 | .sln _ _,s',h=>h
 | .undef,s',h=>h
 | .bool _,s',h=>h
 | .int _ _,s',h=>h
 | .str _,s',h=>h
 | .slice _ _,s',h=>h
 | .data _ _,s',h=>h
 | .map _ _ _,s',h=>h
 | .nils,s',h=>h
 | .eif _,s',h=>h
 | .pto _ _,s',h=>h
 | .raw _,s',h=>h
 | .lit _ _,s',h=>h
theorem aji {γ γ':Nat->Nat}{ρ:Nat->Option Nat}:∀ (l l':List SV),renL [] (fun _=>none) γ l=some l'->renL [] ρ γ' l=some l'
 | [],l',h=>h
 | s::r,l',h=>by
  simp only [renL] at h ⊢
  split at h
  ·rename_i x q hx hq
   rw [amw s x hx,aji r q hq]
   exact h
  ·cases h
end
theorem aek {rs:List SV}{sub:List BX}{rs':List SV} (h:aev rs sub=some rs') (st:List BX):ad8 st [] rs sub=some (rs',[]):=by
 unfold aev at h
 split at h
 ·unfold ad8
  rw [aji rs rs' h]
  rfl
 ·cases h
theorem a4u {rs:List SV}{sub:List BX}{rs':List SV} (h:aev rs sub=some rs'):sub=[]:=by
 unfold aev at h
 split at h
 ·rfl
 ·cases h
mutual
theorem amv {γ:Nat->Nat} (st st':List BX):∀ (s:SV),renS st (ab8 []) γ s=renS st' (ab8 []) γ s
 | .fn f n caps=>by simp only [renS];rw [afl st st' caps]
 | .agg T fs=>by simp only [renS];rw [afl st st' fs]
 | .ifc T s=>by simp only [renS];rw [amv st st' s]
 | .pan s=>by simp only [renS];rw [amv st st' s]
 | .acc k g E xs=>by simp only [renS];rfl
 | .ref k p T=>rfl
 | .bref k T=>rfl
 | .mref k=>rfl
 | .arr k g E=>rfl
 | .aref k g i E p T=>rfl
 | .eref k i E=>rfl
 | .asl k lo n E=>rfl
 | .iref k=>rfl
 | .gd _ _ _=>rfl
 | .nx _ _ _=>rfl
 | .tup _=>rfl
 | .undef=>rfl
 | .bool _=>rfl
 | .int _ _=>rfl
 | .str _=>rfl
 | .slice _ _=>rfl
 | .data _ _=>rfl
 | .map _ _ _=>rfl
 | .nils=>rfl
 | .eif _=>rfl
 | .pto _ _=>rfl
 | .raw _=>rfl
 | .lit _ _=>rfl
 | .sln _ _=>rfl
 | .mitr _=>rfl
theorem afl {γ:Nat->Nat} (st st':List BX):∀ (l:List SV),renL st (ab8 []) γ l=renL st' (ab8 []) γ l
 | []=>rfl
 | s::r=>by simp only [renL];rw [amv st st' s,afl st st' r]
end
mutual
theorem akd (st st':List BX):∀ (s:SV),al6 false st s=al6 false st' s
 | .fn f n caps=>by simp only [al6];rw [afv st st' caps]
 | .agg T fs=>by simp only [al6];rw [afv st st' fs]
 | .ifc T s=>by simp only [al6];rw [akd st st' s]
 | .pan s=>by simp only [al6];rw [akd st st' s]
 | .acc k g E xs=>rfl
 | .ref k p T=>rfl
 | .bref k T=>rfl
 | .mref k=>rfl
 | .arr k g E=>rfl
 | .aref k g i E p T=>rfl
 | .eref k i E=>rfl
 | .asl k lo n E=>rfl
 | .iref k=>rfl
 | .gd _ _ _=>rfl
 | .nx _ _ _=>rfl
 | .tup _=>rfl
 | .undef=>rfl
 | .bool _=>rfl
 | .int _ _=>rfl
 | .str _=>rfl
 | .slice _ _=>rfl
 | .data _ _=>rfl
 | .map _ _ _=>rfl
 | .nils=>rfl
 | .eif _=>rfl
 | .pto _ _=>rfl
 | .raw _=>rfl
 | .lit _ _=>rfl
 | .sln _ _=>rfl
 | .mitr _=>rfl
theorem afv (st st':List BX):∀ (l:List SV),afd false st l=afd false st' l
 | []=>rfl
 | s::r=>by simp only [afd];rw [akd st st' s,afv st st' r]
end
theorem agv {st st':List BX}{args:List SV} (h:aap st args=[]):aap st' args=[]:=by
 have h1:=auf h
 unfold aap
 rw [afv st' st,h1]
 rfl
def aai (C:Cfg):Prop:=∀ (R:Type) (b:Bool) (f:FuncId) (as:List SV) (st:List BX) (K:List SV->List BX->Option R) (r:R),C.call R b f as st K=some r->
 (b=true->∃ rs st',K rs st'=some r/\Meets C.P f as st rs st')/\∃ rs st',K rs st'=some r
def GInv (e:Env) (l:List Oper):Prop:=∀ t u want x,e t=.gd u want x->u∉dsts l
section
variable {Γ:Ctx}
theorem afo {ops:Array Oper}{o:Oper}{j t:Nat}{want:Bool}{tmps:Array Value} (hg:o.guard=some (j,want)) (ht:(ops[j]?).bind (·.dst)=some t):Region.wanted o (yielded ops tmps)=true ↔ tmps.getD t Go.undef=.bool want:=by
 have e:tmps.getD t Go.undef=(tmps[t]?).getD Go.undef:=by simp
 simp only [Region.wanted,hg,yielded,ht,Option.bind_some]
 rw [e]
 cases h:tmps[t]? with
 | none=>simp [Go.undef]
 | some v=>cases v<;>simp
theorem GInv.sub {e:Env}{o:Oper}{l:List Oper} (h:GInv e (o::l)):GInv e l:=fun t u want x he hm=>h t u want x he (by
 unfold dsts at*
 simp only [List.filterMap_cons]
 split
 ·exact hm
 ·exact List.mem_cons_of_mem _ hm)
theorem GInv.clean {e:Env}{o:Oper}{l:List Oper} (h:GInv e (o::l)) {d:Nat} (hd:o.dst=some d):awf e d:=fun t u want x he hu=>h t u want x he (by
 unfold dsts
 simp [List.filterMap_cons,hd,hu])
theorem GInv.put {e:Env}{o:Oper}{l:List Oper} (h:GInv e (o::l)) (s:SV) (hs:∀ u want x,s=.gd u want x->u∉dsts (o::l)):GInv (Ab.put e o.dst s) l:=by
 intro t u want x he hm
 have hm':u∈dsts (o::l):=by
  unfold dsts at*
  simp only [List.filterMap_cons]
  split
  ·exact hm
  ·exact List.mem_cons_of_mem _ hm
 cases hd:o.dst with
 | none=>rw [hd] at he;exact h t u want x he hm'
 | some d=>
  rw [hd] at he
  simp only [Ab.put,Env.set] at he
  cases hb:Nat.beq t d with
  | true=>rw [hb] at he;exact hs u want x he hm'
  | false=>rw [hb] at he;exact h t u want x he hm'
theorem ae4 {C:Cfg}{o:Oper} (h:akz C.n o.dst=true):∀ x,o.dst=some x->x<C.n:=by
 intro x hx
 rw [hx] at h
 exact Nat.le_of_ble_eq_true h
theorem afz {D:Dom}{ow:Own}{μ:Nat->Nat}{e:Env}{st st':List BX}{a:Act}{w:World}{C:Cfg} (hn:Γ.n=C.n) (hs:Slots Γ D ow μ e st a w) {o:Oper}{l:List Oper} (hd:akz C.n o.dst=true) (hg:GInv e (o::l)) {v:SV}{r:Result Next}
 (h:OpRes Γ D ow μ st w r v st') (s:SV) (hslot:∀ (D':Dom) (w':World) (ow':Own) (μ':Nat->Nat) (u:Value),SRep Γ.P D' w' ow' μ' st' v u->SlotRep Γ.P D' w' ow' μ' st' a s u) (hsg:∀ t want x,s=.gd t want x->t∉dsts (o::l))
 (next:Act->World->Prop) (Q:Exit->Act->World->Prop) (hnext:∀ a' w',Rel Γ (put e o.dst s) st' a' w'->next a' w'):o.upon Γ.P a next Q r:=by
 obtain ⟨u,w',D',ow',μ',hr,hw,hm,hv⟩:=h
 have hrel:Rel Γ (put e o.dst s) st' (a.put o.dst u) w':=by
  refine ⟨D',ow',μ',hw,(hs.mono hm).put o.dst s u (fun x hx=>⟨by rw [hn];exact ae4 hd x hx,hg.clean hx⟩) (hslot _ _ _ _ _ hv) (fun t want x hh hdt=>?_)⟩
  exact hsg t want x hh (by unfold dsts;simp [List.filterMap_cons,hdt])
 rcases hr with hr | ⟨hr,hu⟩
 ·rw [hr,Oper.upon_value];exact hnext _ _ hrel
 ·rw [hr,Oper.upon_skip,<-hu];exact hnext _ _ hrel
def PRel (Γ:Ctx) (s:SV) (st:List BX) (v:Value) (a:Act) (w:World):Prop:=a.defers=[]/\∃ D ow μ,WRel Γ D ow μ st w/\SRep Γ.P D w ow μ st s v
theorem ad3 {R:Type}{rs:List SV}{k:Option R}{x:SV->Option R}{r:R} (h:fork rs k x=some r):(∃ s,rs=[.pan s]/\x s=some r)∨((∀ s,rs≠[.pan s])/\k=some r):=by
 unfold fork at h
 split at h
 ·rename_i s;exact Or.inl ⟨s,rfl,h⟩
 ·rename_i hne;exact Or.inr ⟨fun s e=>hne s e,h⟩
theorem ac8 {R:Type}{rs:List SV}{k:Option R}{r:R} (h:fork rs k (fun _=>none)=some r):(∀ s,rs≠[.pan s])/\k=some r:=by
 rcases ad3 h with ⟨s,_,h⟩ | h
 ·cases h
 ·exact h
theorem aui {R:Type}{C:Cfg} (hC:aai C) (hP:C.P=Γ.P) (hn:Γ.n=C.n) (hnp:Γ.np=C.np) {ops:Array Oper}{i:Nat}{o:Oper} (ho:ops[i]?=some o) {rest:List Oper}{e:Env}{st:List BX}{K:Env->List BX->Option R}{X:SV->List BX->Option R}{r:R} (h:a04 C ops o rest e st K X=some r)
 {a:Act}{w:World} (hrel:Rel Γ e st a w) (hg:GInv e (o::rest)) (next:Act->World->Prop) (Q:Exit->Act->World->Prop)
 (hnext:∀ e' st' a' w',K e' st'=some r->GInv e' rest->Rel Γ e' st' a' w'->next a' w') (hX:∀ s st' v a' w',X s st'=some r->PRel Γ s st' v a' w'->Q (.panic [{ v,recovered:=false }]) a' w'):wpOp Γ.P ops Q i next a w:=by
 obtain ⟨D,ow,μ,hw,hs⟩:=hrel
 unfold a04 at h
 cases hd:akz C.n o.dst with
 | false=>rw [hd] at h;simp at h
 | true=>
 rw [hd] at h
 simp only [cond_true,hP] at h
 unfold wpOp
 simp only [ho]
 have hη:∀ f,a.eval (.func f)=.func (.func f) #[] #[]:=fun f=>rfl
 cases hgd:o.guard with
 | none=>
  have hw1:Region.wanted o (yielded ops a.tmps)=true:=by simp [Region.wanted,hgd]
  simp only [hw1,if_true]
  refine Or.inl ?_
  unfold Oper.wp
  rw [hgd] at h
  simp only at h
  have hρ:∀ x,SRep Γ.P D w ow μ st (opd e [] x) (a.eval x):=fun x=>abm hs [] (fun _ hx=>by cases hx) x
  have noGd:∀ v:SV,(∀ u,SRep Γ.P D w ow μ st v u->True)->True:=fun _ _=>trivial
  split at h
  ·simp at h
  ·rename_i c v hac
   cases c with
   | false=>simp at h
   | true=>
    simp only [cond_true] at h
    have hres:=aej hw hρ o (ρt:=match o.op with | .pick (.tmp t) _ _=>opd e [(t,true)] | _=>opd e []) (ρf:=match o.op with | .pick (.tmp t) _ _=>opd e [(t,false)] | _=>opd e []) (fun c x y hop=>by
     rw [hop]
     refine ⟨fun hc=>?_,fun hc=>?_⟩
     ·cases c with
      | tmp t=>exact abm hs [(t,true)] (fun z hz=>by simp at hz;subst hz;exact hc) x
      | _=>exact hρ x
     ·cases c with
      | tmp t=>exact abm hs [(t,false)] (fun z hz=>by simp at hz;subst hz;exact hc) y
      | _=>exact hρ y) v hac
    have hng:∀ t want x,v=.gd t want x->t∉dsts (o::rest):=by
     intro t want x hv
     obtain ⟨u,w',D',ow',μ',_,_,_,hv'⟩:=hres
     subst hv;cases hv'
    exact afz hn hs hd hg hres v (fun _ _ _ _ _ h=>h.slot) hng next Q (fun a' w' hr=>hnext _ _ a' w' h (hg.put v hng) hr)
  ·rename_i c v st' hac
   cases c with
   | false=>simp at h
   | true=>
    simp only [cond_true] at h
    have hres:=akk hw hρ o v st' hac
    have hng:∀ t want x,v=.gd t want x->t∉dsts (o::rest):=by
     intro t want x hv
     obtain ⟨u,w',D',ow',μ',_,_,_,hv'⟩:=hres
     subst hv;cases hv'
    exact afz hn hs hd hg hres v (fun _ _ _ _ _ h=>h.slot) hng next Q (fun a' w' hr=>hnext _ _ a' w' h (hg.put v hng) hr)
  ·rename_i v hac
   obtain ⟨u,hrun,hu⟩:=aqk hρ o v hac
   rw [hrun,Oper.upon_panic]
   exact hX v st u a w h ⟨hs.defers,D,ow,μ,hw,hu⟩
  ·rename_i f args hac
   cases hfz:(C.frz f&&Nat.beq C.np 0) with
   | true=>
    rw [hfz] at h
    simp only [cond_true] at h
    simp only [Bool.and_eq_true] at hfz
    have h0:Γ.np=0:=hnp.trans (Nat.eq_of_beq_eq_true hfz.2)
    split at h
    case h_2=>cases h
    rename_i as1 hr1
    split at h
    case h_2=>cases h
    rename_i as has
    obtain ⟨vals,hrun,hsz,hargs⟩:=abt hρ hη o f args hac
    obtain ⟨l1,hargs1⟩:=aw9 hw rfl hargs hr1
    obtain ⟨rs,sub',hK,hm⟩:=(hC R true f as [] _ r h).1 rfl
    split at hK
    case h_2=>cases hK
    rename_i rs' hback
    rw [hP] at hm
    rw [hrun,hm.1 vals w,Oper.upon_enter]
    refine (ac4 (hw.letGo h0 (ao1 args)) (ks:=[]) (by simp) (sub:=[]) rfl has (hsz.trans l1.symm) hargs1 hm (aek hback [])).mono fun en w' ⟨v,D',ow2,μ2,he,h1,h2,h3⟩=>?_
    obtain ⟨hne,hK⟩:=ac8 hK
    rcases abw h3 with ⟨s,e,_⟩ | ⟨_,h3,hend⟩
    ·exact absurd e (hne s)
    rw [hend] at he
    subst he
    have hbk:abi [] [] ([]:List BX)=[]:=by simp [abi]
    rw [hbk] at h1 h2 h3
    have hng:∀ t want x,adf rs'=.gd t want x->t∉dsts (o::rest):=by
     intro t want x hv;rw [hv] at h3;cases h3
    have hs0:Slots Γ D' ow2 μ2 (fun _=>.undef) [] a w':=⟨hs.size,hs.defers,fun t=>.undef⟩
    have hg0:GInv (fun _=>.undef) (o::rest):=fun t u want x h=>by cases h
    refine hnext _ _ _ _ hK (hg0.put _ hng) ⟨D',ow2,μ2,h1,hs0.put o.dst _ v (fun x hx=>⟨by rw [hn];exact ae4 hd x hx,fun t u want x h=>by cases h⟩) h3.slot (fun t want x hh hdt=>?_)⟩
    exact hng t want x hh (by unfold dsts;simp [List.filterMap_cons,hdt])
   | false=>
   rw [hfz] at h
   simp only [cond_false] at h
   split at h
   ·rename_i as sub has hsub
    obtain ⟨vals,hrun,hsz,hargs⟩:=abt hρ hη o f args hac
    obtain ⟨rs,sub',hK,hm⟩:=(hC R true f as sub _ r h).1 rfl
    split at hK
    case h_2=>cases hK
    rename_i rs' bs hback
    rw [hP] at hm
    rw [hrun,hm.1 vals w,Oper.upon_enter]
    refine (ac4 hw (ada _ _) hsub has hsz hargs hm hback).mono fun en w' ⟨v,D',ow2,μ2,he,h1,h2,h3⟩=>?_
    rcases ad3 hK with ⟨s,rfl,hK⟩ | ⟨hne,hK⟩
    ·subst he
     exact hX s _ v a w' hK ⟨hs.defers,D',ow2,μ2,h1,h3⟩
    rcases abw h3 with ⟨s,e,_⟩ | ⟨_,h3,hend⟩
    ·exact absurd e (hne s)
    rw [hend] at he
    subst he
    have hng:∀ t want x,adf rs'=.gd t want x->t∉dsts (o::rest):=by
     intro t want x hv;rw [hv] at h3;cases h3
    refine hnext _ _ _ _ hK (hg.put _ hng) ⟨D',ow2,μ2,h1,(hs.mono h2).put o.dst _ v (fun x hx=>⟨by rw [hn];exact ae4 hd x hx,hg.clean hx⟩) h3.slot (fun t want x hh hdt=>?_)⟩
    exact hng t want x hh (by unfold dsts;simp [List.filterMap_cons,hdt])
   ·simp at h
 | some jw=>
  obtain ⟨j,want⟩:=jw
  rw [hgd] at h
  simp only at h
  cases ht:(ops[j]?).bind (·.dst) with
  | none=>rw [ht] at h;simp at h
  | some t=>
   rw [ht] at h
   simp only at h
   cases hmem:(dsts (o::rest)).any (Nat.beq t) with
   | true=>rw [hmem] at h;simp at h
   | false=>
    rw [hmem] at h
    simp only [cond_false] at h
    have htn:t∉dsts (o::rest):=fun hm=>by
     have:(dsts (o::rest)).any (Nat.beq t)=true:=List.any_eq_true.2 ⟨t,hm,Nat.beq_refl t⟩
     rw [hmem] at this;cases this
    cases hgv:gval e 8 t want with
    | none=>rw [hgv] at h;simp at h
    | some b=>
     rw [hgv] at h
     simp only at h
     have hiff:=ae7 hs 8 t want b hgv
     have hwi:=afo (tmps:=a.tmps) hgd ht
     have hsgd:∀ v:SV,∀ t' want' x,SV.gd t want v=.gd t' want' x->t'∉dsts (o::rest):=fun v t' want' x he=>by cases he;exact htn
     -- where it does not run
     have skip:∀ v:SV,b=false->Rel Γ (put e o.dst (.gd t want v)) st (a.put o.dst Go.undef) w:=by
      intro v hb
      have hne:a.tmps.getD t Go.undef≠.bool want:=fun hh=>by have:=hiff.1 hh;rw [hb] at this;cases this
      refine ⟨D,ow,μ,hw,hs.put o.dst _ Go.undef (fun x hx=>⟨by rw [hn];exact ae4 hd x hx,hg.clean hx⟩) ⟨fun hh=>absurd hh hne,fun _=>rfl⟩ (fun t' want' x hh hdt=>?_)⟩
      exact hsgd v t' want' x hh (by unfold dsts;simp [List.filterMap_cons,hdt])
     cases hb:b with
     | false=>
      have hw0:Region.wanted o (yielded ops a.tmps)=false:=by
       cases hc:Region.wanted o (yielded ops a.tmps) with
       | false=>rfl
       | true=>have:=hiff.1 (hwi.1 hc);rw [hb] at this;cases this
      simp only [hw0,Bool.false_eq_true,if_false]
      split at h
      ·rename_i c v hac
       have hi:imp b c=true:=by rw [hb];cases c<;>rfl
       rw [hi] at h
       exact hnext _ _ _ _ h (hg.put _ (hsgd v)) (skip v hb)
      ·rename_i f args hac
       split at h
       ·obtain ⟨rs,sub',hK⟩:=(hC R b f _ [] _ r h).2
        split at hK
        case h_2=>cases hK
        exact hnext _ _ _ _ (ac8 hK).2 (hg.put _ (hsgd _)) (skip _ hb)
       ·rw [hb] at h
        simp only [cond_false] at h
        exact hnext _ _ _ _ h (hg.put _ (hsgd _)) (skip _ hb)
      ·simp at h
     | true=>
      have hgt:a.tmps.getD t Go.undef=.bool want:=hiff.2 hb
      have hw1:Region.wanted o (yielded ops a.tmps)=true:=hwi.2 hgt
      simp only [hw1,if_true]
      refine Or.inl ?_
      unfold Oper.wp
      have hρ:∀ x,SRep Γ.P D w ow μ st (opd e [(t,want)] x) (a.eval x):=fun x=>abm hs [(t,want)] (fun z hz=>by simp at hz;subst hz;exact hgt) x
      split at h
      ·rename_i c v hac
       have hc:c=true:=by
        rw [hb] at h
        cases c with
        | true=>rfl
        | false=>simp [imp] at h
       subst hc
       have hi:imp b true=true:=rfl
       rw [hi] at h
       simp only [cond_true] at h
       have hres:=aej hw hρ o (ρt:=match o.op with | .pick (.tmp u) _ _=>opd e [(u,true),(t,want)] | _=>opd e []) (ρf:=match o.op with | .pick (.tmp u) _ _=>opd e [(u,false),(t,want)] | _=>opd e []) (fun c x y hop=>by
        rw [hop]
        refine ⟨fun hc=>?_,fun hc=>?_⟩
        ·cases c with
         | tmp u=>exact abm hs [(u,true),(t,want)] (fun z hz=>by simp at hz;rcases hz with rfl | rfl;exact hc;exact hgt) x
         | _=>exact abm hs [] (fun _ hx=>by cases hx) x
        ·cases c with
         | tmp u=>exact abm hs [(u,false),(t,want)] (fun z hz=>by simp at hz;rcases hz with rfl | rfl;exact hc;exact hgt) y
         | _=>exact abm hs [] (fun _ hx=>by cases hx) y) v hac
       exact afz hn hs hd hg hres (.gd t want v) (fun _ _ _ _ _ h=>⟨fun _=>h,fun hh=>absurd hgt hh⟩) (hsgd v) next Q (fun a' w' hr=>hnext _ _ a' w' h (hg.put _ (hsgd v)) hr)
      ·rename_i f args hac
       split at h
       ·rename_i as hks has
        obtain ⟨vals,hrun,hsz,hargs⟩:=abt hρ hη o f args hac
        obtain ⟨rs,sub',hK,hm⟩:=(hC R b f as [] _ r h).1 hb
        split at hK
        case h_2=>cases hK
        rename_i rs' hback
        rw [hP] at hm
        rw [hrun,hm.1 vals w,Oper.upon_enter]
        refine (ac4 hw (ks:=[]) (by simp) (sub:=[]) rfl has hsz hargs hm (aek hback st)).mono fun en w' ⟨v,D',ow2,μ2,he,h1,h2,h3⟩=>?_
        obtain ⟨hne,hK⟩:=ac8 hK
        rcases abw h3 with ⟨s,e,_⟩ | ⟨_,h3,hend⟩
        ·exact absurd e (hne s)
        rw [hend] at he
        subst he
        have hbk:abi [] [] st=st:=by simp [abi]
        rw [hbk] at h1 h2 h3
        refine hnext _ _ _ _ hK (hg.put _ (hsgd _)) ⟨D',ow2,μ2,h1,(hs.mono h2).put o.dst _ v (fun x hx=>⟨by rw [hn];exact ae4 hd x hx,hg.clean hx⟩) ⟨fun _=>h3,fun hh=>absurd hgt hh⟩ (fun t' want' x hh hdt=>?_)⟩
        exact hsgd _ t' want' x hh (by unfold dsts;simp [List.filterMap_cons,hdt])
       ·rw [hb] at h
        simp only [cond_true] at h
        split at h
        case h_2=>cases h
        rename_i as sub has hsub
        obtain ⟨vals,hrun,hsz,hargs⟩:=abt hρ hη o f args hac
        obtain ⟨rs,sub',hK,hm⟩:=(hC R true f as sub _ r h).1 rfl
        split at hK
        case h_2=>cases hK
        rename_i rs' bs hback
        rw [hP] at hm
        rw [hrun,hm.1 vals w,Oper.upon_enter]
        refine (ac4 hw (ada _ _) hsub has hsz hargs hm hback).mono fun en w' ⟨v,D',ow2,μ2,he,h1,h2,h3⟩=>?_
        rcases ad3 hK with ⟨s,rfl,hK⟩ | ⟨hne,hK⟩
        ·subst he
         exact hX s _ v a w' hK ⟨hs.defers,D',ow2,μ2,h1,h3⟩
        rcases abw h3 with ⟨s,e,_⟩ | ⟨_,h3,hend⟩
        ·exact absurd e (hne s)
        rw [hend] at he
        subst he
        refine hnext _ _ _ _ hK (hg.put _ (hsgd _)) ⟨D',ow2,μ2,h1,(hs.mono h2).put o.dst _ v (fun x hx=>⟨by rw [hn];exact ae4 hd x hx,hg.clean hx⟩) ⟨fun _=>h3,fun hh=>absurd hgt hh⟩ (fun t' want' x hh hdt=>?_)⟩
        exact hsgd _ t' want' x hh (by unfold dsts;simp [List.filterMap_cons,hdt])
      ·simp at h
end
end Go.Ab
