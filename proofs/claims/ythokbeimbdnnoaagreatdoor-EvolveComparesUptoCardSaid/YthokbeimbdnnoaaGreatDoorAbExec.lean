/- The evaluator is sound: regions, code. -/
import Derived.Test.YthokbeimbdnnoaaGreatDoorAbCall
set_option linter.unusedVariables false
set_option linter.unusedSimpArgs false
set_option linter.unnecessarySimpa false
namespace Go.Ab
open Go
section
variable {Γ:Ctx}{D:Dom}{ow:Own}{μ:Nat->Nat}{st:List BX}{w:World}
theorem awk {ρ:Nat->Option Nat}{Z:Nat->Nat}{H:List BX}:∀ {l o:List BX}{j:Nat},azo H ρ Z j l=some o->o.length=l.length/\∀ (i:Nat) (x:BX),l[i]?=some x->∃ y,o[i]?=some y/\ag6 H ρ Z (j+i) x=some y:=by
 intro l;induction l with
 | nil=>intro o j h;simp only [azo,Al] at h;subst h;exact ⟨rfl,λi x I=>by simp at I⟩
 | cons b r ih=>
  intro o j h;simp only [azo] at h;split at h
  ·rename_i x q I hq;simp only [Al] at h;subst h;obtain ⟨h1,h2⟩:=ih hq;refine ⟨by simp [h1],λi y J=>?_⟩;cases i with
   | zero=>simp at J;subst J;exact ⟨x,by simp,I⟩
   | succ i=>obtain ⟨z,M,O⟩:=h2 i y (by simpa using J);exact ⟨z,by simpa using M,by rw [show j+(i+1)=j+1+i by omega];exact O⟩
  ·cases h
theorem ar3:∀ (ks:List Nat) (bs st:List BX),ks.Nodup->ks.length<=bs.length->(∀ k,k∈ks->k<st.length)->
 (abp ks bs st).length=st.length+(bs.length-ks.length)/\(∀ k,k<st.length->k∉ks->(abp ks bs st)[k]?=st[k]?)/\(∀ (j k:Nat),ks[j]?=some k->(abp ks bs st)[k]?=bs[j]?)/\
 (∀ i,(abp ks bs st)[st.length+i]?=bs[ks.length+i]?):=by
 intro ks
 induction ks with
 | nil=>
  intro bs st _ _ _
  refine ⟨by simp [abp],λk o _=>by simp [abp,Au o],λj k h=>by simp at h,λi=>by simp [abp,Av]⟩
 | cons x r ih=>
  intro bs st hn O H
  cases bs with
  | nil=>simp at O
  | cons b q=>
   obtain ⟨n1,n2⟩:=List.nodup_cons.1 hn
   have Z:x<st.length:=H x (by simp)
   obtain ⟨h1,M,h3,h4⟩:=ih q (st.set x b) n2 (by simpa using O) (λk o=>by simpa using H k (by simp [o]))
   simp only [abp]
   refine ⟨by rw [h1];simp,λk o z=>?_,λj k I=>?_,λi=>?_⟩
   ·have J:k∉r:=λh=>z (by simp [h]);have aa:k≠x:=λh=>z (by simp [h]);rw [M k (by simpa using o) J,Ar (by omega)]
   ·cases j with
    | zero=>simp at I;subst I;rw [M x (by simpa using Z) n1,List.getElem?_set_self Z];simp
    | succ j=>simp at I;rw [h3 j k I];simp
   ·have:=h4 i;simp only [List.length_set] at this;rw [this];simp [Nat.add_right_comm]
def ai5 (ow:Own) (n:Nat) (ks:List Nat) (h:Own):Own:=λb=>
 match h b with
 | some j=>acm n ks j
 | none=>match ow b with | some k=>if k∈ks then none else some k | none=>none
def ah2 (st:List BX) (μ h:Nat->Nat) (n:Nat) (ks:List Nat):Nat->Nat:=λk=>if k<n then (match st[k]? with | some (.arr _ _ _)=>(if k∈ks then h (idx k ks) else μ k) | _=>μ k) else h (k-n+ks.length)
theorem ade (Z:WRel Γ D ow μ st w) {ks:List Nat} (hn:ks.Nodup) {sub:List BX} (ar:agk st (ab9 ks) (λ_=>0) ks=some sub) {args as:List SV} (a4:renL st (ab9 ks) (λ_=>0) args=some as) {ak:Array Value} (bf:ak.size=args.length)
 (aJ:∀ (i:Nat) (s:SV) (v:Value),args[i]?=some s->ak[i]?=some v->SRep Γ.P D w ow μ st s v) {f:FuncId}{rs:List SV}{I:List BX} (hm:Meets Γ.P f as sub rs I) {aP:List SV}{bs:List BX} (hb:aec st ks rs I=some (aP,bs)):
 Calls Γ.P f ak w λe w'=>∃ v D' aO aQ,e=agu aP v/\WRel Γ D' aO aQ (abp ks bs st) w'/\Moves D w ow μ st D' w' aO aQ (abp ks bs st)/\agn Γ.P D' w' aO aQ (abp ks bs st) aP v:=by
 obtain ⟨bm,al⟩:=ahu ks sub ar
 have em:=Emb.sub (ow:=ow) (μ:=μ) hn ar
 obtain ⟨a3,a2⟩:=ai9 a4
 have tabs:Tabs Γ.P (afj ow ks) w:=by
  intro p hp g hg;obtain ⟨M,cs,T,fr,h2,h3⟩:=Γ.tabs p hp g hg;have O:g<Γ.B:=by rw [Γ.hB];exact (Array.getElem?_eq_some_iff.1 h2).1
  have bd:ow g=none:=by
   cases ho:ow g with
   | none=>rfl
   | some k=>have:=Z.owN g k ho O;rw [M] at this;cases this
  exact ⟨by simp [afj,bd],cs,T,fr,by rw [Z.old g O M];exact h2,h3⟩
 have bi:Pre Γ.P D (afj ow ks) (λj=>μ (ks.getD j 0)) sub w as ak:=by refine ⟨by rw [bf,a3],λi s v hs hv=>?_,Z.objs.sub hn ar,tabs⟩;obtain ⟨y,hy,bg⟩:=a2 i s hs;exact afo em (aJ i y v hy hv) bg
 refine (hm.2 D (afj ow ks) (λj=>μ (ks.getD j 0)) w ak bi).mono λe w' ⟨v,D',he,hp⟩=>?_
 obtain ⟨af,ag,hr⟩:=hp.rest
 unfold aec at hb
 split at hb
 case h_2=>cases hb
 rename_i bp aH be a5
 simp only [Al,Prod.mk.injEq] at hb
 obtain ⟨rfl,rfl⟩:=hb
 obtain ⟨aK,aa⟩:=awk a5
 have bj:sub.length<=I.length:=by
  rcases Nat.lt_or_ge I.length sub.length with h | h
  ·obtain ⟨b',M,_⟩:=hr.keep I.length _ (Aq h);rw [A4 (Nat.le_refl _)] at M;cases M
  ·exact h
 have aM:∀ k,k∈ks->k<st.length:=by intro k H;obtain ⟨j,J⟩:=List.mem_iff_getElem?.1 H;obtain ⟨b,b',M,_⟩:=al j k J;exact (List.getElem?_eq_some_iff.1 M).1
 obtain ⟨bl,bo,bk,bn⟩:=ar3 ks aH st hn (by omega) aM
 generalize hB:abp ks aH st=B at*
 have aI:B.length=st.length+(I.length-ks.length):=by rw [bl,aK]
 have aj:∀ (j k:Nat),ks[j]?=some k->acm st.length ks j=some k:=λj k h=>by unfold acm;rw [h]
 have a1:∀ (j:Nat),ks.length<=j->acm st.length ks j=some (st.length+(j-ks.length)):=λj h=>by unfold acm;rw [A4 h]
 have ab:∀ (j k:Nat),acm st.length ks j=some k->ks[j]?=some k\/(ks.length<=j/\k=st.length+(j-ks.length)):=by
  intro j k h;unfold acm at h;cases J:ks[j]? with
  | some k'=>rw [J] at h;exact Or.inl h
  | none=>rw [J] at h;simp only [Al] at h;exact Or.inr ⟨List.getElem?_eq_none_iff.1 J,h.symm⟩
 have aG:∀ (j k:Nat),acm st.length ks j=some k->B[k]?=aH[j]?:=by
  intro j k h;rcases ab j k h with h | ⟨M,h2⟩
  ·exact bk j k h
  ·rw [h2,bn,show ks.length+(j-ks.length)=j by omega]
 have ad:∀ (j k:Nat) (b:BX),ks[j]?=some k->st[k]?=some b->∃ b1,I[j]?=some b1/\b1.kind=b.kind/\((∀ g,b≠.acc g)->(∀ E g xs,b≠.arr E g xs)->ag j=μ k):=by intro j k b J H;obtain ⟨b0,b',M,h2,h3⟩:=al j k J;rw [H] at M;cases M;obtain ⟨q1,q2⟩:=acg h2;obtain ⟨b1,r1,r2,r3⟩:=hr.keep j b' h3;refine ⟨b1,r1,r2.trans q1,λap aS=>?_⟩;have:=r3 (afe q1 ap) (aqv q1 aS);rw [this];simp [List.getD,J]
 have aD:∀ k,k<st.length->k∉ks->ah2 st μ ag st.length ks k=μ k:=by
  intro k H aA;simp only [ah2,H,Ba];split
  ·simp [aA]
  ·rfl
 have ai:∀ k b,st[k]?=some b->(∀ E g xs,b≠.arr E g xs)->ah2 st μ ag st.length ks k=μ k:=by
  intro k b hb ba;have H:=(List.getElem?_eq_some_iff.1 hb).1;simp only [ah2,H,Ba];split
  ·rename_i E g xs h;rw [hb] at h;cases h;exact absurd rfl (ba _ _ _)
  ·rfl
 have aE:∀ j k E g xs,ks[j]?=some k->st[k]?=some (.arr E g xs)->ah2 st μ ag st.length ks k=ag j:=by intro j k E g xs J hb;have H:=(List.getElem?_eq_some_iff.1 hb).1;have aA:=List.mem_of_getElem? J;have e:idx k ks=j:=al8 hn (aox (List.any_eq_true.2 ⟨k,aA,Bi k⟩)) J;simp only [ah2,H,Ba,hb,aA,e]
 have mb:Emb (acm st.length ks) (afu st ks I) af ag I (ai5 ow st.length ks af) (ah2 st μ ag st.length ks) B:=by
  refine ⟨λj k b H J=>?_,λj k b H bc=>by simp only [ai5,bc];exact H⟩;obtain ⟨y,an,am⟩:=aa j b J;rw [Nat.zero_add] at am;obtain ⟨q1,q2⟩:=acg am;refine ⟨y,by rw [aG j k H];exact an,q1,λap=>?_,q2⟩;rcases ab j k H with h | ⟨M,h2⟩
  ·have a8:=aM k (List.mem_of_getElem? h);have aC:st[k]?=some st[k]:=Aq a8;obtain ⟨b1,r1,r2,r3⟩:=ad j k _ h aC;rw [J] at r1;cases r1;by_cases ha:∃ E g xs,st[k]=.arr E g xs
   ·obtain ⟨E,g,xs,ha⟩:=ha;rw [ha] at aC;exact aE j k E g xs h aC
   ·have aX:∀ E g xs,st[k]≠.arr E g xs:=λE g xs e=>ha ⟨E,g,xs,e⟩;rw [ai k _ aC aX];exact (r3 (afe r2.symm ap) aX).symm
  ·have:¬k<st.length:=by omega
   simp only [ah2,this,A8];rw [show k-st.length+ks.length=j by omega]
 have av:∀ b,(∀ k,k∈ks->ow b≠some k)->b<w.heap.size->w'.heap[b]?=w.heap[b]?:=λb hb O=>hp.old b O (ajy hb)
 have ah:∀ b k,ow b=some k->k∉ks->w'.heap[b]?=w.heap[b]?:=λb k ob H=>av b (λk' aq e=>by rw [ob] at e;cases e;exact H aq) (Z.owlt b k ob).1
 have au:∀ b k,ow b=some k->k∉ks->∀ o,D' b o->D b o:=by
  intro b k ob H o d;rcases hp.new b o d with h | h | h
  ·exact h
  ·have:=(Z.owlt b k ob).1;omega
  ·exact absurd (ajy (λk' aq e=>by rw [ob] at e;cases e;exact H aq)) h
 have aw:∀ b k,k∉ks->ow b=some k->ai5 ow st.length ks af b=some k:=by
  intro b k H ob;have a9:af b=none:=by
   cases h:af b with
   | none=>rfl
   | some j=>obtain ⟨k',J,a0⟩:=ad9 (hr.own b j h (Z.owlt b k ob).1);rw [ob] at a0;cases a0;exact absurd (List.mem_of_getElem? J) H
  simp only [ai5,a9,ob,H,A8]
 have aN:∀ b k,ai5 ow st.length ks af b=some k->(k∉ks/\ow b=some k)\/∃ j,acm st.length ks j=some k/\af b=some j:=by
  intro b k h;unfold ai5 at h;split at h
  ·rename_i j J;exact Or.inr ⟨j,h,J⟩
  ·split at h
   ·rename_i k' aq;split at h
    ·cases h
    ·rename_i bb;cases h;exact Or.inl ⟨bb,aq⟩
   ·cases h
 have ay:∀ (k:Nat) (b:BX),st[k]?=some b->k∉ks->B[k]?=some b:=λk b h H=>by rw [bo k (List.getElem?_eq_some_iff.1 h).1 H];exact h
 have ae:∀ (k:Nat) (b:BX),st[k]?=some b->∃ b',B[k]?=some b'/\b'.kind=b.kind:=by
  intro k b h;by_cases H:k∈ks
  ·obtain ⟨j,J⟩:=List.mem_iff_getElem?.1 H;obtain ⟨b1,r1,r2,_⟩:=ad j k b J h;obtain ⟨y,an,am⟩:=aa j b1 r1;exact ⟨y,by rw [bk j k J];exact an,(acg am).1.trans r2⟩
  ·exact ⟨b,ay k b h H,rfl⟩
 have m:Moves D w ow μ st D' w' (ai5 ow st.length ks af) (ah2 st μ ag st.length ks) B:=by
  refine ⟨hp.dom,hp.keeps,λk T s e=>⟨ai k _ e (by simp),?_⟩,λk K E es e=>⟨ai k _ e (by simp),?_⟩,λk b e hs=>⟨ai k _ e (λE g xs hb=>by subst hb;exact hs rfl),?_⟩,λk E g xs e=>?_,λk g e=>?_⟩
  ·obtain ⟨b',M,h2⟩:=ae k _ e;obtain ⟨s',rfl⟩:=ak1 h2;exact ⟨s',M⟩
  ·obtain ⟨b',M,h2⟩:=ae k _ e;obtain ⟨s',rfl⟩:=auo h2;exact ⟨s',M⟩
  ·obtain ⟨b',M,h2⟩:=ae k _ e;refine ⟨b',M,?_⟩;cases b with
   | iter s p=>obtain ⟨s',p',rfl⟩:=ayt h2;rfl
   | bld T s=>obtain ⟨s',rfl⟩:=aun h2;rfl
   | mit K E es=>cases b'<;>simp [BX.kind] at h2;obtain ⟨rfl,rfl⟩:=h2;rfl
   | _=>exact absurd rfl hs
  ·by_cases H:k∈ks
   ·obtain ⟨j,J⟩:=List.mem_iff_getElem?.1 H;obtain ⟨b1,r1,r2,_⟩:=ad j k _ J e;obtain ⟨g1,ys,rfl⟩:=ahk r2;obtain ⟨b',M,_,_,_,h5⟩:=mb.obj j k _ (aj j k J) r1;have h5:=h5 _ _ _ rfl;rw [h5] at M;have aU:afu st ks I j=(bif Nat.beq g1 0 then g else g+1):=by unfold afu;simp only [J,e,r1]
    rw [aU] at M;refine ⟨_,_,M,?_,λaV=>?_⟩
    ·cases Nat.beq g1 0<;>simp
    ·have a6:g1=0:=by
      cases hb:Nat.beq g1 0 with
      | true=>exact Aa hb
      | false=>rw [hb] at aV;simp at aV
     subst a6;obtain ⟨b0,b2,q1,q2,q3⟩:=al j k J;rw [e] at q1;cases q1;have q2:=(acg q2).2.2 _ _ _ rfl;rw [q2] at q3;obtain ⟨s1,s2⟩:=hr.same j E 0 xs ys q3 r1;refine ⟨s1,λcur hc aB=>?_⟩;have aL:ks.getD j 0=k:=by simp [List.getD,J]
     obtain ⟨t1,t2,aR,t3,t4⟩:=s2 cur (by simp only [aL];exact hc) (by simp only [aL];exact apb hn J aB);simp only [aL] at t1 t2 t3;refine ⟨(aE j k E g xs J e).trans t1,?_,aR,t3,t4⟩;simp only [ai5,t2];exact aj j k J
   ·refine ⟨g,xs,ay k _ e H,Nat.le_refl _,λ_=>⟨rfl,λcur hc aB=>?_⟩⟩;exact ⟨aD k (List.getElem?_eq_some_iff.1 e).1 H,aw _ k H aB,cur,(ah _ k aB H).trans hc,rfl⟩
  ·by_cases H:k∈ks
   ·obtain ⟨j,J⟩:=List.mem_iff_getElem?.1 H;obtain ⟨b1,r1,r2,_⟩:=ad j k _ J e;obtain ⟨g1,rfl⟩:=a1x r2;obtain ⟨b',M,_,_,h4,_⟩:=mb.obj j k _ (aj j k J) r1;have:=h4 ⟨_,rfl⟩;rw [this] at M;have hg:afu st ks I j=g+1:=by unfold afu;rw [J];simp only [e]
    rw [hg] at M;exact ⟨g+1,M,by omega,λh=>by omega⟩
   ·exact ⟨g,ay k _ e H,Nat.le_refl _,λ_ b ob=>⟨ah b k ob H,aw b k H ob,au b k ob H⟩⟩
 have az:∀ (k:Nat) (b:BX),B[k]?=some b->(k∉ks/\st[k]?=some b)\/∃ j b1,acm st.length ks j=some k/\I[j]?=some b1/\ag6 I (acm st.length ks) (afu st ks I) j b1=some b:=by
  intro k b h;have ao:∀ j,acm st.length ks j=some k->∃ j b1,acm st.length ks j=some k/\I[j]?=some b1/\ag6 I (acm st.length ks) (afu st ks I) j b1=some b:=by
   intro j J;have h2:=aG j k J;rw [h] at h2;have O:j<I.length:=by rw [<-aK];exact (List.getElem?_eq_some_iff.1 h2.symm).1
   obtain ⟨y,an,am⟩:=aa j _ (Aq O);rw [Nat.zero_add] at am;rw [<-h2] at an;cases an;exact ⟨j,_,J,Aq O,am⟩
  by_cases H:k∈ks
  ·obtain ⟨j,J⟩:=List.mem_iff_getElem?.1 H;exact Or.inr (ao j (aj j k J))
  ·by_cases O:k<st.length
   ·rw [bo k O H] at h;exact Or.inl ⟨H,h⟩
   ·exact Or.inr (ao (k-st.length+ks.length) (by rw [a1 _ (by omega)];congr 1;omega))
 have ax:∀ (k:Nat) (b:BX),B[k]?=some b->ObjIn Γ.P D' w' (ai5 ow st.length ks af) (ah2 st μ ag st.length ks) B k b:=by
  intro k b h;rcases az k b h with ⟨H,M⟩ | ⟨j,b1,J,M,h2⟩
  ·have O:=(List.getElem?_eq_some_iff.1 M).1;cases b with
   | box T s=>obtain ⟨c,T',q1,q2,q3,q4,q5⟩:=Z.box k T s M;exact BoxRep.mono ⟨c,T',q1,q2,q3,q4,q5⟩ m (aD k O H) (ah _ k q3 H) (aw _ k H q3) (λo d=>q4 o (au _ _ q3 H o d))
   | map K E es=>obtain ⟨ents,clock,kc,vc,q1,q2,q3⟩:=Z.map k K E es M;exact OMapRep.mono ⟨ents,clock,kc,vc,q1,q2,q3⟩ m.dom m.keeps (aD k O H) (ah _ k q2 H) (aw _ k H q2) (λo d=>q3.1 o (au _ _ q2 H o d))
   | acc g=>trivial
   | hole=>trivial
   | _=>exact (Z.obj k _ M).mono m.dom m.keeps (λ_=>aD k O H) (λc oc=>⟨ah c k oc H,aw c k H oc,au c k oc H⟩)
  ·exact (hr.objs.obj j b1 M).ren mb M J h2
 have aF:∀ k,k<Γ.np->∃ b,B[k]?=some b/\b.kind=Γ.K0 k:=by intro k H;obtain ⟨x,hx,p1⟩:=Z.par k H;obtain ⟨b',M,h2⟩:=ae k x hx;exact ⟨b',M,h2.trans p1⟩
 obtain ⟨aY,aT⟩:=awl mb hr.res be
 rw [<-aT] at he
 refine ⟨v,D',_,_,he,⟨λk T s e=>ax k _ e,λk K E es e=>ax k _ e,λk b e=>?_,λb k ob=>?_,hr.objs.dlt,hp.os.trans Z.os,hp.tape.trans Z.tape,hp.output.trans Z.output,Nat.le_trans Z.hs hp.size,
  λb hb aW=>?_,λb o d=>hp.dom b o (Z.dom0 b o d),λb o d=>?_,λb k ob hb=>?_,by rw [aI];have:=Z.np;omega,λk H hK=>?_,aF,λb k y ob e hy o d=>?_,Z.keep0.trans hp.keeps Z.dom0,Z.arr0_moves m aF⟩,m,aY⟩
 ·have:=ax k b e;cases b with
  | box T s=>trivial
  | map K E es=>trivial
  | acc g=>trivial
  | hole=>trivial
  | _=>exact this
 ·rcases aN b k ob with ⟨_,h⟩ | ⟨j,J,h⟩
  ·exact ⟨A5 (Z.owlt b k h).1 hp.size,by rw [aI];have:=(Z.owlt b k h).2;omega⟩
  ·have M:=hr.objs.owlt b j h;refine ⟨M.1,?_⟩;rw [aI];rcases ab j k J with h2 | ⟨h2,h3⟩
   ·have:=aM k (List.mem_of_getElem? h2);omega
   ·omega
 ·have O:b<w.heap.size:=A5 hb Z.hs;refine (av b (λk H e=>?_) O).trans (Z.old b hb aW);have:=Z.owN b k e hb;rw [aW] at this;cases this
 ·rcases hp.new b o d with d | d | d
  ·exact Z.domN b o d
  ·exact Or.inr (Or.inl (Nat.le_trans Z.hs d))
  ·cases ho:ow b with
   | none=>exact absurd (by simp [afj,ho]) d
   | some k=>
    by_cases hb:b<Γ.B
    ·exact Or.inr (Or.inr (by rw [Z.owN b k ho hb];simp))
    ·exact Or.inr (Or.inl (by omega))
 ·rcases aN b k ob with ⟨_,h⟩ | ⟨j,J,h⟩
  ·exact Z.owN b k h hb
  ·obtain ⟨k',a7,h'⟩:=ad9 (hr.own b j h (A5 hb Z.hs));rw [aj j k' a7] at J;cases J;exact Z.owN b k h' hb
 ·obtain ⟨x,hx,p1⟩:=Z.par k H;rw [ai k x hx (λE g xs hb=>by subst hb;exact hK E p1.symm)];exact Z.mu0 k H hK
 ·rcases aN b k ob with ⟨H,h⟩ | ⟨j,J,h⟩
  ·rcases az k y e with ⟨_,M⟩ | ⟨j,b1,J,_,_⟩
   ·exact Z.lone b k y h M hy o (au b k h H o d)
   ·rcases ab j k J with h2 | ⟨_,h3⟩
    ·exact absurd (List.mem_of_getElem? h2) H
    ·have:=(Z.owlt b k h).2;omega
  ·have h2:=aG j k J;rw [e] at h2;have O:j<I.length:=by rw [<-aK];exact (List.getElem?_eq_some_iff.1 h2.symm).1
   obtain ⟨z,aZ,bh⟩:=aa j _ (Aq O);rw [<-h2] at aZ;cases aZ;exact hr.objs.lone b j _ h (Aq O) (afe (acg bh).1.symm hy) o d
end
mutual
theorem amo {M I:Nat->Nat}{O:Nat->Option Nat}:∀ (s o:SV),renS [] (λ_=>none) M s=some o->renS [] O I s=some o
 | .fn f n caps,o,h=>by
  simp only [renS] at h ⊢;split at h
  ·rename_i cs z;rw [ai8 caps cs z];exact h
  ·cases h
 | .agg T J,o,h=>by
  simp only [renS] at h ⊢;split at h
  ·rename_i cs z;rw [ai8 J cs z];exact h
  ·cases h
 | .ifc T s,o,h=>by
  simp only [renS] at h ⊢;split at h
  ·rename_i x H;rw [amo s x H];exact h
  ·cases h
 | .pan s,o,h=>by
  simp only [renS] at h ⊢;split at h
  ·rename_i x H;rw [amo s x H];exact h
  ·cases h
 | .acc k g E xs,o,h=>by simp only [renS,Al] at h ⊢;subst h;have:amw [] k g=false:=rfl;rw [this];split<;>rfl
 | .ref k p T,o,h=>by simp [renS] at h
 | .bref k T,o,h=>by simp [renS] at h
 | .mref k,o,h=>by simp [renS] at h
 | .arr k g E,o,h=>by simp [renS] at h
 | .aref k g i E p T,o,h=>by simp [renS] at h
 | .eref k i E,o,h=>by simp [renS] at h
 | .asl k Z n E,o,h=>by simp [renS] at h
 | .iref k,o,h=>by simp [renS] at h
 | .gd _ _ _,o,h=>by simp [renS] at h
 | .nx _ _ _,o,h=>by simp [renS] at h
 | .tup _,o,h=>by simp [renS] at h
 | .mitr _,o,h=>by simp [renS] at h
 | .sln _ _,o,h=>h
 | .undef,o,h=>h
 | .bool _,o,h=>h
 | .int _ _,o,h=>h
 | .str _,o,h=>h
 | .slice _ _,o,h=>h
 | .data _ _,o,h=>h
 | .map _ _ _,o,h=>h
 | .nils,o,h=>h
 | .eif _,o,h=>h
 | .pto _ _,o,h=>h
 | .raw _,o,h=>h
 | .lit _ _,o,h=>h
theorem ai8 {J z:Nat->Nat}{M:Nat->Option Nat}:∀ (l o:List SV),renL [] (λ_=>none) J l=some o->renL [] M z l=some o
 | [],o,h=>h
 | s::r,o,h=>by
  simp only [renL] at h ⊢;split at h
  ·rename_i x q I H;rw [amo s x I,ai8 r q H];exact h
  ·cases h
end
theorem agq {z:List SV}{sub:List BX}{o:List SV} (h:afv z sub=some o) (st:List BX):aec st [] z sub=some (o,[]):=by
 unfold afv at h;split at h
 ·unfold aec;rw [ai8 z o h];rfl
 ·cases h
theorem a4v {z:List SV}{sub:List BX}{o:List SV} (h:afv z sub=some o):sub=[]:=by
 unfold afv at h;split at h
 ·rfl
 ·cases h
mutual
theorem amn {h:Nat->Nat} (st st':List BX):∀ (s:SV),renS st (ab9 []) h s=renS st' (ab9 []) h s
 | .fn f n caps=>by simp only [renS];rw [afn st st' caps]
 | .agg T o=>by simp only [renS];rw [afn st st' o]
 | .ifc T s=>by simp only [renS];rw [amn st st' s]
 | .pan s=>by simp only [renS];rw [amn st st' s]
 | .acc k g E xs=>by simp only [renS];rfl
 | .ref k p T=>rfl
 | .bref k T=>rfl
 | .mref k=>rfl
 | .arr k g E=>rfl
 | .aref k g i E p T=>rfl
 | .eref k i E=>rfl
 | .asl k z n E=>rfl
 | .iref k=>rfl
 | .gd _ _ _=>rfl
 | .nx _ _ _=>rfl
 | .tup _=>rfl
 | .undef=>rfl
 | .bool _=>rfl
 | .int _ _=>rfl
 | .str _=>rfl
 | .slice _ _=>rfl
 | .data _ _=>rfl
 | .map _ _ _=>rfl
 | .nils=>rfl
 | .eif _=>rfl
 | .pto _ _=>rfl
 | .raw _=>rfl
 | .lit _ _=>rfl
 | .sln _ _=>rfl
 | .mitr _=>rfl
theorem afn {h:Nat->Nat} (st st':List BX):∀ (l:List SV),renL st (ab9 []) h l=renL st' (ab9 []) h l
 | []=>rfl
 | s::r=>by simp only [renL];rw [amn st st' s,afn st st' r]
end
mutual
theorem aju (st st':List BX):∀ (s:SV),leads false st s=leads false st' s
 | .fn f n caps=>by simp only [leads];rw [afx st st' caps]
 | .agg T h=>by simp only [leads];rw [afx st st' h]
 | .ifc T s=>by simp only [leads];rw [aju st st' s]
 | .pan s=>by simp only [leads];rw [aju st st' s]
 | .acc k g E xs=>rfl
 | .ref k p T=>rfl
 | .bref k T=>rfl
 | .mref k=>rfl
 | .arr k g E=>rfl
 | .aref k g i E p T=>rfl
 | .eref k i E=>rfl
 | .asl k o n E=>rfl
 | .iref k=>rfl
 | .gd _ _ _=>rfl
 | .nx _ _ _=>rfl
 | .tup _=>rfl
 | .undef=>rfl
 | .bool _=>rfl
 | .int _ _=>rfl
 | .str _=>rfl
 | .slice _ _=>rfl
 | .data _ _=>rfl
 | .map _ _ _=>rfl
 | .nils=>rfl
 | .eif _=>rfl
 | .pto _ _=>rfl
 | .raw _=>rfl
 | .lit _ _=>rfl
 | .sln _ _=>rfl
 | .mitr _=>rfl
theorem afx (st st':List BX):∀ (l:List SV),afg false st l=afg false st' l
 | []=>rfl
 | s::r=>by simp only [afg];rw [aju st st' s,afx st st' r]
end
theorem ag5 {st st':List BX}{args:List SV} (h:aaq st args=[]):aaq st' args=[]:=by have o:=ate h;unfold aaq;rw [afx st' st,o];rfl
def aam (C:Cfg):Prop:=∀ (R:Type) (b:Bool) (f:FuncId) (o:List SV) (st:List BX) (K:List SV->List BX->Option R) (r:R),C.call R b f o st K=some r->
 (b=true->∃ h st',K h st'=some r/\Meets C.P f o st h st')/\∃ h st',K h st'=some r
def GInv (e:Env) (l:List Oper):Prop:=∀ t u h x,e t=.gd u h x->u∉dsts l
section
variable {Γ:Ctx}
theorem afr {ops:Array Oper}{o:Oper}{j t:Nat}{z:Bool}{tmps:Array Value} (H:o.guard=some (j,z)) (I:(ops[j]?).bind (·.dst)=some t):Region.wanted o (yielded ops tmps)=true ↔ tmps.getD t Go.undef=.bool z:=by
 have e:tmps.getD t Go.undef=(tmps[t]?).getD Go.undef:=by simp
 simp only [Region.wanted,H,yielded,I,Ae];rw [e];cases h:tmps[t]? with
 | none=>simp [Go.undef]
 | some v=>cases v<;>simp
theorem GInv.sub {e:Env}{o:Oper}{l:List Oper} (h:GInv e (o::l)):GInv e l:=λt u z x I H=>h t u z x I (by
 unfold dsts at*;simp only [List.filterMap_cons];split
 ·exact H
 ·exact List.mem_cons_of_mem _ H)
theorem GInv.clean {e:Env}{o:Oper}{l:List Oper} (h:GInv e (o::l)) {d:Nat} (H:o.dst=some d):au6 e d:=λt u z x I J=>h t u z x I (by unfold dsts;simp [List.filterMap_cons,H,J])
theorem GInv.put {e:Env}{o:Oper}{l:List Oper} (h:GInv e (o::l)) (s:SV) (Z:∀ u z x,s=.gd u z x->u∉dsts (o::l)):GInv (Ab.put e o.dst s) l:=by
 intro t u z x H O;have I:u∈dsts (o::l):=by
  unfold dsts at*;simp only [List.filterMap_cons];split
  ·exact O
  ·exact List.mem_cons_of_mem _ O
 cases M:o.dst with
 | none=>rw [M] at H;exact h t u z x H I
 | some d=>
  rw [M] at H;simp only [Ab.put,Env.set] at H;cases J:Nat.beq t d with
  | true=>rw [J] at H;exact Z u z x H I
  | false=>rw [J] at H;exact h t u z x H I
theorem af9 {C:Cfg}{o:Oper} (h:am1 C.n o.dst=true):∀ x,o.dst=some x->x<C.n:=by intro x z;rw [z] at h;exact Aw h
theorem af6 {D:Dom}{ow:Own}{μ:Nat->Nat}{e:Env}{st st':List BX}{a:Act}{w:World}{C:Cfg} (hn:Γ.n=C.n) (hs:Slots Γ D ow μ e st a w) {o:Oper}{l:List Oper} (hd:am1 C.n o.dst=true) (hg:GInv e (o::l)) {v:SV}{r:Result Next}
 (h:OpRes Γ D ow μ st w r v st') (s:SV) (O:∀ (D':Dom) (w':World) (I:Own) (J:Nat->Nat) (u:Value),SRep Γ.P D' w' I J st' v u->SlotRep Γ.P D' w' I J st' a s u) (ab:∀ t H x,s=.gd t H x->t∉dsts (o::l))
 (next:Act->World->Prop) (Q:Exit->Act->World->Prop) (z:∀ a' w',Rel Γ (put e o.dst s) st' a' w'->next a' w'):o.upon Γ.P a next Q r:=by
 obtain ⟨u,w',D',I,J,Z,hw,hm,hv⟩:=h
 have M:Rel Γ (put e o.dst s) st' (a.put o.dst u) w':=by refine ⟨D',I,J,hw,(hs.mono hm).put o.dst s u (λx hx=>⟨by rw [hn];exact af9 hd x hx,hg.clean hx⟩) (O _ _ _ _ _ hv) (λt H x hh aa=>?_)⟩;exact ab t H x hh (by unfold dsts;simp [List.filterMap_cons,aa])
 rcases Z with Z | ⟨Z,hu⟩
 ·rw [Z,Oper.upon_value];exact z _ _ M
 ·rw [Z,Oper.upon_skip,<-hu];exact z _ _ M
def PRel (Γ:Ctx) (s:SV) (st:List BX) (v:Value) (a:Act) (w:World):Prop:=a.defers=[]/\∃ D ow μ,WRel Γ D ow μ st w/\SRep Γ.P D w ow μ st s v
theorem ad5 {R:Type}{z:List SV}{k:Option R}{x:SV->Option R}{r:R} (h:fork z k x=some r):(∃ s,z=[.pan s]/\x s=some r)\/((∀ s,z≠[.pan s])/\k=some r):=by
 unfold fork at h;split at h
 ·rename_i s;exact Or.inl ⟨s,rfl,h⟩
 ·rename_i o;exact Or.inr ⟨λs e=>o s e,h⟩
theorem adj {R:Type}{o:List SV}{k:Option R}{r:R} (h:fork o k (λ_=>none)=some r):(∀ s,o≠[.pan s])/\k=some r:=by
 rcases ad5 h with ⟨s,_,h⟩ | h
 ·cases h
 ·exact h
theorem ath {R:Type}{C:Cfg} (hC:aam C) (hP:C.P=Γ.P) (hn:Γ.n=C.n) {ops:Array Oper}{i:Nat}{o:Oper} (ho:ops[i]?=some o) {O:List Oper}{e:Env}{st:List BX}{K:Env->List BX->Option R}{X:SV->List BX->Option R}{r:R} (h:a6k C ops o O e st K X=some r)
 {a:Act}{w:World} (aD:Rel Γ e st a w) (hg:GInv e (o::O)) (next:Act->World->Prop) (Q:Exit->Act->World->Prop)
 (I:∀ e' st' a' w',K e' st'=some r->GInv e' O->Rel Γ e' st' a' w'->next a' w') (hX:∀ s st' v a' w',X s st'=some r->PRel Γ s st' v a' w'->Q (.panic [{ v,recovered:=false }]) a' w'):wpOp Γ.P ops Q i next a w:=by
 obtain ⟨D,ow,μ,hw,hs⟩:=aD
 unfold a6k at h
 cases hd:am1 C.n o.dst with
 | false=>rw [hd] at h;simp at h
 | true=>
 rw [hd] at h
 simp only [Af,hP] at h
 unfold wpOp
 simp only [ho]
 have aB:∀ f,a.eval (.func f)=.func (.func f) #[] #[]:=λf=>rfl
 cases aw:o.guard with
 | none=>
  have aA:Region.wanted o (yielded ops a.tmps)=true:=by simp [Region.wanted,aw]
  simp only [aA,Ba]
  refine Or.inl ?_
  unfold Oper.wp
  rw [aw] at h
  simp only at h
  have af:∀ x,SRep Γ.P D w ow μ st (opd e [] x) (a.eval x):=λx=>abm hs [] (λ_ hx=>by cases hx) x
  have aK:∀ v:SV,(∀ u,SRep Γ.P D w ow μ st v u->True)->True:=λ_ _=>trivial
  split at h
  ·simp at h
  ·rename_i c v Z;cases c with
   | false=>simp at h
   | true=>
    simp only [Af] at h;have ad:=aem hw af o (ρt:=match o.op with | .pick (.tmp t) _ _=>opd e [(t,true)] | _=>opd e []) (ρf:=match o.op with | .pick (.tmp t) _ _=>opd e [(t,false)] | _=>opd e []) (λc x y ay=>by
     rw [ay];refine ⟨λhc=>?_,λhc=>?_⟩
     ·cases c with
      | tmp t=>exact abm hs [(t,true)] (λz hz=>by simp at hz;subst hz;exact hc) x
      | _=>exact af x
     ·cases c with
      | tmp t=>exact abm hs [(t,false)] (λz hz=>by simp at hz;subst hz;exact hc) y
      | _=>exact af y) v Z
    have ah:∀ t H x,v=.gd t H x->t∉dsts (o::O):=by intro t H x hv;obtain ⟨u,w',D',aI,aJ,_,_,_,az⟩:=ad;subst hv;cases az
    exact af6 hn hs hd hg ad v (λ_ _ _ _ _ h=>h.slot) ah next Q (λa' w' hr=>I _ _ a' w' h (hg.put v ah) hr)
  ·rename_i c v st' Z;cases c with
   | false=>simp at h
   | true=>
    simp only [Af] at h;have ad:=akd hw af o v st' Z;have ah:∀ t H x,v=.gd t H x->t∉dsts (o::O):=by intro t H x hv;obtain ⟨u,w',D',aI,aJ,_,_,_,az⟩:=ad;subst hv;cases az
    exact af6 hn hs hd hg ad v (λ_ _ _ _ _ h=>h.slot) ah next Q (λa' w' hr=>I _ _ a' w' h (hg.put v ah) hr)
  ·rename_i v Z;obtain ⟨u,ae,hu⟩:=apz af o v Z;rw [ae,Oper.upon_panic];exact hX v st u a w h ⟨hs.defers,D,ow,μ,hw,hu⟩
  ·rename_i f args Z;split at h
   ·rename_i as sub ao ar;obtain ⟨ai,ae,au,aa⟩:=ab5 af aB o f args Z;obtain ⟨rs,av,hK,hm⟩:=(hC R true f as sub _ r h).1 rfl;split at hK;case h_2=>cases hK
    rename_i aC bs ab;rw [hP] at hm;rw [ae,hm.1 ai w,Oper.upon_enter];refine (ade hw (ac8 _ _) ar ao au aa hm ab).mono λen w' ⟨v,D',am,an,he,h1,h2,h3⟩=>?_;rcases ad5 hK with ⟨s,rfl,hK⟩ | ⟨al,hK⟩
    ·subst he;exact hX s _ v a w' hK ⟨hs.defers,D',am,an,h1,h3⟩
    rcases ab4 h3 with ⟨s,e,_⟩ | ⟨_,h3,ag⟩
    ·exact absurd e (al s)
    rw [ag] at he;subst he;have ah:∀ t H x,ac9 aC=.gd t H x->t∉dsts (o::O):=by intro t H x hv;rw [hv] at h3;cases h3
    refine I _ _ _ _ hK (hg.put _ ah) ⟨D',am,an,h1,(hs.mono h2).put o.dst _ v (λx hx=>⟨by rw [hn];exact af9 hd x hx,hg.clean hx⟩) h3.slot (λt H x hh aj=>?_)⟩;exact ah t H x hh (by unfold dsts;simp [List.filterMap_cons,aj])
   ·simp at h
 | some jw=>
  obtain ⟨j,H⟩:=jw
  rw [aw] at h
  simp only at h
  cases ht:(ops[j]?).bind (·.dst) with
  | none=>rw [ht] at h;simp at h
  | some t=>
   rw [ht] at h
   simp only at h
   cases aq:(dsts (o::O)).any (Nat.beq t) with
   | true=>rw [aq] at h;simp at h
   | false=>
    rw [aq] at h
    simp only [Ah] at h
    have aG:t∉dsts (o::O):=λhm=>by have:(dsts (o::O)).any (Nat.beq t)=true:=List.any_eq_true.2 ⟨t,hm,Bi t⟩;rw [aq] at this;cases this
    cases ax:gval e 8 t H with
    | none=>rw [ax] at h;simp at h
    | some b=>
     rw [ax] at h
     simp only at h
     have ap:=afa hs 8 t H b ax
     have aE:=afr (tmps:=a.tmps) aw ht
     have M:∀ v:SV,∀ t' J x,SV.gd t H v=.gd t' J x->t'∉dsts (o::O):=λv t' J x he=>by cases he;exact aG
     have skip:∀ v:SV,b=false->Rel Γ (put e o.dst (.gd t H v)) st (a.put o.dst Go.undef) w:=by
      intro v hb;have al:a.tmps.getD t Go.undef≠.bool H:=λhh=>by have:=ap.1 hh;rw [hb] at this;cases this
      refine ⟨D,ow,μ,hw,hs.put o.dst _ Go.undef (λx hx=>⟨by rw [hn];exact af9 hd x hx,hg.clean hx⟩) ⟨λhh=>absurd hh al,λ_=>rfl⟩ (λt' J x hh aj=>?_)⟩;exact M v t' J x hh (by unfold dsts;simp [List.filterMap_cons,aj])
     cases hb:b with
     | false=>
      have aH:Region.wanted o (yielded ops a.tmps)=false:=by
       cases hc:Region.wanted o (yielded ops a.tmps) with
       | false=>rfl
       | true=>have:=ap.1 (aE.1 hc);rw [hb] at this;cases this
      simp only [aH,A7,A8]
      split at h
      ·rename_i c v Z;have hi:imp b c=true:=by rw [hb];cases c<;>rfl
       rw [hi] at h;exact I _ _ _ _ h (hg.put _ (M v)) (skip v hb)
      ·rename_i f args Z;split at h
       ·obtain ⟨rs,av,hK⟩:=(hC R b f _ [] _ r h).2;split at hK;case h_2=>cases hK
        exact I _ _ _ _ (adj hK).2 (hg.put _ (M _)) (skip _ hb)
       ·rw [hb] at h;simp only [Ah] at h;exact I _ _ _ _ h (hg.put _ (M _)) (skip _ hb)
      ·simp at h
     | true=>
      have ak:a.tmps.getD t Go.undef=.bool H:=ap.2 hb
      have aA:Region.wanted o (yielded ops a.tmps)=true:=aE.2 ak
      simp only [aA,Ba]
      refine Or.inl ?_
      unfold Oper.wp
      have af:∀ x,SRep Γ.P D w ow μ st (opd e [(t,H)] x) (a.eval x):=λx=>abm hs [(t,H)] (λz hz=>by simp at hz;subst hz;exact ak) x
      split at h
      ·rename_i c v Z;have hc:c=true:=by
        rw [hb] at h;cases c with
        | true=>rfl
        | false=>simp [imp] at h
       subst hc;have hi:imp b true=true:=rfl;rw [hi] at h;simp only [Af] at h;have ad:=aem hw af o (ρt:=match o.op with | .pick (.tmp u) _ _=>opd e [(u,true),(t,H)] | _=>opd e []) (ρf:=match o.op with | .pick (.tmp u) _ _=>opd e [(u,false),(t,H)] | _=>opd e []) (λc x y ay=>by
        rw [ay];refine ⟨λhc=>?_,λhc=>?_⟩
        ·cases c with
         | tmp u=>exact abm hs [(u,true),(t,H)] (λz hz=>by simp at hz;rcases hz with rfl | rfl;exact hc;exact ak) x
         | _=>exact abm hs [] (λ_ hx=>by cases hx) x
        ·cases c with
         | tmp u=>exact abm hs [(u,false),(t,H)] (λz hz=>by simp at hz;rcases hz with rfl | rfl;exact hc;exact ak) y
         | _=>exact abm hs [] (λ_ hx=>by cases hx) y) v Z
       exact af6 hn hs hd hg ad (.gd t H v) (λ_ _ _ _ _ h=>⟨λ_=>h,λhh=>absurd ak hh⟩) (M v) next Q (λa' w' hr=>I _ _ a' w' h (hg.put _ (M v)) hr)
      ·rename_i f args Z;split at h
       ·rename_i as aL ao;obtain ⟨ai,ae,au,aa⟩:=ab5 af aB o f args Z;obtain ⟨rs,av,hK,hm⟩:=(hC R b f as [] _ r h).1 hb;split at hK;case h_2=>cases hK
        rename_i aC ab;rw [hP] at hm;rw [ae,hm.1 ai w,Oper.upon_enter];refine (ade hw (ks:=[]) (by simp) (sub:=[]) rfl ao au aa hm (agq ab st)).mono λen w' ⟨v,D',am,an,he,h1,h2,h3⟩=>?_;obtain ⟨al,hK⟩:=adj hK;rcases ab4 h3 with ⟨s,e,_⟩ | ⟨_,h3,ag⟩
        ·exact absurd e (al s)
        rw [ag] at he;subst he;have aF:abp [] [] st=st:=by simp [abp]
        rw [aF] at h1 h2 h3;refine I _ _ _ _ hK (hg.put _ (M _)) ⟨D',am,an,h1,(hs.mono h2).put o.dst _ v (λx hx=>⟨by rw [hn];exact af9 hd x hx,hg.clean hx⟩) ⟨λ_=>h3,λhh=>absurd ak hh⟩ (λt' J x hh aj=>?_)⟩;exact M _ t' J x hh (by unfold dsts;simp [List.filterMap_cons,aj])
       ·rw [hb] at h;simp only [Af] at h;split at h;case h_2=>cases h
        rename_i as sub ao ar;obtain ⟨ai,ae,au,aa⟩:=ab5 af aB o f args Z;obtain ⟨rs,av,hK,hm⟩:=(hC R true f as sub _ r h).1 rfl;split at hK;case h_2=>cases hK
        rename_i aC bs ab;rw [hP] at hm;rw [ae,hm.1 ai w,Oper.upon_enter];refine (ade hw (ac8 _ _) ar ao au aa hm ab).mono λen w' ⟨v,D',am,an,he,h1,h2,h3⟩=>?_;rcases ad5 hK with ⟨s,rfl,hK⟩ | ⟨al,hK⟩
        ·subst he;exact hX s _ v a w' hK ⟨hs.defers,D',am,an,h1,h3⟩
        rcases ab4 h3 with ⟨s,e,_⟩ | ⟨_,h3,ag⟩
        ·exact absurd e (al s)
        rw [ag] at he;subst he;refine I _ _ _ _ hK (hg.put _ (M _)) ⟨D',am,an,h1,(hs.mono h2).put o.dst _ v (λx hx=>⟨by rw [hn];exact af9 hd x hx,hg.clean hx⟩) ⟨λ_=>h3,λhh=>absurd ak hh⟩ (λt' J x hh aj=>?_)⟩;exact M _ t' J x hh (by unfold dsts;simp [List.filterMap_cons,aj])
      ·simp at h
end
end Go.Ab
