/- The evaluator is sound: regions, code. -/
import Derived.Test.YtjogoleiodbfdaaGreatDoorAbCall
set_option linter.unusedVariables false
set_option linter.unusedSimpArgs false
set_option linter.unnecessarySimpa false
namespace Go.Ab
open Go
section
variable {Γ:Ctx}{D:Dom}{ow:Own}{μ:Nat->Nat}{st:List BX}{w:World}
theorem ayi {J:Nat->Option Nat}{I:Nat->Nat}{o:List BX}:∀ {l H:List BX}{j:Nat},a1t o J I j l=some H->H.length=l.length/\∀ (i:Nat) (x:BX),l[i]?=some x->∃ y,H[i]?=some y/\ahm o J I (j+i) x=some y:=by
 intro l;induction l with
 | nil=>intro H j h;simp only [a1t,Al] at h;grind
 | cons b r M=>grind [a1t,Option.some.injEq]
theorem atf:∀ (ks:List Nat) (bs st:List BX),ks.Nodup->ks.length<=bs.length->(∀ k,k∈ks->k<st.length)->
 (abq ks bs st).length=st.length+(bs.length-ks.length)/\(∀ k,k<st.length->k∉ks->(abq ks bs st)[k]?=st[k]?)/\(∀ (j k:Nat),ks[j]?=some k->(abq ks bs st)[k]?=bs[j]?)/\
 (∀ i,(abq ks bs st)[st.length+i]?=bs[ks.length+i]?):=by
 intro ks
 induction ks with
 | nil=>grind [abq,List.getElem?_append_left,List.getElem?_append_right]
 | cons x r I=>
  intro bs st H o h
  cases bs with
  | nil=>simp at o
  | cons b q=>
   obtain ⟨n1,J⟩:=List.nodup_cons.1 H
   have hx:x<st.length:=h x (by simp)
   obtain ⟨M,O,Z,h4⟩:=I q (st.set x b) J (by simpa using o) (λk hk=>by grind)
   grind [abq,List.getElem?_set_ne,List.getElem?_set_self,List.length_set,Nat.add_right_comm]
def aju (ow:Own) (n:Nat) (ks:List Nat) (h:Own):Own:=λb=>
 match h b with
 | some j=>acq n ks j
 | none=>match ow b with | some k=>if k∈ks then none else some k | none=>none
def ail (st:List BX) (μ h:Nat->Nat) (n:Nat) (ks:List Nat):Nat->Nat:=λk=>if k<n then (match st[k]? with | some (.arr _ _ _)=>(if k∈ks then h (idx k ks) else μ k) | _=>μ k) else h (k-n+ks.length)
theorem adc (Z:WRel Γ D ow μ st w) {ks:List Nat} (hn:ks.Nodup) {sub:List BX} (ar:agx st (ace ks) (λ_=>0) ks=some sub) {args as:List SV} (a5:renL st (ace ks) (λ_=>0) args=some as) {ak:Array Value} (bg:ak.size=args.length)
 (aK:∀ (i:Nat) (s:SV) (v:Value),args[i]?=some s->ak[i]?=some v->SRep Γ.P D w ow μ st s v) {f:FuncId}{rs:List SV}{I:List BX} (hm:Meets Γ.P f as sub rs I) {aQ:List SV}{bs:List BX} (hb:aem st ks rs I=some (aQ,bs)):
 Calls Γ.P f ak w λe w'=>∃ v D' aP aR,e=ag4 aQ v/\WRel Γ D' aP aR (abq ks bs st) w'/\Moves D w ow μ st D' w' aP aR (abq ks bs st)/\agz Γ.P D' w' aP aR (abq ks bs st) aQ v:=by
 obtain ⟨bp,al⟩:=aic ks sub ar
 have em:=Emb.sub (ow:=ow) (μ:=μ) hn ar
 obtain ⟨a4,a3⟩:=ahn a5
 have tabs:Tabs Γ.P (afw ow ks) w:=by
  intro p hp g hg;obtain ⟨M,cs,T,fr,h2,h3⟩:=Γ.tabs p hp g hg;have O:g<Γ.B:=by rw [Γ.hB];exact (Array.getElem?_eq_some_iff.1 h2).1
  have be:ow g=none:=by
   cases ho:ow g with
   | none=>rfl
   | some k=>have:=Z.owN g k ho O;rw [M] at this;cases this
  exact ⟨by simp [afw,be],cs,T,fr,by rw [Z.old g O M];exact h2,h3⟩
 have bj:Pre Γ.P D (afw ow ks) (λj=>μ (ks.getD j 0)) sub w as ak:=by refine ⟨by rw [bg,a4],λi s v hs hv=>?_,Z.objs.sub hn ar,tabs⟩;obtain ⟨y,hy,bh⟩:=a3 i s hs;exact aek em (aK i y v hy hv) bh
 refine (hm.2 D (afw ow ks) (λj=>μ (ks.getD j 0)) w ak bj).mono λe w' ⟨v,D',he,hp⟩=>?_
 obtain ⟨af,ag,hr⟩:=hp.rest
 unfold aem at hb
 split at hb
 case h_2=>cases hb
 rename_i br aH bf a6
 simp only [Al,Prod.mk.injEq] at hb
 obtain ⟨rfl,rfl⟩:=hb
 obtain ⟨aL,aa⟩:=ayi a6
 have bm:sub.length<=I.length:=by
  rcases Nat.lt_or_ge I.length sub.length with h | h
  ·obtain ⟨b',M,_⟩:=hr.keep I.length _ (As h);rw [Bb (Nat.le_refl _)] at M;cases M
  ·exact h
 have aN:∀ k,k∈ks->k<st.length:=by intro k H;obtain ⟨j,J⟩:=List.mem_iff_getElem?.1 H;obtain ⟨b,b',M,_⟩:=al j k J;exact (Bg.1 M).1
 obtain ⟨bl,bo,bk,bn⟩:=atf ks aH st hn (by omega) aN
 generalize hB:abq ks aH st=B at*
 have aJ:B.length=st.length+(I.length-ks.length):=by rw [bl,aL]
 have aj:∀ (j k:Nat),ks[j]?=some k->acq st.length ks j=some k:=λj k h=>by unfold acq;rw [h]
 have a2:∀ (j:Nat),ks.length<=j->acq st.length ks j=some (st.length+(j-ks.length)):=λj h=>by unfold acq;rw [Bb h]
 have ab:∀ (j k:Nat),acq st.length ks j=some k->ks[j]?=some k\/(ks.length<=j/\k=st.length+(j-ks.length)):=by
  intro j k h;unfold acq at h;cases J:ks[j]? with
  | some k'=>rw [J] at h;exact Or.inl h
  | none=>rw [J] at h;simp only [Al] at h;exact Or.inr ⟨List.getElem?_eq_none_iff.1 J,h.symm⟩
 have aG:∀ (j k:Nat),acq st.length ks j=some k->B[k]?=aH[j]?:=by
  intro j k h;rcases ab j k h with h | ⟨M,h2⟩
  ·exact bk j k h
  ·rw [h2,bn,show ks.length+(j-ks.length)=j by omega]
 have ad:∀ (j k:Nat) (b:BX),ks[j]?=some k->st[k]?=some b->∃ b1,I[j]?=some b1/\b1.kind=b.kind/\((∀ g,b≠.acc g)->(∀ E g xs,b≠.arr E g xs)->ag j=μ k):=by intro j k b J H;obtain ⟨b0,b',M,h2,h3⟩:=al j k J;rw [H] at M;cases M;obtain ⟨q1,q2⟩:=acm h2;obtain ⟨b1,r1,r2,r3⟩:=hr.keep j b' h3;refine ⟨b1,r1,r2.trans q1,λap aT=>?_⟩;have:=r3 (afr q1 ap) (ar4 q1 aT);rw [this];simp [List.getD,J]
 have aD:∀ k,k<st.length->k∉ks->ail st μ ag st.length ks k=μ k:=by
  intro k H aA;simp only [ail,H,A9];split
  ·simp [aA]
  ·rfl
 have ai:∀ k b,st[k]?=some b->(∀ E g xs,b≠.arr E g xs)->ail st μ ag st.length ks k=μ k:=by
  intro k b hb bb;have H:=(Bg.1 hb).1;simp only [ail,H,A9];split
  ·rename_i E g xs h;rw [hb] at h;cases h;exact absurd rfl (bb _ _ _)
  ·rfl
 have aE:∀ j k E g xs,ks[j]?=some k->st[k]?=some (.arr E g xs)->ail st μ ag st.length ks k=ag j:=by intro j k E g xs J hb;have H:=(Bg.1 hb).1;have aA:=List.mem_of_getElem? J;have e:idx k ks=j:=am6 hn (ap0 (List.any_eq_true.2 ⟨k,aA,Bi k⟩)) J;simp only [ail,H,A9,hb,aA,e]
 have mb:Emb (acq st.length ks) (af8 st ks I) af ag I (aju ow st.length ks af) (ail st μ ag st.length ks) B:=by
  refine ⟨λj k b H J=>?_,λj k b H bd=>by simp only [aju,bd];exact H⟩;obtain ⟨y,an,am⟩:=aa j b J;rw [Nat.zero_add] at am;obtain ⟨q1,q2⟩:=acm am;refine ⟨y,by rw [aG j k H];exact an,q1,λap=>?_,q2⟩;rcases ab j k H with h | ⟨M,h2⟩
  ·have a9:=aN k (List.mem_of_getElem? h);have aC:st[k]?=some st[k]:=As a9;obtain ⟨b1,r1,r2,r3⟩:=ad j k _ h aC;rw [J] at r1;cases r1;by_cases ha:∃ E g xs,st[k]=.arr E g xs
   ·obtain ⟨E,g,xs,ha⟩:=ha;rw [ha] at aC;exact aE j k E g xs h aC
   ·have aY:∀ E g xs,st[k]≠.arr E g xs:=λE g xs e=>ha ⟨E,g,xs,e⟩;rw [ai k _ aC aY];exact (r3 (afr r2.symm ap) aY).symm
  ·have:¬k<st.length:=by omega
   simp only [ail,this,A8];rw [show k-st.length+ks.length=j by omega]
 have av:∀ b,(∀ k,k∈ks->ow b≠some k)->b<w.heap.size->w'.heap[b]?=w.heap[b]?:=λb hb O=>hp.old b O (aks hb)
 have ah:∀ b k,ow b=some k->k∉ks->w'.heap[b]?=w.heap[b]?:=λb k ob H=>av b (λk' aq e=>by rw [ob] at e;cases e;exact H aq) (Z.owlt b k ob).1
 have au:∀ b k,ow b=some k->k∉ks->∀ o,D' b o->D b o:=by
  intro b k ob H o d;rcases hp.new b o d with h | h | h
  ·exact h
  ·have:=(Z.owlt b k ob).1;omega
  ·exact absurd (aks (λk' aq e=>by rw [ob] at e;cases e;exact H aq)) h
 have aw:∀ b k,k∉ks->ow b=some k->aju ow st.length ks af b=some k:=by
  intro b k H ob;have ba:af b=none:=by
   cases h:af b with
   | none=>rfl
   | some j=>obtain ⟨k',J,a1⟩:=aej (hr.own b j h (Z.owlt b k ob).1);rw [ob] at a1;cases a1;exact absurd (List.mem_of_getElem? J) H
  simp only [aju,ba,ob,H,A8]
 have aO:∀ b k,aju ow st.length ks af b=some k->(k∉ks/\ow b=some k)\/∃ j,acq st.length ks j=some k/\af b=some j:=by
  intro b k h;unfold aju at h;split at h
  ·rename_i j J;exact Or.inr ⟨j,h,J⟩
  ·split at h
   ·rename_i k' aq;split at h
    ·cases h
    ·rename_i bc;cases h;exact Or.inl ⟨bc,aq⟩
   ·cases h
 have ay:∀ (k:Nat) (b:BX),st[k]?=some b->k∉ks->B[k]?=some b:=λk b h H=>by rw [bo k (Bg.1 h).1 H];exact h
 have ae:∀ (k:Nat) (b:BX),st[k]?=some b->∃ b',B[k]?=some b'/\b'.kind=b.kind:=by
  intro k b h;by_cases H:k∈ks
  ·obtain ⟨j,J⟩:=List.mem_iff_getElem?.1 H;obtain ⟨b1,r1,r2,_⟩:=ad j k b J h;obtain ⟨y,an,am⟩:=aa j b1 r1;exact ⟨y,by rw [bk j k J];exact an,(acm am).1.trans r2⟩
  ·exact ⟨b,ay k b h H,rfl⟩
 have m:Moves D w ow μ st D' w' (aju ow st.length ks af) (ail st μ ag st.length ks) B:=by
  refine ⟨hp.dom,hp.keeps,λk T s e=>⟨ai k _ e (by simp),?_⟩,λk K E es e=>⟨ai k _ e (by simp),?_⟩,λk b e hs=>⟨ai k _ e (λE g xs hb=>by subst hb;exact hs rfl),?_⟩,λk E g xs e=>?_,λk g e=>?_⟩
  ·obtain ⟨b',M,h2⟩:=ae k _ e;obtain ⟨s',rfl⟩:=aly h2;exact ⟨s',M⟩
  ·obtain ⟨b',M,h2⟩:=ae k _ e;obtain ⟨s',rfl⟩:=awf h2;exact ⟨s',M⟩
  ·obtain ⟨b',M,h2⟩:=ae k _ e;refine ⟨b',M,?_⟩;cases b with
   | iter s p=>obtain ⟨s',p',rfl⟩:=a0u h2;rfl
   | bld T s=>obtain ⟨s',rfl⟩:=awe h2;rfl
   | mit K E es=>cases b'<;>simp [BX.kind] at h2;obtain ⟨rfl,rfl⟩:=h2;rfl
   | _=>exact absurd rfl hs
  ·by_cases H:k∈ks
   ·obtain ⟨j,J⟩:=List.mem_iff_getElem?.1 H;obtain ⟨b1,r1,r2,_⟩:=ad j k _ J e;obtain ⟨g1,ys,rfl⟩:=ah2 r2;obtain ⟨b',M,_,_,_,h5⟩:=mb.obj j k _ (aj j k J) r1;have h5:=h5 _ _ _ rfl;rw [h5] at M;have aV:af8 st ks I j=(bif Nat.beq g1 0 then g else g+1):=by unfold af8;simp only [J,e,r1]
    rw [aV] at M;refine ⟨_,_,M,?_,λaW=>?_⟩
    ·cases Nat.beq g1 0<;>simp
    ·have a7:g1=0:=by
      cases hb:Nat.beq g1 0 with
      | true=>exact Ae hb
      | false=>rw [hb] at aW;simp at aW
     subst a7;obtain ⟨b0,b2,q1,q2,q3⟩:=al j k J;rw [e] at q1;cases q1;have q2:=(acm q2).2.2 _ _ _ rfl;rw [q2] at q3;obtain ⟨s1,s2⟩:=hr.same j E 0 xs ys q3 r1;refine ⟨s1,λaI hc aB=>?_⟩;have aM:ks.getD j 0=k:=by simp [List.getD,J]
     obtain ⟨t1,t2,aS,t3,t4⟩:=s2 aI (by simp only [aM];exact hc) (by simp only [aM];exact aqe hn J aB);simp only [aM] at t1 t2 t3;refine ⟨(aE j k E g xs J e).trans t1,?_,aS,t3,t4⟩;simp only [aju,t2];exact aj j k J
   ·refine ⟨g,xs,ay k _ e H,Nat.le_refl _,λ_=>⟨rfl,λaI hc aB=>?_⟩⟩;exact ⟨aD k (Bg.1 e).1 H,aw _ k H aB,aI,(ah _ k aB H).trans hc,rfl⟩
  ·by_cases H:k∈ks
   ·obtain ⟨j,J⟩:=List.mem_iff_getElem?.1 H;obtain ⟨b1,r1,r2,_⟩:=ad j k _ J e;obtain ⟨g1,rfl⟩:=a4v r2;obtain ⟨b',M,_,_,h4,_⟩:=mb.obj j k _ (aj j k J) r1;have:=h4 ⟨_,rfl⟩;rw [this] at M;have hg:af8 st ks I j=g+1:=by unfold af8;rw [J];simp only [e]
    rw [hg] at M;exact ⟨g+1,M,by omega,λh=>by omega⟩
   ·exact ⟨g,ay k _ e H,Nat.le_refl _,λ_ b ob=>⟨ah b k ob H,aw b k H ob,au b k ob H⟩⟩
 have az:∀ (k:Nat) (b:BX),B[k]?=some b->(k∉ks/\st[k]?=some b)\/∃ j b1,acq st.length ks j=some k/\I[j]?=some b1/\ahm I (acq st.length ks) (af8 st ks I) j b1=some b:=by
  intro k b h;have ao:∀ j,acq st.length ks j=some k->∃ j b1,acq st.length ks j=some k/\I[j]?=some b1/\ahm I (acq st.length ks) (af8 st ks I) j b1=some b:=by
   intro j J;have h2:=aG j k J;rw [h] at h2;have O:j<I.length:=by rw [<-aL];exact (Bg.1 h2.symm).1
   obtain ⟨y,an,am⟩:=aa j _ (As O);rw [Nat.zero_add] at am;rw [<-h2] at an;cases an;exact ⟨j,_,J,As O,am⟩
  by_cases H:k∈ks
  ·obtain ⟨j,J⟩:=List.mem_iff_getElem?.1 H;exact Or.inr (ao j (aj j k J))
  ·by_cases O:k<st.length
   ·rw [bo k O H] at h;exact Or.inl ⟨H,h⟩
   ·exact Or.inr (ao (k-st.length+ks.length) (by rw [a2 _ (by omega)];congr 1;omega))
 have ax:∀ (k:Nat) (b:BX),B[k]?=some b->ObjIn Γ.P D' w' (aju ow st.length ks af) (ail st μ ag st.length ks) B k b:=by
  intro k b h;rcases az k b h with ⟨H,M⟩ | ⟨j,b1,J,M,h2⟩
  ·have O:=(Bg.1 M).1;cases b with
   | box T s=>obtain ⟨c,T',q1,q2,q3,q4,q5⟩:=Z.box k T s M;exact BoxRep.mono ⟨c,T',q1,q2,q3,q4,q5⟩ m (aD k O H) (ah _ k q3 H) (aw _ k H q3) (λo d=>q4 o (au _ _ q3 H o d))
   | map K E es=>obtain ⟨ents,clock,kc,vc,q1,q2,q3⟩:=Z.map k K E es M;exact OMapRep.mono ⟨ents,clock,kc,vc,q1,q2,q3⟩ m.dom m.keeps (aD k O H) (ah _ k q2 H) (aw _ k H q2) (λo d=>q3.1 o (au _ _ q2 H o d))
   | acc g=>trivial
   | hole=>trivial
   | _=>exact (Z.obj k _ M).mono m.dom m.keeps (λ_=>aD k O H) (λc oc=>⟨ah c k oc H,aw c k H oc,au c k oc H⟩)
  ·exact (hr.objs.obj j b1 M).ren mb M J h2
 have aF:∀ k,k<Γ.np->∃ b,B[k]?=some b/\b.kind=Γ.K0 k:=by intro k H;obtain ⟨x,hx,p1⟩:=Z.par k H;obtain ⟨b',M,h2⟩:=ae k x hx;exact ⟨b',M,h2.trans p1⟩
 obtain ⟨aZ,aU⟩:=ayj mb hr.res bf
 rw [<-aU] at he
 refine ⟨v,D',_,_,he,⟨λk T s e=>ax k _ e,λk K E es e=>ax k _ e,λk b e=>?_,λb k ob=>?_,hr.objs.dlt,hp.os.trans Z.os,hp.tape.trans Z.tape,hp.output.trans Z.output,Nat.le_trans Z.hs hp.size,
  λb hb aX=>?_,λb o d=>hp.dom b o (Z.dom0 b o d),λb o d=>?_,λb k ob hb=>?_,by rw [aJ];have:=Z.np;omega,λk H hK=>?_,aF,λb k y ob e hy o d=>?_,Z.keep0.trans hp.keeps Z.dom0,Z.arr0_moves m aF⟩,m,aZ⟩
 ·have:=ax k b e;cases b with
  | box T s=>trivial
  | map K E es=>trivial
  | acc g=>trivial
  | hole=>trivial
  | _=>exact this
 ·rcases aO b k ob with ⟨_,h⟩ | ⟨j,J,h⟩
  ·exact ⟨A4 (Z.owlt b k h).1 hp.size,by rw [aJ];have:=(Z.owlt b k h).2;omega⟩
  ·have M:=hr.objs.owlt b j h;refine ⟨M.1,?_⟩;rw [aJ];rcases ab j k J with h2 | ⟨h2,h3⟩
   ·have:=aN k (List.mem_of_getElem? h2);omega
   ·omega
 ·have O:b<w.heap.size:=A4 hb Z.hs;refine (av b (λk H e=>?_) O).trans (Z.old b hb aX);have:=Z.owN b k e hb;rw [aX] at this;cases this
 ·rcases hp.new b o d with d | d | d
  ·exact Z.domN b o d
  ·exact Or.inr (Or.inl (Nat.le_trans Z.hs d))
  ·cases ho:ow b with
   | none=>exact absurd (by simp [afw,ho]) d
   | some k=>
    by_cases hb:b<Γ.B
    ·exact Or.inr (Or.inr (by rw [Z.owN b k ho hb];simp))
    ·exact Or.inr (Or.inl (by omega))
 ·rcases aO b k ob with ⟨_,h⟩ | ⟨j,J,h⟩
  ·exact Z.owN b k h hb
  ·obtain ⟨k',a8,h'⟩:=aej (hr.own b j h (A4 hb Z.hs));rw [aj j k' a8] at J;cases J;exact Z.owN b k h' hb
 ·obtain ⟨x,hx,p1⟩:=Z.par k H;rw [ai k x hx (λE g xs hb=>by subst hb;exact hK E p1.symm)];exact Z.mu0 k H hK
 ·rcases aO b k ob with ⟨H,h⟩ | ⟨j,J,h⟩
  ·rcases az k y e with ⟨_,M⟩ | ⟨j,b1,J,_,_⟩
   ·exact Z.lone b k y h M hy o (au b k h H o d)
   ·rcases ab j k J with h2 | ⟨_,h3⟩
    ·exact absurd (List.mem_of_getElem? h2) H
    ·have:=(Z.owlt b k h).2;omega
  ·have h2:=aG j k J;rw [e] at h2;have O:j<I.length:=by rw [<-aL];exact (Bg.1 h2.symm).1
   obtain ⟨z,a0,bi⟩:=aa j _ (As O);rw [<-h2] at a0;cases a0;exact hr.objs.lone b j _ h (As O) (afr (acm bi).1.symm hy) o d
end
mutual
theorem anp {O J:Nat->Nat}{Z:Nat->Option Nat}:∀ (s o:SV),renS [] (λ_=>none) O s=some o->renS [] Z J s=some o
 | .fn f n caps,o,h=>by
  simp only [renS] at h ⊢;split at h
  ·rename_i cs H;rw [ajy caps cs H];exact h
  ·cases h
 | .agg T M,o,h=>by
  simp only [renS] at h ⊢;split at h
  ·rename_i cs H;rw [ajy M cs H];exact h
  ·cases h
 | .ifc T s,o,h=>by
  simp only [renS] at h ⊢;split at h
  ·rename_i x I;rw [anp s x I];exact h
  ·cases h
 | .pan s,o,h=>by
  simp only [renS] at h ⊢;split at h
  ·rename_i x I;rw [anp s x I];exact h
  ·cases h
 | .acc k g E xs,o,h=>by simp only [renS,Al] at h ⊢;subst h;have:an0 [] k g=false:=rfl;rw [this];split<;>rfl
 | .ref k p T,o,h=>by simp [renS] at h
 | .bref k T,o,h=>by simp [renS] at h
 | .mref k,o,h=>by simp [renS] at h
 | .arr k g E,o,h=>by simp [renS] at h
 | .aref k g i E p T,o,h=>by simp [renS] at h
 | .eref k i E,o,h=>by simp [renS] at h
 | .asl k lo n E,o,h=>by simp [renS] at h
 | .iref k,o,h=>by simp [renS] at h
 | .gd _ _ _,o,h=>by simp [renS] at h
 | .nx _ _ _,o,h=>by simp [renS] at h
 | .tup _,o,h=>by simp [renS] at h
 | .mitr _,o,h=>by simp [renS] at h
 | .sln _ _,o,h=>h
 | .undef,o,h=>h
 | .bool _,o,h=>h
 | .int _ _,o,h=>h
 | .str _,o,h=>h
 | .slice _ _,o,h=>h
 | .data _ _,o,h=>h
 | .map _ _ _,o,h=>h
 | .nils,o,h=>h
 | .eif _,o,h=>h
 | .pto _ _,o,h=>h
 | .raw _,o,h=>h
 | .lit _ _,o,h=>h
theorem ajy {M H:Nat->Nat}{O:Nat->Option Nat}:∀ (l o:List SV),renL [] (λ_=>none) M l=some o->renL [] O H l=some o
 | [],o,h=>h
 | s::r,o,h=>by
  simp only [renL] at h ⊢;split at h
  ·rename_i x q J I;rw [anp s x J,ajy r q I];exact h
  ·cases h
end
theorem aey {rs:List SV}{sub:List BX}{o:List SV} (h:ae8 rs sub=some o) (st:List BX):aem st [] rs sub=some (o,[]):=by
 unfold ae8 at h;split at h
 ·unfold aem;rw [ajy rs o h];rfl
 ·cases h
theorem a7m {rs:List SV}{sub:List BX}{o:List SV} (h:ae8 rs sub=some o):sub=[]:=by grind [ae8]
mutual
theorem ano {h:Nat->Nat} (st st':List BX):∀ (s:SV),renS st (ace []) h s=renS st' (ace []) h s
 | .fn f n caps=>by simp only [renS];rw [af2 st st' caps]
 | .agg T o=>by simp only [renS];rw [af2 st st' o]
 | .ifc T s=>by simp only [renS];rw [ano st st' s]
 | .pan s=>by simp only [renS];rw [ano st st' s]
 | .acc k g E xs=>by simp only [renS];rfl
 | .ref k p T=>rfl
 | .bref k T=>rfl
 | .mref k=>rfl
 | .arr k g E=>rfl
 | .aref k g i E p T=>rfl
 | .eref k i E=>rfl
 | .asl k H n E=>rfl
 | .iref k=>rfl
 | .gd _ _ _=>rfl
 | .nx _ _ _=>rfl
 | .tup _=>rfl
 | .undef=>rfl
 | .bool _=>rfl
 | .int _ _=>rfl
 | .str _=>rfl
 | .slice _ _=>rfl
 | .data _ _=>rfl
 | .map _ _ _=>rfl
 | .nils=>rfl
 | .eif _=>rfl
 | .pto _ _=>rfl
 | .raw _=>rfl
 | .lit _ _=>rfl
 | .sln _ _=>rfl
 | .mitr _=>rfl
theorem af2 {h:Nat->Nat} (st st':List BX):∀ (l:List SV),renL st (ace []) h l=renL st' (ace []) h l
 | []=>rfl
 | s::r=>by simp only [renL];rw [ano st st' s,af2 st st' r]
end
mutual
theorem akn (st st':List BX):∀ (s:SV),amx false st s=amx false st' s
 | .fn f n caps=>by simp only [amx];rw [agc st st' caps]
 | .agg T h=>by simp only [amx];rw [agc st st' h]
 | .ifc T s=>by simp only [amx];rw [akn st st' s]
 | .pan s=>by simp only [amx];rw [akn st st' s]
 | .acc k g E xs=>rfl
 | .ref k p T=>rfl
 | .bref k T=>rfl
 | .mref k=>rfl
 | .arr k g E=>rfl
 | .aref k g i E p T=>rfl
 | .eref k i E=>rfl
 | .asl k o n E=>rfl
 | .iref k=>rfl
 | .gd _ _ _=>rfl
 | .nx _ _ _=>rfl
 | .tup _=>rfl
 | .undef=>rfl
 | .bool _=>rfl
 | .int _ _=>rfl
 | .str _=>rfl
 | .slice _ _=>rfl
 | .data _ _=>rfl
 | .map _ _ _=>rfl
 | .nils=>rfl
 | .eif _=>rfl
 | .pto _ _=>rfl
 | .raw _=>rfl
 | .lit _ _=>rfl
 | .sln _ _=>rfl
 | .mitr _=>rfl
theorem agc (st st':List BX):∀ (l:List SV),aft false st l=aft false st' l
 | []=>rfl
 | s::r=>by simp only [aft];rw [akn st st' s,agc st st' r]
end
theorem ahl {st st':List BX}{args:List SV} (h:aar st args=[]):aar st' args=[]:=by have o:=auw h;unfold aar;rw [agc st' st,o];rfl
def aak (C:Cfg):Prop:=∀ (R:Type) (b:Bool) (f:FuncId) (h:List SV) (st:List BX) (K:List SV->List BX->Option R) (r:R),C.call R b f h st K=some r->
 (b=true->∃ rs st',K rs st'=some r/\Meets C.P f h st rs st')/\∃ rs st',K rs st'=some r
def GInv (e:Env) (l:List Oper):Prop:=∀ t u h x,e t=.gd u h x->u∉dsts l
section
variable {Γ:Ctx}
theorem af6 {ops:Array Oper}{o:Oper}{j t:Nat}{h:Bool}{tmps:Array Value} (H:o.guard=some (j,h)) (I:(ops[j]?).bind (·.dst)=some t):Region.wanted o (yielded ops tmps)=true ↔ tmps.getD t Go.undef=.bool h:=by
 have e:tmps.getD t Go.undef=(tmps[t]?).getD Go.undef:=by simp
 grind [Region.wanted,yielded,Go.undef]
theorem GInv.sub {e:Env}{o:Oper}{l:List Oper} (h:GInv e (o::l)):GInv e l:=λt u H x I J=>h t u H x I (by grind [dsts,List.mem_cons_of_mem])
theorem GInv.clean {e:Env}{o:Oper}{l:List Oper} (h:GInv e (o::l)) {d:Nat} (J:o.dst=some d):awz e d:=λt u H x I M=>h t u H x I (by grind [dsts])
theorem GInv.put {e:Env}{o:Oper}{l:List Oper} (h:GInv e (o::l)) (s:SV) (hs:∀ u H x,s=.gd u H x->u∉dsts (o::l)):GInv (Ab.put e o.dst s) l:=by
 intro t u H x I Z;have J:u∈dsts (o::l):=by grind [dsts,List.mem_cons_of_mem]
 cases M:o.dst with
 | none=>rw [M] at I;exact h t u H x I J
 | some d=>
  rw [M] at I;simp only [Ab.put,Env.set] at I;cases O:Nat.beq t d with
  | true=>grind
  | false=>rw [O] at I;exact h t u H x I J
theorem afk {C:Cfg}{o:Oper} (h:aln C.n o.dst=true):∀ x,o.dst=some x->x<C.n:=by intro x H;rw [H] at h;exact Au h
theorem agl {D:Dom}{ow:Own}{μ:Nat->Nat}{e:Env}{st st':List BX}{a:Act}{w:World}{C:Cfg} (hn:Γ.n=C.n) (hs:Slots Γ D ow μ e st a w) {o:Oper}{l:List Oper} (hd:aln C.n o.dst=true) (hg:GInv e (o::l)) {v:SV}{r:Result Next}
 (h:OpRes Γ D ow μ st w r v st') (s:SV) (M:∀ (D':Dom) (w':World) (H:Own) (I:Nat->Nat) (u:Value),SRep Γ.P D' w' H I st' v u->SlotRep Γ.P D' w' H I st' a s u) (ad:∀ t J x,s=.gd t J x->t∉dsts (o::l))
 (next:Act->World->Prop) (Q:Exit->Act->World->Prop) (O:∀ Z w',Rel Γ (put e o.dst s) st' Z w'->next Z w'):o.upon Γ.P a next Q r:=by
 obtain ⟨u,w',D',H,I,hr,hw,hm,hv⟩:=h
 have aa:Rel Γ (put e o.dst s) st' (a.put o.dst u) w':=by refine ⟨D',H,I,hw,(hs.mono hm).put o.dst s u (λx hx=>⟨by rw [hn];exact afk hd x hx,hg.clean hx⟩) (M _ _ _ _ _ hv) (λt J x hh ab=>?_)⟩;grind [dsts]
 grind [Oper.upon_value,Oper.upon_skip]
def PRel (Γ:Ctx) (s:SV) (st:List BX) (v:Value) (a:Act) (w:World):Prop:=a.defers=[]/\∃ D ow μ,WRel Γ D ow μ st w/\SRep Γ.P D w ow μ st s v
theorem aef {R:Type}{rs:List SV}{k:Option R}{x:SV->Option R}{r:R} (h:fork rs k x=some r):(∃ s,rs=[.pan s]/\x s=some r)\/((∀ s,rs≠[.pan s])/\k=some r):=by unfold fork at h;grind
theorem adj {R:Type}{rs:List SV}{k:Option R}{r:R} (h:fork rs k (λ_=>none)=some r):(∀ s,rs≠[.pan s])/\k=some r:=by grind [aef]
theorem auz {R:Type}{C:Cfg} (hC:aak C) (hP:C.P=Γ.P) (hn:Γ.n=C.n) (aK:Γ.np=C.np) {ops:Array Oper}{i:Nat}{o:Oper} (ho:ops[i]?=some o) {J:List Oper}{e:Env}{st:List BX}{K:Env->List BX->Option R}{X:SV->List BX->Option R}{r:R} (h:a1v C ops o J e st K X=some r)
 {a:Act}{w:World} (aH:Rel Γ e st a w) (hg:GInv e (o::J)) (next:Act->World->Prop) (Q:Exit->Act->World->Prop)
 (I:∀ e' st' a' w',K e' st'=some r->GInv e' J->Rel Γ e' st' a' w'->next a' w') (hX:∀ s st' v a' w',X s st'=some r->PRel Γ s st' v a' w'->Q (.panic [{ v,recovered:=false }]) a' w'):wpOp Γ.P ops Q i next a w:=by
 obtain ⟨D,ow,μ,hw,hs⟩:=aH
 unfold a1v at h
 cases hd:aln C.n o.dst with
 | false=>rw [hd] at h;simp at h
 | true=>
 rw [hd] at h
 simp only [Af,hP] at h
 unfold wpOp
 simp only [ho]
 have aB:∀ f,a.eval (.func f)=.func (.func f) #[] #[]:=λf=>rfl
 cases aA:o.guard with
 | none=>
  have aG:Region.wanted o (yielded ops a.tmps)=true:=by simp [Region.wanted,aA]
  simp only [aG,A9]
  refine Or.inl ?_
  unfold Oper.wp
  rw [aA] at h
  simp only at h
  have ai:∀ x,SRep Γ.P D w ow μ st (opd e [] x) (a.eval x):=λx=>abn hs [] (λ_ hx=>by cases hx) x
  have aR:∀ v:SV,(∀ u,SRep Γ.P D w ow μ st v u->True)->True:=λ_ _=>trivial
  split at h
  ·simp at h
  ·rename_i c v aa;cases c with
   | false=>simp at h
   | true=>
    simp only [Af] at h;have ah:=aex hw ai o (ρt:=match o.op with | .pick (.tmp t) _ _=>opd e [(t,true)] | _=>opd e []) (ρf:=match o.op with | .pick (.tmp t) _ _=>opd e [(t,false)] | _=>opd e []) (λc x y aE=>by
     rw [aE];refine ⟨λhc=>?_,λhc=>?_⟩
     ·cases c with
      | tmp t=>exact abn hs [(t,true)] (λz hz=>by simp at hz;subst hz;exact hc) x
      | _=>exact ai x
     ·cases c with
      | tmp t=>exact abn hs [(t,false)] (λz hz=>by simp at hz;subst hz;exact hc) y
      | _=>exact ai y) v aa
    have ag:∀ t H x,v=.gd t H x->t∉dsts (o::J):=by intro t H x hv;obtain ⟨u,w',D',aP,aQ,_,_,_,aF⟩:=ah;subst hv;cases aF
    exact agl hn hs hd hg ah v (λ_ _ _ _ _ h=>h.slot) ag next Q (λa' w' hr=>I _ _ a' w' h (hg.put v ag) hr)
  ·rename_i c v st' aa;cases c with
   | false=>simp at h
   | true=>
    simp only [Af] at h;have ah:=ak7 hw ai o v st' aa;have ag:∀ t H x,v=.gd t H x->t∉dsts (o::J):=by intro t H x hv;obtain ⟨u,w',D',aP,aQ,_,_,_,aF⟩:=ah;subst hv;cases aF
    exact agl hn hs hd hg ah v (λ_ _ _ _ _ h=>h.slot) ag next Q (λa' w' hr=>I _ _ a' w' h (hg.put v ag) hr)
  ·rename_i v aa;obtain ⟨u,ae,hu⟩:=aqz ai o v aa;rw [ae,Oper.upon_panic];exact hX v st u a w h ⟨hs.defers,D,ow,μ,hw,hu⟩
  ·rename_i f args aa;cases az:(C.frz f&&Nat.beq C.np 0) with
   | true=>
    rw [az] at h;simp only [Af] at h;simp only [Aj] at az;have h0:Γ.np=0:=aK.trans (Ae az.2);split at h;case h_2=>cases h
    rename_i aS aL;split at h;case h_2=>cases h
    rename_i as ao;obtain ⟨aj,ae,aq,ab⟩:=abx ai aB o f args aa;obtain ⟨l1,ay⟩:=ax0 hw rfl ab aL;obtain ⟨rs,ar,Z,hm⟩:=(hC R true f as [] _ r h).1 rfl;split at Z;case h_2=>cases Z
    rename_i ax ad;rw [hP] at hm;rw [ae,hm.1 aj w,Oper.upon_enter];refine (adc (hw.letGo h0 (aph args)) (ks:=[]) (by simp) (sub:=[]) rfl ao (aq.trans l1.symm) ay hm (aey ad [])).mono λen w' ⟨v,D',ak,al,he,h1,h2,h3⟩=>?_;obtain ⟨an,Z⟩:=adj Z;rcases ab0 h3 with ⟨s,e,_⟩ | ⟨_,h3,af⟩
    ·exact absurd e (an s)
    rw [af] at he;subst he;have aC:abq [] [] ([]:List BX)=[]:=by simp [abq]
    rw [aC] at h1 h2 h3;have ag:∀ t H x,ac9 ax=.gd t H x->t∉dsts (o::J):=by intro t H x hv;rw [hv] at h3;cases h3
    have aM:Slots Γ D' ak al (λ_=>.undef) [] a w':=⟨hs.size,hs.defers,λt=>.undef⟩;have aJ:GInv (λ_=>.undef) (o::J):=λt u H x h=>by cases h
    refine I _ _ _ _ Z (aJ.put _ ag) ⟨D',ak,al,h1,aM.put o.dst _ v (λx hx=>⟨by rw [hn];exact afk hd x hx,λt u H x h=>by cases h⟩) h3.slot (λt H x hh am=>?_)⟩;exact ag t H x hh (by unfold dsts;simp [List.filterMap_cons,am])
   | false=>
   rw [az] at h;simp only [Ah] at h;split at h
   ·rename_i as sub ao aw;obtain ⟨aj,ae,aq,ab⟩:=abx ai aB o f args aa;obtain ⟨rs,ar,Z,hm⟩:=(hC R true f as sub _ r h).1 rfl;split at Z;case h_2=>cases Z
    rename_i ax bs ad;rw [hP] at hm;rw [ae,hm.1 aj w,Oper.upon_enter];refine (adc hw (adm _ _) aw ao aq ab hm ad).mono λen w' ⟨v,D',ak,al,he,h1,h2,h3⟩=>?_;rcases aef Z with ⟨s,rfl,Z⟩ | ⟨an,Z⟩
    ·subst he;exact hX s _ v a w' Z ⟨hs.defers,D',ak,al,h1,h3⟩
    rcases ab0 h3 with ⟨s,e,_⟩ | ⟨_,h3,af⟩
    ·exact absurd e (an s)
    rw [af] at he;subst he;have ag:∀ t H x,ac9 ax=.gd t H x->t∉dsts (o::J):=by intro t H x hv;rw [hv] at h3;cases h3
    refine I _ _ _ _ Z (hg.put _ ag) ⟨D',ak,al,h1,(hs.mono h2).put o.dst _ v (λx hx=>⟨by rw [hn];exact afk hd x hx,hg.clean hx⟩) h3.slot (λt H x hh am=>?_)⟩;exact ag t H x hh (by unfold dsts;simp [List.filterMap_cons,am])
   ·simp at h
 | some jw=>
  obtain ⟨j,H⟩:=jw
  rw [aA] at h
  simp only at h
  cases ht:(ops[j]?).bind (·.dst) with
  | none=>rw [ht] at h;simp at h
  | some t=>
   rw [ht] at h
   simp only at h
   cases av:(dsts (o::J)).any (Nat.beq t) with
   | true=>rw [av] at h;simp at h
   | false=>
    rw [av] at h
    simp only [Ah] at h
    have aN:t∉dsts (o::J):=λhm=>by have:(dsts (o::J)).any (Nat.beq t)=true:=List.any_eq_true.2 ⟨t,hm,Bi t⟩;rw [av] at this;cases this
    cases aD:gval e 8 t H with
    | none=>rw [aD] at h;simp at h
    | some b=>
     rw [aD] at h
     simp only at h
     have au:=afn hs 8 t H b aD
     have aI:=af6 (tmps:=a.tmps) aA ht
     have O:∀ v:SV,∀ t' M x,SV.gd t H v=.gd t' M x->t'∉dsts (o::J):=λv t' M x he=>by cases he;exact aN
     have skip:∀ v:SV,b=false->Rel Γ (put e o.dst (.gd t H v)) st (a.put o.dst Go.undef) w:=by
      intro v hb;have an:a.tmps.getD t Go.undef≠.bool H:=λhh=>by have:=au.1 hh;rw [hb] at this;cases this
      refine ⟨D,ow,μ,hw,hs.put o.dst _ Go.undef (λx hx=>⟨by rw [hn];exact afk hd x hx,hg.clean hx⟩) ⟨λhh=>absurd hh an,λ_=>rfl⟩ (λt' M x hh am=>?_)⟩;exact O v t' M x hh (by unfold dsts;simp [List.filterMap_cons,am])
     cases hb:b with
     | false=>
      have aO:Region.wanted o (yielded ops a.tmps)=false:=by
       cases hc:Region.wanted o (yielded ops a.tmps) with
       | false=>rfl
       | true=>have:=au.1 (aI.1 hc);rw [hb] at this;cases this
      simp only [aO,A6,A8]
      split at h
      ·rename_i c v aa;have hi:imp b c=true:=by rw [hb];cases c<;>rfl
       rw [hi] at h;exact I _ _ _ _ h (hg.put _ (O v)) (skip v hb)
      ·rename_i f args aa;split at h
       ·obtain ⟨rs,ar,Z⟩:=(hC R b f _ [] _ r h).2;split at Z;case h_2=>cases Z
        exact I _ _ _ _ (adj Z).2 (hg.put _ (O _)) (skip _ hb)
       ·rw [hb] at h;simp only [Ah] at h;exact I _ _ _ _ h (hg.put _ (O _)) (skip _ hb)
      ·simp at h
     | true=>
      have ap:a.tmps.getD t Go.undef=.bool H:=au.2 hb
      have aG:Region.wanted o (yielded ops a.tmps)=true:=aI.2 ap
      simp only [aG,A9]
      refine Or.inl ?_
      unfold Oper.wp
      have ai:∀ x,SRep Γ.P D w ow μ st (opd e [(t,H)] x) (a.eval x):=λx=>abn hs [(t,H)] (λz hz=>by simp at hz;subst hz;exact ap) x
      split at h
      ·rename_i c v aa;have hc:c=true:=by
        rw [hb] at h;cases c with
        | true=>rfl
        | false=>simp [imp] at h
       subst hc;have hi:imp b true=true:=rfl;rw [hi] at h;simp only [Af] at h;have ah:=aex hw ai o (ρt:=match o.op with | .pick (.tmp u) _ _=>opd e [(u,true),(t,H)] | _=>opd e []) (ρf:=match o.op with | .pick (.tmp u) _ _=>opd e [(u,false),(t,H)] | _=>opd e []) (λc x y aE=>by
        rw [aE];refine ⟨λhc=>?_,λhc=>?_⟩
        ·cases c with
         | tmp u=>exact abn hs [(u,true),(t,H)] (λz hz=>by simp at hz;rcases hz with rfl | rfl;exact hc;exact ap) x
         | _=>exact abn hs [] (λ_ hx=>by cases hx) x
        ·cases c with
         | tmp u=>exact abn hs [(u,false),(t,H)] (λz hz=>by simp at hz;rcases hz with rfl | rfl;exact hc;exact ap) y
         | _=>exact abn hs [] (λ_ hx=>by cases hx) y) v aa
       exact agl hn hs hd hg ah (.gd t H v) (λ_ _ _ _ _ h=>⟨λ_=>h,λhh=>absurd ap hh⟩) (O v) next Q (λa' w' hr=>I _ _ a' w' h (hg.put _ (O v)) hr)
      ·rename_i f args aa;split at h
       ·rename_i as aT ao;obtain ⟨aj,ae,aq,ab⟩:=abx ai aB o f args aa;obtain ⟨rs,ar,Z,hm⟩:=(hC R b f as [] _ r h).1 hb;split at Z;case h_2=>cases Z
        rename_i ax ad;rw [hP] at hm;rw [ae,hm.1 aj w,Oper.upon_enter];refine (adc hw (ks:=[]) (by simp) (sub:=[]) rfl ao aq ab hm (aey ad st)).mono λen w' ⟨v,D',ak,al,he,h1,h2,h3⟩=>?_;obtain ⟨an,Z⟩:=adj Z;rcases ab0 h3 with ⟨s,e,_⟩ | ⟨_,h3,af⟩
        ·exact absurd e (an s)
        rw [af] at he;subst he;have aC:abq [] [] st=st:=by simp [abq]
        rw [aC] at h1 h2 h3;refine I _ _ _ _ Z (hg.put _ (O _)) ⟨D',ak,al,h1,(hs.mono h2).put o.dst _ v (λx hx=>⟨by rw [hn];exact afk hd x hx,hg.clean hx⟩) ⟨λ_=>h3,λhh=>absurd ap hh⟩ (λt' M x hh am=>?_)⟩;exact O _ t' M x hh (by unfold dsts;simp [List.filterMap_cons,am])
       ·rw [hb] at h;simp only [Af] at h;split at h;case h_2=>cases h
        rename_i as sub ao aw;obtain ⟨aj,ae,aq,ab⟩:=abx ai aB o f args aa;obtain ⟨rs,ar,Z,hm⟩:=(hC R true f as sub _ r h).1 rfl;split at Z;case h_2=>cases Z
        rename_i ax bs ad;rw [hP] at hm;rw [ae,hm.1 aj w,Oper.upon_enter];refine (adc hw (adm _ _) aw ao aq ab hm ad).mono λen w' ⟨v,D',ak,al,he,h1,h2,h3⟩=>?_;rcases aef Z with ⟨s,rfl,Z⟩ | ⟨an,Z⟩
        ·subst he;exact hX s _ v a w' Z ⟨hs.defers,D',ak,al,h1,h3⟩
        rcases ab0 h3 with ⟨s,e,_⟩ | ⟨_,h3,af⟩
        ·exact absurd e (an s)
        rw [af] at he;subst he;refine I _ _ _ _ Z (hg.put _ (O _)) ⟨D',ak,al,h1,(hs.mono h2).put o.dst _ v (λx hx=>⟨by rw [hn];exact afk hd x hx,hg.clean hx⟩) ⟨λ_=>h3,λhh=>absurd ap hh⟩ (λt' M x hh am=>?_)⟩;exact O _ t' M x hh (by unfold dsts;simp [List.filterMap_cons,am])
      ·simp at h
end
end Go.Ab
