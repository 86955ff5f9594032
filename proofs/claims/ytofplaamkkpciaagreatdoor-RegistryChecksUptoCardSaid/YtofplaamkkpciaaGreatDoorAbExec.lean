/- The evaluator is sound: regions, code. -/
import Derived.Test.YtofplaamkkpciaaGreatDoorAbCall
set_option linter.unusedVariables false
set_option linter.unusedSimpArgs false
set_option linter.unnecessarySimpa false
namespace Go.Ab
open Go
section
variable{Γ:Ctx}{D:Dom}{ow:Own}{μ:Nat->Nat}{st:List BX}{w:World}
theorem a6u{z:Nat->Option Nat}{t:Nat->Nat}{m:List BX}:∀{l o:List BX}{j:Nat},bbx m z t j l=some o->o.length=l.length/\∀(i:Nat)(x:BX),l[i]?=some x->∃y,o[i]?=some y/\aix m z t (j+i) x=some y:=by
 intro l;induction l with
 |nil=>grind[bbx,Option.some.injEq]
 |cons b r G=>grind[bbx,Option.some.injEq]
theorem azh:∀(ks:List Nat)(bs st:List BX),ks.Nodup->ks.length<=bs.length->(∀k,k∈ks->k<st.length)->
 (ab2 ks bs st).length=st.length+(bs.length-ks.length)/\(∀k,k<st.length->k∉ks->(ab2 ks bs st)[k]?=st[k]?)/\(∀(j k:Nat),ks[j]?=some k->(ab2 ks bs st)[k]?=bs[j]?)/\
 (∀i,(ab2 ks bs st)[st.length+i]?=bs[ks.length+i]?):=by
 intro ks
 induction ks with
 |nil=>grind[ab2,List.getElem?_append_left,List.getElem?_append_right]
 |cons x r z=>
  intro bs st t m o
  cases bs with
  |nil=>simp at m
  |cons b q=>
   obtain⟨G,H⟩:=List.nodup_cons.1 t
   grind[ab2,List.getElem?_set_ne,List.getElem?_set_self,List.length_set,Nat.add_right_comm]
def al5(ow:Own)(n:Nat)(ks:List Nat)(m:Own):Own:=λb=>
 match m b with
 |some j=>adc n ks j
 |none=>match ow b with|some k=>if k∈ks then none else some k|none=>none
def aj7(st:List BX)(μ m:Nat->Nat)(n:Nat)(ks:List Nat):Nat->Nat:=λk=>if k<n then(match st[k]? with|some (.arr _ _ _)=>(if k∈ks then m (idx k ks)else μ k)|_=>μ k)else m (k-n+ks.length)
theorem adx(I:WRel Γ D ow μ st w){ks:List Nat}(hn:ks.Nodup){sub:List BX}(ah:ah4 st (acr ks) (λ_=>0) ks=some sub){args as:List SV}(aO:renL st (acr ks) (λ_=>0) args=some as){aa:Array Value}(aW:aa.size=args.length)
 (aN:∀(i:Nat)(s:SV)(v:Value),args[i]?=some s->aa[i]?=some v->SRep Γ.P D w ow μ st s v) {f:FuncId}{rs:List SV}{t:List BX} (hm:Meets Γ.P f as sub rs t) {aA:List SV}{bs:List BX} (U:ae9 st ks rs t=some (aA,bs)):
 Calls Γ.P f aa w λe w'=>∃v D' az aB,e=aig aA v/\WRel Γ D' az aB (ab2 ks bs st) w'/\Moves D w ow μ st D' w' az aB (ab2 ks bs st)/\aia Γ.P D' w' az aB (ab2 ks bs st) aA v:=by
 obtain⟨a9,ag⟩:=ajw ks sub ah
 have em:=Emb.sub (ow:=ow) (μ:=μ) hn ah
 obtain⟨aM,a2⟩:=aiy aO
 have tabs:Tabs Γ.P (ags ow ks) w:=by
  intro p hp g hg;obtain⟨J,cs,T,fr,O,h3⟩:=Γ.tabs p hp g hg;have H:g<Γ.B:=by rw[Γ.hB];grind
  have aU:ow g=none:=by
   cases ho:ow g with
   |none=>rfl
   |some k=>have:=I.owN g k ho H;grind
  exact⟨by simp[ags,aU],cs,T,fr,by rw[I.old g H J];exact O,h3⟩
 have aY:Pre Γ.P D (ags ow ks) (λj=>μ (ks.getD j 0)) sub w as aa:=by refine⟨by rw[aW,aM],λi s v hs hv=>?_,I.objs.sub hn ah,tabs⟩;grind[ae7]
 refine(hm.2 D (ags ow ks) (λj=>μ (ks.getD j 0)) w aa aY).mono λe w'⟨v,D',he,hp⟩=>?_
 obtain⟨Y,Z,hr⟩:=hp.rest
 unfold ae9 at U
 split at U
 case h_2=>cases U
 rename_i bc ar aV aP
 simp only[Aj,Prod.mk.injEq]at U
 obtain⟨rfl,rfl⟩:=U
 obtain⟨av,W⟩:=a6u aP
 have a5:sub.length<=t.length:=by
  rcases Nat.lt_or_ge t.length sub.length with h|h
  ·obtain⟨b',J,_⟩:=hr.keep t.length _ (Ap h);grind
  ·exact h
 have aK:∀k,k∈ks->k<st.length:=by grind[List.mem_iff_getElem?,List.getElem?_eq_some_iff]
 obtain⟨bl,bo,bk,bn⟩:=azh ks ar st hn (by omega) aK
 generalize hB:ab2 ks ar st=B at*
 have au:B.length=st.length+(t.length-ks.length):=by rw[bl,av]
 have ae:∀(j k:Nat),ks[j]?=some k->adc st.length ks j=some k:=λj k h=>by grind[adc]
 have aL:∀(j:Nat),ks.length<=j->adc st.length ks j=some (st.length+(j-ks.length)):=λj h=>by grind[adc,List.getElem?_eq_none]
 have V:∀(j k:Nat),adc st.length ks j=some k->ks[j]?=some k\/(ks.length<=j/\k=st.length+(j-ks.length)):=by grind
 have aC:∀(j k:Nat),adc st.length ks j=some k->B[k]?=ar[j]?:=by
  intro j k h;rcases V j k h with h|⟨J,O⟩
  ·grind
  simp_all
 have aj:∀(j k:Nat)(b:BX),ks[j]?=some k->st[k]?=some b->∃b1,t[j]?=some b1/\b1.kind=b.kind/\((∀g,b≠.acc g)->(∀E g xs,b≠.arr E g xs)->Z j=μ k):=by intro j k b M G;obtain⟨b0,b',J,O,h3⟩:=ag j k M;rw[G]at J;cases J;obtain⟨q1,q2⟩:=acw O;obtain⟨b1,r1,r2,r3⟩:=hr.keep j b' h3;grind[agn,axr,List.getD]
 have ax:∀k,k<st.length->k∉ks->aj7 st μ Z st.length ks k=μ k:=by intro k G aG;simp only[aj7,G,A8];grind
 have ad:∀k b,st[k]?=some b->(∀E g xs,b≠.arr E g xs)->aj7 st μ Z st.length ks k=μ k:=by intro k b U a7;have G:=(A6.1 U).1;simp_all[aj7,A8]
 have a1:∀j k E g xs,ks[j]?=some k->st[k]?=some (.arr E g xs)->aj7 st μ Z st.length ks k=Z j:=by intro j k E g xs M U;have G:=(A6.1 U).1;have aG:=List.mem_of_getElem? M;have e:idx k ks=j:=aqw hn (auz (List.any_eq_true.2 ⟨k,aG,Bg k⟩)) M;simp_all[aj7,A8]
 have mb:Emb (adc st.length ks) (ag6 st ks t) Y Z t (al5 ow st.length ks Y) (aj7 st μ Z st.length ks) B:=by
  refine⟨λj k b G M=>?_,λj k b G a8=>by grind[al5]⟩;obtain⟨y,aw,ai⟩:=W j b M;rw[Nat.zero_add]at ai;obtain⟨q1,q2⟩:=acw ai;refine⟨y,by grind,q1,λa0=>?_,q2⟩;rcases V j k G with h|⟨J,O⟩
  ·grind[List.mem_of_getElem?,List.getElem?_eq_getElem,agn]
  ·have:¬k<st.length:=by omega
   simp only[aj7,this,A9];grind
 have al:∀b,(∀k,k∈ks->ow b≠some k)->b<w.heap.size->w'.heap[b]?=w.heap[b]?:=λb U H=>hp.old b H (ane U)
 have ab:∀b k,ow b=some k->k∉ks->w'.heap[b]?=w.heap[b]?:=λb k ob G=>al b (λk' aS e=>by grind) (I.owlt b k ob).1
 have ak:∀b k,ow b=some k->k∉ks->∀o,D' b o->D b o:=by
  intro b k ob G o d;rcases hp.new b o d with h|h|h
  ·exact h
  ·have:=(I.owlt b k ob).1;omega
  grind[absurd,ane]
 have ao:∀b k,k∉ks->ow b=some k->al5 ow st.length ks Y b=some k:=by
  intro b k G ob;have a6:Y b=none:=by
   cases h:Y b with
   |none=>rfl
   |some j=>obtain⟨k',M,ba⟩:=ae5 (hr.own b j h (I.owlt b k ob).1);grind
  simp_all[al5,A9]
 have ay:∀b k,al5 ow st.length ks Y b=some k->(k∉ks/\ow b=some k)\/∃j,adc st.length ks j=some k/\Y b=some j:=by
  intro b k h;unfold al5 at h;split at h
  ·grind
  ·split at h
   ·rename_i k' aS;split at h;all_goals grind
   ·cases h
 have aq:∀(k:Nat)(b:BX),st[k]?=some b->k∉ks->B[k]?=some b:=λk b h G=>by grind
 have X:∀(k:Nat)(b:BX),st[k]?=some b->∃b',B[k]?=some b'/\b'.kind=b.kind:=by
  intro k b h;by_cases G:k∈ks
  ·obtain⟨j,M⟩:=List.mem_iff_getElem?.1 G;grind[acw,trans]
  grind
 have m:Moves D w ow μ st D' w' (al5 ow st.length ks Y) (aj7 st μ Z st.length ks) B:=by
  refine⟨hp.dom,hp.keeps,λk T s e=>⟨ad k _ e (by simp),?_⟩,λk K E es e=>⟨ad k _ e (by simp),?_⟩,λk b e hs=>⟨ad k _ e (λE g xs U=>by subst U;exact hs rfl),?_⟩,λk E g xs e=>?_,λk g e=>?_⟩
  ·obtain⟨b',J,O⟩:=X k _ e;obtain⟨s',rfl⟩:=aox O;grind
  ·obtain⟨b',J,O⟩:=X k _ e;obtain⟨s',rfl⟩:=a3d O;grind
  ·obtain⟨b',J,O⟩:=X k _ e;refine⟨b',J,?_⟩;cases b with
   |iter s p=>obtain⟨s',p',rfl⟩:=bal O;rfl
   |bld T s=>obtain⟨s',rfl⟩:=a3c O;rfl
   |mit K E es=>cases b'<;>simp[BX.kind]at O;obtain⟨rfl,rfl⟩:=O;rfl
   |_=>exact absurd rfl hs
  ·by_cases G:k∈ks
   ·obtain⟨j,M⟩:=List.mem_iff_getElem?.1 G;obtain⟨b1,r1,r2,_⟩:=aj j k _ M e;obtain⟨g1,ys,rfl⟩:=ajk r2;obtain⟨b',J,_,_,_,h5⟩:=mb.obj j k _ (ae j k M) r1;have h5:=h5 _ _ _ rfl;rw[h5]at J;have aF:ag6 st ks t j=(bif Nat.beq g1 0 then g else g+1):=by grind[ag6]
    rw[aF]at J;refine⟨_,_,J,?_,λa4=>?_⟩
    ·grind
    ·have aQ:g1=0:=by
      grind[Nat.beq,Nat.eq_of_beq_eq_true]
     subst aQ;obtain⟨b0,b2,q1,q2,q3⟩:=ag j k M;rw[e]at q1;cases q1;have q2:=(acw q2).2.2 _ _ _ rfl;rw[q2]at q3;obtain⟨s1,s2⟩:=hr.same j E 0 xs ys q3 r1;refine⟨s1,λaD hc aT=>?_⟩;have a3:ks.getD j 0=k:=by grind
     obtain⟨t1,t2,aZ,t3,t4⟩:=s2 aD (by grind) (by grind[avm]);grind[trans,al5]
   ·refine⟨g,xs,aq k _ e G,Nat.le_refl _,λ_=>⟨rfl,λaD hc aT=>?_⟩⟩;grind
  ·by_cases G:k∈ks
   ·obtain⟨j,M⟩:=List.mem_iff_getElem?.1 G;obtain⟨b1,r1,r2,_⟩:=aj j k _ M e;obtain⟨g1,rfl⟩:=bes r2;obtain⟨b',J,_,_,h4,_⟩:=mb.obj j k _ (ae j k M) r1;have:=h4 ⟨_,rfl⟩;rw[this]at J;have hg:ag6 st ks t j=g+1:=by unfold ag6;rw[M];simp only[e]
    rw[hg]at J;exact⟨g+1,J,by omega,λh=>by omega⟩
   ·exact⟨g,aq k _ e G,Nat.le_refl _,λ_ b ob=>⟨ab b k ob G,ao b k G ob,ak b k ob G⟩⟩
 have an:∀(k:Nat)(b:BX),B[k]?=some b->(k∉ks/\st[k]?=some b)\/∃j b1,adc st.length ks j=some k/\t[j]?=some b1/\aix t (adc st.length ks) (ag6 st ks t) j b1=some b:=by
  intro k b h;have af:∀j,adc st.length ks j=some k->∃j b1,adc st.length ks j=some k/\t[j]?=some b1/\aix t (adc st.length ks) (ag6 st ks t) j b1=some b:=by
   intro j M;have O:=aC j k M;rw[h]at O;have H:j<t.length:=by rw[<-av];exact(A6.1 O.symm).1
   obtain⟨y,aw,ai⟩:=W j _ (Ap H);rw[Nat.zero_add]at ai;rw[<-O]at aw;cases aw;exact⟨j,_,M,Ap H,ai⟩
  by_cases G:k∈ks
  ·obtain⟨j,M⟩:=List.mem_iff_getElem?.1 G;exact Or.inr (af j (ae j k M))
  ·by_cases H:k<st.length
   ·rw[bo k H G]at h;exact Or.inl ⟨G,h⟩
   ·exact Or.inr (af (k-st.length+ks.length) (by rw[aL _ (by omega)];congr 1;omega))
 have am:∀(k:Nat)(b:BX),B[k]?=some b->ObjIn Γ.P D' w' (al5 ow st.length ks Y) (aj7 st μ Z st.length ks) B k b:=by
  intro k b h;rcases an k b h with⟨G,J⟩|⟨j,b1,M,J,O⟩
  ·have H:=(A6.1 J).1;cases b with
   |box T s=>obtain⟨c,T',q1,q2,q3,q4,q5⟩:=I.box k T s J;exact BoxRep.mono ⟨c,T',q1,q2,q3,q4,q5⟩ m (ax k H G) (ab _ k q3 G) (ao _ k G q3) (λo d=>q4 o (ak _ _ q3 G o d))
   |map K E es=>obtain⟨ents,clock,kc,vc,q1,q2,q3⟩:=I.map k K E es J;exact OMapRep.mono ⟨ents,clock,kc,vc,q1,q2,q3⟩ m.dom m.keeps (ax k H G) (ab _ k q2 G) (ao _ k G q2) (λo d=>q3.1 o (ak _ _ q2 G o d))
   |acc g=>trivial
   |hole=>trivial
   |_=>exact(I.obj k _ J).mono m.dom m.keeps (λ_=>ax k H G) (λc oc=>⟨ab c k oc G,ao c k G oc,ak c k oc G⟩)
  ·exact(hr.objs.obj j b1 J).ren mb J M O
 have ap:∀k,k<Γ.np->∃b,B[k]?=some b/\b.kind=Γ.K0 k:=by intro k G;obtain⟨x,hx,p1⟩:=I.par k G;obtain⟨b',J,O⟩:=X k x hx;exact⟨b',J,O.trans p1⟩
 obtain⟨aI,aE⟩:=a6v mb hr.res aV
 rw[<-aE]at he
 refine⟨v,D',_,_,he,⟨λk T s e=>am k _ e,λk K E es e=>am k _ e,λk b e=>?_,λb k ob=>?_,hr.objs.dlt,hp.os.trans I.os,hp.tape.trans I.tape,hp.output.trans I.output,Nat.le_trans I.hs hp.size,
  λb U aH=>?_,λb o d=>hp.dom b o (I.dom0 b o d),λb o d=>?_,λb k ob U=>?_,by rw[au];have:=I.np;omega,λk G hK=>?_,ap,λb k y ob e hy o d=>?_,I.keep0.trans hp.keeps I.dom0,I.arr0_moves m ap⟩,m,aI⟩
 ·have:=am k b e;cases b with
  |box T s=>trivial
  |map K E es=>trivial
  |acc g=>trivial
  |hole=>trivial
  |_=>exact this
 ·rcases ay b k ob with⟨_,h⟩|⟨j,M,h⟩
  ·exact⟨A0 (I.owlt b k h).1 hp.size,by rw[au];have:=(I.owlt b k h).2;omega⟩
  ·have J:=hr.objs.owlt b j h;refine⟨J.1,?_⟩;rw[au];rcases V j k M with O|⟨O,h3⟩
   ·have:=aK k (List.mem_of_getElem? O);omega
   ·omega
 ·have H:b<w.heap.size:=A0 U I.hs;refine(al b (λk G e=>?_) H).trans (I.old b U aH);have:=I.owN b k e U;rw[aH]at this;cases this
 ·rcases hp.new b o d with d|d|d
  ·exact I.domN b o d
  ·exact Or.inr (Or.inl (Nat.le_trans I.hs d))
  ·cases ho:ow b with
   |none=>exact absurd (by simp[ags,ho]) d
   |some k=>
    by_cases U:b<Γ.B
    ·exact Or.inr (Or.inr (by rw[I.owN b k ho U];simp))
    ·exact Or.inr (Or.inl (by omega))
 ·rcases ay b k ob with⟨_,h⟩|⟨j,M,h⟩
  ·exact I.owN b k h U
  ·obtain⟨k',aR,h'⟩:=ae5 (hr.own b j h (A0 U I.hs));rw[ae j k' aR]at M;cases M;exact I.owN b k h' U
 ·obtain⟨x,hx,p1⟩:=I.par k G;rw[ad k x hx (λE g xs U=>by subst U;exact hK E p1.symm)];exact I.mu0 k G hK
 ·rcases ay b k ob with⟨G,h⟩|⟨j,M,h⟩
  ·rcases an k y e with⟨_,J⟩|⟨j,b1,M,_,_⟩
   ·exact I.lone b k y h J hy o (ak b k h G o d)
   ·rcases V j k M with O|⟨_,h3⟩
    ·exact absurd (List.mem_of_getElem? O) G
    ·have:=(I.owlt b k h).2;omega
  ·have O:=aC j k M;rw[e]at O;have H:j<t.length:=by rw[<-av];exact(A6.1 O.symm).1
   obtain⟨z,aJ,aX⟩:=W j _ (Ap H);rw[<-O]at aJ;cases aJ;exact hr.objs.lone b j _ h (Ap H) (agn (acw aX).1.symm hy) o d
end
mutual
theorem arj{J G:Nat->Nat}{M:Nat->Option Nat}:∀(s m:SV),renS [] (λ_=>none) J s=some m->renS [] M G s=some m
 |.fn f n o,m,h=>by
  simp only[renS]at h ⊢;split at h
  ·rename_i cs t;rw[amf o cs t];exact h
  ·cases h
 |.agg T H,m,h=>by
  simp only[renS]at h ⊢;split at h
  ·rename_i cs t;rw[amf H cs t];exact h
  ·cases h
 |.ifc T s,m,h=>by
  simp only[renS]at h ⊢;split at h
  ·rename_i x z;rw[arj s x z];exact h
  ·cases h
 |.pan s,m,h=>by
  simp only[renS]at h ⊢;split at h
  ·rename_i x z;rw[arj s x z];exact h
  ·cases h
 |.acc k g E xs,m,h=>by simp only[renS,Aj]at h ⊢;subst h;have:apb [] k g=false:=rfl;rw[this];split<;>rfl
 |.ref k p T,m,h=>by simp[renS]at h
 |.bref k T,m,h=>by simp[renS]at h
 |.mref k,m,h=>by simp[renS]at h
 |.arr k g E,m,h=>by simp[renS]at h
 |.aref k g i E p T,m,h=>by simp[renS]at h
 |.eref k i E,m,h=>by simp[renS]at h
 |.asl k I n E,m,h=>by simp[renS]at h
 |.avw k g I E,m,h=>by simp[renS]at h
 |.lits E ss,m,h=>by simp[renS]at h
 |.iref k,m,h=>by simp[renS]at h
 |.gd _ _ _,m,h=>by simp[renS]at h
 |.nx _ _ _,m,h=>by simp[renS]at h
 |.tup _,m,h=>by simp[renS]at h
 |.mitr _,m,h=>by simp[renS]at h
 |.sln _ _,m,h=>h
 |.undef,m,h=>h
 |.bool _,m,h=>h
 |.int _ _,m,h=>h
 |.str _,m,h=>h
 |.slice _ _,m,h=>h
 |.data _ _,m,h=>h
 |.map _ _ _,m,h=>h
 |.nils,m,h=>h
 |.eif _,m,h=>h
 |.pto _ _,m,h=>h
 |.raw _,m,h=>h
 |.lit _ _,m,h=>h
theorem amf{G o:Nat->Nat}{H:Nat->Option Nat}:∀(l m:List SV),renL [] (λ_=>none) G l=some m->renL [] H o l=some m
 |[],m,h=>h
 |s::r,m,h=>by
  simp only[renL]at h ⊢;split at h
  ·rename_i x q z t;rw[arj s x z,amf r q t];exact h
  ·cases h
end
theorem afo{o:List SV}{sub:List BX}{m:List SV}(h:af0 o sub=some m)(st:List BX):ae9 st [] o sub=some (m,[]):=by
 unfold af0 at h;split at h
 ·unfold ae9;rw[amf o m h];rfl
 ·cases h
theorem bg9{o:List SV}{sub:List BX}{m:List SV}(h:af0 o sub=some m):sub=[]:=by
 unfold af0 at h;split at h
 ·rfl
 ·cases h
mutual
theorem ari{o:Nat->Nat}(st st':List BX):∀(s:SV),renS st (acr []) o s=renS st' (acr []) o s
 |.fn f n m=>by simp only[renS];rw[agz st st' m]
 |.agg T t=>by simp only[renS];rw[agz st st' t]
 |.ifc T s=>by simp only[renS];rw[ari st st' s]
 |.pan s=>by simp only[renS];rw[ari st st' s]
 |.acc k g E xs=>by simp only[renS];rfl
 |.ref k p T=>rfl
 |.bref k T=>rfl
 |.mref k=>rfl
 |.arr k g E=>rfl
 |.aref k g i E p T=>rfl
 |.eref k i E=>rfl
 |.asl k z n E=>rfl
 |.avw k g z E=>rfl
 |.lits E ss=>rfl
 |.iref k=>rfl
 |.gd _ _ _=>rfl
 |.nx _ _ _=>rfl
 |.tup _=>rfl
 |.undef=>rfl
 |.bool _=>rfl
 |.int _ _=>rfl
 |.str _=>rfl
 |.slice _ _=>rfl
 |.data _ _=>rfl
 |.map _ _ _=>rfl
 |.nils=>rfl
 |.eif _=>rfl
 |.pto _ _=>rfl
 |.raw _=>rfl
 |.lit _ _=>rfl
 |.sln _ _=>rfl
 |.mitr _=>rfl
theorem agz{m:Nat->Nat}(st st':List BX):∀(l:List SV),renL st (acr []) m l=renL st' (acr []) m l
 |[]=>rfl
 |s::r=>by simp only[renL];rw[ari st st' s,agz st st' r]
end
mutual
theorem am8(st st':List BX):∀(s:SV),aqh false st s=aqh false st' s
 |.fn f n m=>by simp only[aqh];rw[ahl st st' m]
 |.agg T o=>by simp only[aqh];rw[ahl st st' o]
 |.ifc T s=>by simp only[aqh];rw[am8 st st' s]
 |.pan s=>by simp only[aqh];rw[am8 st st' s]
 |.acc k g E xs=>rfl
 |.ref k p T=>rfl
 |.bref k T=>rfl
 |.mref k=>rfl
 |.arr k g E=>rfl
 |.aref k g i E p T=>rfl
 |.eref k i E=>rfl
 |.asl k t n E=>rfl
 |.avw k g t E=>rfl
 |.lits E ss=>rfl
 |.iref k=>rfl
 |.gd _ _ _=>rfl
 |.nx _ _ _=>rfl
 |.tup _=>rfl
 |.undef=>rfl
 |.bool _=>rfl
 |.int _ _=>rfl
 |.str _=>rfl
 |.slice _ _=>rfl
 |.data _ _=>rfl
 |.map _ _ _=>rfl
 |.nils=>rfl
 |.eif _=>rfl
 |.pto _ _=>rfl
 |.raw _=>rfl
 |.lit _ _=>rfl
 |.sln _ _=>rfl
 |.mitr _=>rfl
theorem ahl(st st':List BX):∀(l:List SV),ago false st l=ago false st' l
 |[]=>rfl
 |s::r=>by simp only[ago];rw[am8 st st' s,ahl st st' r]
end
theorem aiw{st st':List BX}{args:List SV}(h:aau st args=[]):aau st' args=[]:=by have m:=a09 h;unfold aau;rw[ahl st' st,m];rfl
def acx(C:Cfg):Prop:=∀(R:Type)(b:Bool)(f:FuncId)(o:List SV)(st:List BX)(K:List SV->List BX->Option R)(r:R),C.call R b f o st K=some r->
 (b=true->∃m st',K m st'=some r/\Meets C.P f o st m st')/\∃m st',K m st'=some r
def GInv(e:Env)(l:List Oper):Prop:=∀t u m x,e t=.gd u m x->u∉dsts l
section
variable{Γ:Ctx}
theorem ag1{ops:Array Oper}{o:Oper}{j t:Nat}{m:Bool}{tmps:Array Value}(z:o.guard=some (j,m))(G:(ops[j]?).bind (·.dst)=some t):Region.wanted o (yielded ops tmps)=true ↔ tmps.getD t Go.undef=.bool m:=by
 have e:tmps.getD t Go.undef=(tmps[t]?).getD Go.undef:=by simp
 simp only[Region.wanted,z,yielded,G,Aa];rw[e];cases h:tmps[t]? with
 |none=>simp[Go.undef]
 |some v=>cases v<;>simp
theorem GInv.sub{e:Env}{o:Oper}{l:List Oper}(h:GInv e (o::l)):GInv e l:=λt u m x G z=>h t u m x G (by
 unfold dsts at*;simp only[List.filterMap_cons];split
 ·exact z
 ·exact List.mem_cons_of_mem _ z)
theorem GInv.clean{e:Env}{o:Oper}{l:List Oper}(h:GInv e (o::l)){d:Nat}(z:o.dst=some d):a4i e d:=λt u m x G H=>h t u m x G (by unfold dsts;simp[List.filterMap_cons,z,H])
theorem GInv.put{e:Env}{o:Oper}{l:List Oper}(h:GInv e (o::l))(s:SV)(M:∀u m x,s=.gd u m x->u∉dsts (o::l)):GInv (Ab.put e o.dst s) l:=by
 intro t u m x z J;have G:u∈dsts (o::l):=by
  unfold dsts at*;simp only[List.filterMap_cons];split
  ·exact J
  ·exact List.mem_cons_of_mem _ J
 cases I:o.dst with
 |none=>rw[I]at z;exact h t u m x z G
 |some d=>
  rw[I]at z;simp only[Ab.put,Env.set]at z;cases H:Nat.beq t d with
  |true=>rw[H]at z;exact M u m x z G
  |false=>rw[H]at z;exact h t u m x z G
theorem agf{C:Cfg}{o:Oper}(h:asb C.n o.dst=true):∀x,o.dst=some x->x<C.n:=by intro x m;rw[m]at h;exact At h
theorem aew{D:Dom}{ow:Own}{μ:Nat->Nat}{e:Env}{st st':List BX}{a:Act}{w:World}{C:Cfg}(hn:Γ.n=C.n)(hs:Slots Γ D ow μ e st a w){o:Oper}{l:List Oper}(X:asb C.n o.dst=true)(Y:GInv e (o::l)){v:SV}{r:Result Next}
 (h:OpRes Γ D ow μ st w r v st') (s:SV) (J:∀(D':Dom)(w':World)(G:Own)(H:Nat->Nat)(u:Value),SRep Γ.P D' w' G H st' v u->SlotRep Γ.P D' w' G H st' a s u) (U:∀t z x,s=.gd t z x->t∉dsts (o::l))
 (next:Act->World->Prop) (Q:Exit->Act->World->Prop) (m:∀V w',Rel Γ (put e o.dst s) st' V w'->next V w'):o.upon Γ.P a next Q r:=by
 obtain⟨u,w',D',G,H,M,hw,hm,hv⟩:=h
 have I:Rel Γ (put e o.dst s) st' (a.put o.dst u) w':=by refine⟨D',G,H,hw,(hs.mono hm).put o.dst s u (λx W=>⟨by rw[hn];exact agf X x W,Y.clean W⟩) (J _ _ _ _ _ hv) (λt z x Z O=>?_)⟩;exact U t z x Z (by unfold dsts;simp[List.filterMap_cons,O])
 rcases M with M|⟨M,hu⟩
 ·rw[M,Oper.upon_value];exact m _ _ I
 ·rw[M,Oper.upon_skip,<-hu];exact m _ _ I
def PRel(Γ:Ctx)(s:SV)(st:List BX)(v:Value)(a:Act)(w:World):Prop:=a.defers=[]/\∃D ow μ,WRel Γ D ow μ st w/\SRep Γ.P D w ow μ st s v
theorem ae2{R:Type}{o:List SV}{k:Option R}{x:SV->Option R}{r:R}(h:fork o k x=some r):(∃s,o=[.pan s]/\x s=some r)\/((∀s,o≠[.pan s])/\k=some r):=by
 unfold fork at h;split at h
 ·rename_i s;exact Or.inl ⟨s,rfl,h⟩
 ·rename_i m;exact Or.inr ⟨λs e=>m s e,h⟩
theorem ad3{R:Type}{m:List SV}{k:Option R}{r:R}(h:fork m k (λ_=>none)=some r):(∀s,m≠[.pan s])/\k=some r:=by
 rcases ae2 h with⟨s,_,h⟩|h
 ·cases h
 ·exact h
theorem a1e{R:Type}{C:Cfg}(hC:acx C)(hP:C.P=Γ.P)(hn:Γ.n=C.n)(aH:Γ.np=C.np){ops:Array Oper}{i:Nat}{o:Oper}(ho:ops[i]?=some o){H:List Oper}{e:Env}{st:List BX}{K:Env->List BX->Option R}{X:SV->List BX->Option R}{r:R}(h:bi4 C ops o H e st K X=some r)
 {a:Act}{w:World} (aC:Rel Γ e st a w) (hg:GInv e (o::H)) (next:Act->World->Prop) (Q:Exit->Act->World->Prop)
 (G:∀e' st' a' w',K e' st'=some r->GInv e' H->Rel Γ e' st' a' w'->next a' w') (hX:∀s st' v a' w',X s st'=some r->PRel Γ s st' v a' w'->Q (.panic [{ v,recovered:=false }]) a' w'):wpOp Γ.P ops Q i next a w:=by
 obtain⟨D,ow,μ,hw,hs⟩:=aC
 unfold bi4 at h
 cases hd:asb C.n o.dst with
 |false=>rw[hd]at h;simp at h
 |true=>
 rw[hd]at h
 simp only[Ad,hP]at h
 unfold wpOp
 simp only[ho]
 have aw:∀f,a.eval (.func f)=.func (.func f) #[] #[]:=λf=>rfl
 cases av:o.guard with
 |none=>
  have aB:Region.wanted o (yielded ops a.tmps)=true:=by simp[Region.wanted,av]
  simp only[aB,A8]
  refine Or.inl ?_
  unfold Oper.wp
  rw[av]at h
  simp only at h
  have aa:∀x,SRep Γ.P D w ow μ st (opd e [] x) (a.eval x):=λx=>aby hs [] (λ_ hx=>by cases hx) x
  cases aA:awb Γ.P o.op (opd e []) st with
  |some q=>
   obtain⟨c,b,v,st'⟩:=q
   rw[aA]at h
   simp only at h
   cases c with
   |false=>simp at h
   |true=>
    simp only[Ad]at h
    have I:=a1v hw aa o aA
    have aL:(bif b then K (put e o.dst v) st' else K (put e o.dst .undef) st')=K (put e o.dst (bif b then v else .undef)) st':=by cases b<;>rfl
    rw[aL]at h
    generalize(bif b then v else SV.undef)=v at I h
    have Y:∀t m x,v=.gd t m x->t∉dsts (o::H):=by intro t m x hv;obtain⟨u,w',D',aE,aF,_,_,_,ap⟩:=I;subst hv;cases ap
    exact aew hn hs hd hg I v (λ_ _ _ _ _ h=>h.slot) Y next Q (λa' w' hr=>G _ _ a' w' h (hg.put v Y) hr)
  |none=>
  rw[aA]at h
  simp only at h
  split at h
  ·simp at h
  ·rename_i c v U;cases c with
   |false=>simp at h
   |true=>
    simp only[Ad]at h;have I:=afn hw aa o (ρt:=match o.op with|.pick (.tmp t) _ _=>opd e [(t,true)]|_=>opd e []) (ρf:=match o.op with|.pick (.tmp t) _ _=>opd e [(t,false)]|_=>opd e []) (λc x y az=>by
     rw[az];refine⟨λhc=>?_,λhc=>?_⟩
     ·cases c with
      |tmp t=>exact aby hs [(t,true)] (λz hz=>by simp at hz;subst hz;exact hc) x
      |_=>exact aa x
     ·cases c with
      |tmp t=>exact aby hs [(t,false)] (λz hz=>by simp at hz;subst hz;exact hc) y
      |_=>exact aa y) v U
    have Y:∀t m x,v=.gd t m x->t∉dsts (o::H):=by intro t m x hv;obtain⟨u,w',D',aE,aF,_,_,_,ap⟩:=I;subst hv;cases ap
    exact aew hn hs hd hg I v (λ_ _ _ _ _ h=>h.slot) Y next Q (λa' w' hr=>G _ _ a' w' h (hg.put v Y) hr)
  ·rename_i c v st' U;cases c with
   |false=>simp at h
   |true=>
    simp only[Ad]at h;have I:=anu hw aa o v st' U;have Y:∀t m x,v=.gd t m x->t∉dsts (o::H):=by intro t m x hv;obtain⟨u,w',D',aE,aF,_,_,_,ap⟩:=I;subst hv;cases ap
    exact aew hn hs hd hg I v (λ_ _ _ _ _ h=>h.slot) Y next Q (λa' w' hr=>G _ _ a' w' h (hg.put v Y) hr)
  ·rename_i v U;obtain⟨u,Z,hu⟩:=awr aa o v U;rw[Z,Oper.upon_panic];exact hX v st u a w h ⟨hs.defers,D,ow,μ,hw,hu⟩
  ·rename_i f args U;cases au:(C.frz f&&Nat.beq C.np 0)with
   |true=>
    rw[au]at h;simp only[Ad]at h;simp only[Ai]at au;have h0:Γ.np=0:=aH.trans (Ag au.2);split at h;case h_2=>cases h
    rename_i aN aI;split at h;case h_2=>cases h
    rename_i as ai;obtain⟨ad,Z,ak,V⟩:=ab9 aa aw o f args U;obtain⟨l1,ar⟩:=a5y hw rfl V aI;obtain⟨rs,al,O,hm⟩:=(hC R true f as [] _ r h).1 rfl;split at O;case h_2=>cases O
    rename_i aq W;rw[hP]at hm;rw[Z,hm.1 ad w,Oper.upon_enter];refine(adx (hw.letGo h0 (aww args)) (ks:=[]) (by simp) (sub:=[]) rfl ai (ak.trans l1.symm) ar hm (afo W [])).mono λen w'⟨v,D',ae,af,he,h1,h2,h3⟩=>?_;obtain⟨ah,O⟩:=ad3 O;rcases acd h3 with⟨s,e,_⟩|⟨_,h3,ab⟩
    ·exact absurd e (ah s)
    rw[ab]at he;subst he;have ax:ab2 [] [] ([]:List BX)=[]:=by simp[ab2]
    rw[ax]at h1 h2 h3;have Y:∀t m x,adk aq=.gd t m x->t∉dsts (o::H):=by intro t m x hv;rw[hv]at h3;cases h3
    have aJ:Slots Γ D' ae af (λ_=>.undef) [] a w':=⟨hs.size,hs.defers,λt=>.undef⟩;have aG:GInv (λ_=>.undef) (o::H):=λt u m x h=>by cases h
    refine G _ _ _ _ O (aG.put _ Y) ⟨D',ae,af,h1,aJ.put o.dst _ v (λx hx=>⟨by rw[hn];exact agf hd x hx,λt u m x h=>by cases h⟩) h3.slot (λt m x hh ag=>?_)⟩;exact Y t m x hh (by unfold dsts;simp[List.filterMap_cons,ag])
   |false=>
   rw[au]at h;simp only[Af]at h;split at h
   ·rename_i as sub ai ao;obtain⟨ad,Z,ak,V⟩:=ab9 aa aw o f args U;obtain⟨rs,al,O,hm⟩:=(hC R true f as sub _ r h).1 rfl;split at O;case h_2=>cases O
    rename_i aq bs W;rw[hP]at hm;rw[Z,hm.1 ad w,Oper.upon_enter];refine(adx hw (ad5 _ _) ao ai ak V hm W).mono λen w'⟨v,D',ae,af,he,h1,h2,h3⟩=>?_;rcases ae2 O with⟨s,rfl,O⟩|⟨ah,O⟩
    ·subst he;exact hX s _ v a w' O ⟨hs.defers,D',ae,af,h1,h3⟩
    rcases acd h3 with⟨s,e,_⟩|⟨_,h3,ab⟩
    ·exact absurd e (ah s)
    rw[ab]at he;subst he;have Y:∀t m x,adk aq=.gd t m x->t∉dsts (o::H):=by intro t m x hv;rw[hv]at h3;cases h3
    refine G _ _ _ _ O (hg.put _ Y) ⟨D',ae,af,h1,(hs.mono h2).put o.dst _ v (λx hx=>⟨by rw[hn];exact agf hd x hx,hg.clean hx⟩) h3.slot (λt m x hh ag=>?_)⟩;exact Y t m x hh (by unfold dsts;simp[List.filterMap_cons,ag])
   ·simp at h
 |some jw=>
  obtain⟨j,m⟩:=jw
  rw[av]at h
  simp only at h
  cases ht:(ops[j]?).bind (·.dst)with
  |none=>rw[ht]at h;simp at h
  |some t=>
   rw[ht]at h
   simp only at h
   cases an:(dsts (o::H)).any (Nat.beq t)with
   |true=>rw[an]at h;simp at h
   |false=>
    rw[an]at h
    simp only[Af]at h
    have aK:t∉dsts (o::H):=λhm=>by have:(dsts (o::H)).any (Nat.beq t)=true:=List.any_eq_true.2 ⟨t,hm,Bg t⟩;rw[an]at this;cases this
    cases ay:gval e 8 t m with
    |none=>rw[ay]at h;simp at h
    |some b=>
     rw[ay]at h
     simp only at h
     have am:=agk hs 8 t m b ay
     have aD:=ag1 (tmps:=a.tmps) av ht
     have M:∀v:SV,∀t' J x,SV.gd t m v=.gd t' J x->t'∉dsts (o::H):=λv t' J x he=>by cases he;exact aK
     have skip:∀v:SV,b=false->Rel Γ (put e o.dst (.gd t m v)) st (a.put o.dst Go.undef) w:=by
      intro v hb;have ah:a.tmps.getD t Go.undef≠.bool m:=λhh=>by have:=am.1 hh;rw[hb]at this;cases this
      refine⟨D,ow,μ,hw,hs.put o.dst _ Go.undef (λx hx=>⟨by rw[hn];exact agf hd x hx,hg.clean hx⟩) ⟨λhh=>absurd hh ah,λ_=>rfl⟩ (λt' J x hh ag=>?_)⟩;exact M v t' J x hh (by unfold dsts;simp[List.filterMap_cons,ag])
     cases hb:b with
     |false=>
      have aM:Region.wanted o (yielded ops a.tmps)=false:=by
       cases hc:Region.wanted o (yielded ops a.tmps)with
       |false=>rfl
       |true=>have:=am.1 (aD.1 hc);rw[hb]at this;cases this
      simp only[aM,A3,A9]
      split at h
      ·rename_i c v U;have hi:imp b c=true:=by rw[hb];cases c<;>rfl
       rw[hi]at h;exact G _ _ _ _ h (hg.put _ (M v)) (skip v hb)
      ·rename_i f args U;split at h
       ·obtain⟨rs,al,O⟩:=(hC R b f _ [] _ r h).2;split at O;case h_2=>cases O
        exact G _ _ _ _ (ad3 O).2 (hg.put _ (M _)) (skip _ hb)
       ·rw[hb]at h;simp only[Af]at h;exact G _ _ _ _ h (hg.put _ (M _)) (skip _ hb)
      ·simp at h
     |true=>
      have aj:a.tmps.getD t Go.undef=.bool m:=am.2 hb
      have aB:Region.wanted o (yielded ops a.tmps)=true:=aD.2 aj
      simp only[aB,A8]
      refine Or.inl ?_
      unfold Oper.wp
      have aa:∀x,SRep Γ.P D w ow μ st (opd e [(t,m)] x) (a.eval x):=λx=>aby hs [(t,m)] (λz hz=>by simp at hz;subst hz;exact aj) x
      split at h
      ·rename_i c v U;have hc:c=true:=by
        rw[hb]at h;cases c with
        |true=>rfl
        |false=>simp[imp]at h
       subst hc;have hi:imp b true=true:=rfl;rw[hi]at h;simp only[Ad]at h;have I:=afn hw aa o (ρt:=match o.op with|.pick (.tmp u) _ _=>opd e [(u,true),(t,m)]|_=>opd e []) (ρf:=match o.op with|.pick (.tmp u) _ _=>opd e [(u,false),(t,m)]|_=>opd e []) (λc x y az=>by
        rw[az];refine⟨λhc=>?_,λhc=>?_⟩
        ·cases c with
         |tmp u=>exact aby hs [(u,true),(t,m)] (λz hz=>by simp at hz;rcases hz with rfl|rfl;exact hc;exact aj) x
         |_=>exact aby hs [] (λ_ hx=>by cases hx) x
        ·cases c with
         |tmp u=>exact aby hs [(u,false),(t,m)] (λz hz=>by simp at hz;rcases hz with rfl|rfl;exact hc;exact aj) y
         |_=>exact aby hs [] (λ_ hx=>by cases hx) y) v U
       exact aew hn hs hd hg I (.gd t m v) (λ_ _ _ _ _ h=>⟨λ_=>h,λhh=>absurd aj hh⟩) (M v) next Q (λa' w' hr=>G _ _ a' w' h (hg.put _ (M v)) hr)
      ·rename_i f args U;split at h
       ·rename_i as aO ai;obtain⟨ad,Z,ak,V⟩:=ab9 aa aw o f args U;obtain⟨rs,al,O,hm⟩:=(hC R b f as [] _ r h).1 hb;split at O;case h_2=>cases O
        rename_i aq W;rw[hP]at hm;rw[Z,hm.1 ad w,Oper.upon_enter];refine(adx hw (ks:=[]) (by simp) (sub:=[]) rfl ai ak V hm (afo W st)).mono λen w'⟨v,D',ae,af,he,h1,h2,h3⟩=>?_;obtain⟨ah,O⟩:=ad3 O;rcases acd h3 with⟨s,e,_⟩|⟨_,h3,ab⟩
        ·exact absurd e (ah s)
        rw[ab]at he;subst he;have ax:ab2 [] [] st=st:=by simp[ab2]
        rw[ax]at h1 h2 h3;refine G _ _ _ _ O (hg.put _ (M _)) ⟨D',ae,af,h1,(hs.mono h2).put o.dst _ v (λx hx=>⟨by rw[hn];exact agf hd x hx,hg.clean hx⟩) ⟨λ_=>h3,λhh=>absurd aj hh⟩ (λt' J x hh ag=>?_)⟩;exact M _ t' J x hh (by unfold dsts;simp[List.filterMap_cons,ag])
       ·rw[hb]at h;simp only[Ad]at h;split at h;case h_2=>cases h
        rename_i as sub ai ao;obtain⟨ad,Z,ak,V⟩:=ab9 aa aw o f args U;obtain⟨rs,al,O,hm⟩:=(hC R true f as sub _ r h).1 rfl;split at O;case h_2=>cases O
        rename_i aq bs W;rw[hP]at hm;rw[Z,hm.1 ad w,Oper.upon_enter];refine(adx hw (ad5 _ _) ao ai ak V hm W).mono λen w'⟨v,D',ae,af,he,h1,h2,h3⟩=>?_;rcases ae2 O with⟨s,rfl,O⟩|⟨ah,O⟩
        ·subst he;exact hX s _ v a w' O ⟨hs.defers,D',ae,af,h1,h3⟩
        rcases acd h3 with⟨s,e,_⟩|⟨_,h3,ab⟩
        ·exact absurd e (ah s)
        rw[ab]at he;subst he;refine G _ _ _ _ O (hg.put _ (M _)) ⟨D',ae,af,h1,(hs.mono h2).put o.dst _ v (λx hx=>⟨by rw[hn];exact agf hd x hx,hg.clean hx⟩) ⟨λ_=>h3,λhh=>absurd aj hh⟩ (λt' J x hh ag=>?_)⟩;exact M _ t' J x hh (by unfold dsts;simp[List.filterMap_cons,ag])
      ·simp at h
end
end Go.Ab
