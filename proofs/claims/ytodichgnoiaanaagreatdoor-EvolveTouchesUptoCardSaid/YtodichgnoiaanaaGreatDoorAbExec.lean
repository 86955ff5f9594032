/- The evaluator is sound: regions, code. -/
import Derived.Test.YtodichgnoiaanaaGreatDoorAbCall
set_option linter.unusedVariables false
set_option linter.unusedSimpArgs false
set_option linter.unnecessarySimpa false
namespace Go.Ab
open Go
section
variable {Γ:Ctx}{D:Dom}{ow:Own}{μ:Nat->Nat}{st:List BX}{w:World}
theorem a0y {I:Nat->Option Nat}{H:Nat->Nat}{o:List BX}:∀ {l z:List BX}{j:Nat},a5p o I H j l=some z->z.length=l.length/\∀ (i:Nat) (x:BX),l[i]?=some x->∃ y,z[i]?=some y/\ah4 o I H (j+i) x=some y:=by
 intro l;induction l with
 | nil=>intro z j h;simp only [a5p,Ak] at h;grind
 | cons b r J=>grind [a5p,Option.some.injEq]
theorem avv:∀ (ks:List Nat) (bs st:List BX),ks.Nodup->ks.length<=bs.length->(∀ k,k∈ks->k<st.length)->
 (abu ks bs st).length=st.length+(bs.length-ks.length)/\(∀ k,k<st.length->k∉ks->(abu ks bs st)[k]?=st[k]?)/\(∀ (j k:Nat),ks[j]?=some k->(abu ks bs st)[k]?=bs[j]?)/\
 (∀ i,(abu ks bs st)[st.length+i]?=bs[ks.length+i]?):=by
 intro ks
 induction ks with
 | nil=>grind [abu,List.getElem?_append_left,List.getElem?_append_right]
 | cons x r H=>
  intro bs st z o h
  cases bs with
  | nil=>simp at o
  | cons b q=>
   obtain ⟨n1,I⟩:=List.nodup_cons.1 z
   have hx:x<st.length:=h x (by simp)
   obtain ⟨J,M,O,Z⟩:=H q (st.set x b) I (by simpa using o) (λk hk=>by grind)
   grind [abu,List.getElem?_set_ne,List.getElem?_set_self,List.length_set,Nat.add_right_comm]
def akp (ow:Own) (n:Nat) (ks:List Nat) (h:Own):Own:=λb=>
 match h b with
 | some j=>ac4 n ks j
 | none=>match ow b with | some k=>if k∈ks then none else some k | none=>none
def ai8 (st:List BX) (μ h:Nat->Nat) (n:Nat) (ks:List Nat):Nat->Nat:=λk=>if k<n then (match st[k]? with | some (.arr _ _ _)=>(if k∈ks then h (idx k ks) else μ k) | _=>μ k) else h (k-n+ks.length)
theorem adj (M:WRel Γ D ow μ st w) {ks:List Nat} (hn:ks.Nodup) {sub:List BX} (am:ahh st (acd ks) (λ_=>0) ks=some sub) {args as:List SV} (aS:renL st (acd ks) (λ_=>0) args=some as) {ag:Array Value} (a1:ag.size=args.length)
 (aR:∀ (i:Nat) (s:SV) (v:Value),args[i]?=some s->ag[i]?=some v->SRep Γ.P D w ow μ st s v) {f:FuncId}{rs:List SV}{H:List BX} (hm:Meets Γ.P f as sub rs H) {aG:List SV}{bs:List BX} (hb:aez st ks rs H=some (aG,bs)):
 Calls Γ.P f ag w λe w'=>∃ v D' aF aH,e=ahq aG v/\WRel Γ D' aF aH (abu ks bs st) w'/\Moves D w ow μ st D' w' aF aH (abu ks bs st)/\ahk Γ.P D' w' aF aH (abu ks bs st) aG v:=by
 obtain ⟨bc,al⟩:=aiw ks sub am
 have em:=Emb.sub (ow:=ow) (μ:=μ) hn am
 obtain ⟨aQ,a6⟩:=ah5 aS
 have tabs:Tabs Γ.P (agi ow ks) w:=by
  intro p hp g hg;obtain ⟨O,cs,T,fr,h2,h3⟩:=Γ.tabs p hp g hg;have J:g<Γ.B:=by rw [Γ.hB];grind
  have aZ:ow g=none:=by
   cases ho:ow g with
   | none=>rfl
   | some k=>have:=M.owN g k ho J;grind
  exact ⟨by simp [agi,aZ],cs,T,fr,by rw [M.old g J O];exact h2,h3⟩
 have a3:Pre Γ.P D (agi ow ks) (λj=>μ (ks.getD j 0)) sub w as ag:=by refine ⟨by rw [a1,aQ],λi s v hs hv=>?_,M.objs.sub hn am,tabs⟩;grind [aew]
 refine (hm.2 D (agi ow ks) (λj=>μ (ks.getD j 0)) w ag a3).mono λe w' ⟨v,D',he,hp⟩=>?_
 obtain ⟨ae,af,hr⟩:=hp.rest
 unfold aez at hb
 split at hb
 case h_2=>cases hb
 rename_i be ay a0 aT
 simp only [Ak,Prod.mk.injEq] at hb
 obtain ⟨rfl,rfl⟩:=hb
 obtain ⟨aA,ab⟩:=a0y aT
 have a9:sub.length<=H.length:=by
  rcases Nat.lt_or_ge H.length sub.length with h | h
  ·obtain ⟨b',O,_⟩:=hr.keep H.length _ (Am h);grind
  ·exact h
 have aO:∀ k,k∈ks->k<st.length:=by grind [List.mem_iff_getElem?,List.getElem?_eq_some_iff]
 obtain ⟨bl,bo,bk,bn⟩:=avv ks ay st hn (by omega) aO
 generalize hB:abu ks ay st=B at*
 have az:B.length=st.length+(H.length-ks.length):=by rw [bl,aA]
 have aj:∀ (j k:Nat),ks[j]?=some k->ac4 st.length ks j=some k:=λj k h=>by grind [ac4]
 have aP:∀ (j:Nat),ks.length<=j->ac4 st.length ks j=some (st.length+(j-ks.length)):=λj h=>by grind [ac4,List.getElem?_eq_none]
 have aa:∀ (j k:Nat),ac4 st.length ks j=some k->ks[j]?=some k\/(ks.length<=j/\k=st.length+(j-ks.length)):=by grind
 have aI:∀ (j k:Nat),ac4 st.length ks j=some k->B[k]?=ay[j]?:=by
  intro j k h;rcases aa j k h with h | ⟨O,h2⟩
  ·exact bk j k h
  simp_all
 have ao:∀ (j k:Nat) (b:BX),ks[j]?=some k->st[k]?=some b->∃ b1,H[j]?=some b1/\b1.kind=b.kind/\((∀ g,b≠.acc g)->(∀ E g xs,b≠.arr E g xs)->af j=μ k):=by intro j k b Z I;obtain ⟨b0,b',O,h2,h3⟩:=al j k Z;rw [I] at O;cases O;obtain ⟨q1,q2⟩:=acl h2;obtain ⟨b1,r1,r2,r3⟩:=hr.keep j b' h3;grind [af9,aua,List.getD]
 have aD:∀ k,k<st.length->k∉ks->ai8 st μ af st.length ks k=μ k:=by intro k I aB;simp only [ai8,I,A9];grind
 have ai:∀ k b,st[k]?=some b->(∀ E g xs,b≠.arr E g xs)->ai8 st μ af st.length ks k=μ k:=by intro k b hb ba;have I:=(A5.1 hb).1;simp only [ai8,I,A9];grind
 have a5:∀ j k E g xs,ks[j]?=some k->st[k]?=some (.arr E g xs)->ai8 st μ af st.length ks k=af j:=by intro j k E g xs Z hb;have I:=(A5.1 hb).1;have aB:=List.mem_of_getElem? Z;have e:idx k ks=j:=aoj hn (arn (List.any_eq_true.2 ⟨k,aB,Bg k⟩)) Z;simp only [ai8,I,A9,hb,aB,e]
 have mb:Emb (ac4 st.length ks) (ags st ks H) ae af H (akp ow st.length ks ae) (ai8 st μ af st.length ks) B:=by
  refine ⟨λj k b I Z=>?_,λj k b I bb=>by grind [akp]⟩;obtain ⟨y,aC,an⟩:=ab j b Z;rw [Nat.zero_add] at an;obtain ⟨q1,q2⟩:=acl an;refine ⟨y,by grind,q1,λa4=>?_,q2⟩;rcases aa j k I with h | ⟨O,h2⟩
  ·grind [List.mem_of_getElem?,List.getElem?_eq_getElem,af9]
  ·have:¬k<st.length:=by omega
   simp only [ai8,this,Bb];grind
 have aq:∀ b,(∀ k,k∈ks->ow b≠some k)->b<w.heap.size->w'.heap[b]?=w.heap[b]?:=λb hb J=>hp.old b J (aln hb)
 have ah:∀ b k,ow b=some k->k∉ks->w'.heap[b]?=w.heap[b]?:=λb k ob I=>aq b (λk' aW e=>by grind) (M.owlt b k ob).1
 have ap:∀ b k,ow b=some k->k∉ks->∀ o,D' b o->D b o:=by
  intro b k ob I o d;rcases hp.new b o d with h | h | h
  ·exact h
  ·have:=(M.owlt b k ob).1;omega
  grind [absurd,aln]
 have av:∀ b k,k∉ks->ow b=some k->akp ow st.length ks ae b=some k:=by
  intro b k I ob;have aX:ae b=none:=by
   cases h:ae b with
   | none=>rfl
   | some j=>obtain ⟨k',Z,bd⟩:=aeu (hr.own b j h (M.owlt b k ob).1);grind
  simp only [akp,aX,ob,I,Bb]
 have aE:∀ b k,akp ow st.length ks ae b=some k->(k∉ks/\ow b=some k)\/∃ j,ac4 st.length ks j=some k/\ae b=some j:=by
  intro b k h;unfold akp at h;split at h
  ·grind
  ·split at h
   ·rename_i k' aW;split at h;all_goals grind
   ·cases h
 have ax:∀ (k:Nat) (b:BX),st[k]?=some b->k∉ks->B[k]?=some b:=λk b h I=>by grind
 have ad:∀ (k:Nat) (b:BX),st[k]?=some b->∃ b',B[k]?=some b'/\b'.kind=b.kind:=by
  intro k b h;by_cases I:k∈ks
  ·obtain ⟨j,Z⟩:=List.mem_iff_getElem?.1 I;grind [acl]
  grind
 have m:Moves D w ow μ st D' w' (akp ow st.length ks ae) (ai8 st μ af st.length ks) B:=by
  refine ⟨hp.dom,hp.keeps,λk T s e=>⟨ai k _ e (by simp),?_⟩,λk K E es e=>⟨ai k _ e (by simp),?_⟩,λk b e hs=>⟨ai k _ e (λE g xs hb=>by subst hb;exact hs rfl),?_⟩,λk E g xs e=>?_,λk g e=>?_⟩
  ·obtain ⟨b',O,h2⟩:=ad k _ e;obtain ⟨s',rfl⟩:=am4 h2;grind
  ·obtain ⟨b',O,h2⟩:=ad k _ e;obtain ⟨s',rfl⟩:=ays h2;grind
  ·obtain ⟨b',O,h2⟩:=ad k _ e;refine ⟨b',O,?_⟩;cases b with
   | iter s p=>obtain ⟨s',p',rfl⟩:=a4f h2;rfl
   | bld T s=>obtain ⟨s',rfl⟩:=ayr h2;rfl
   | mit K E es=>cases b'<;>simp [BX.kind] at h2;obtain ⟨rfl,rfl⟩:=h2;rfl
   | _=>exact absurd rfl hs
  ·by_cases I:k∈ks
   ·obtain ⟨j,Z⟩:=List.mem_iff_getElem?.1 I;obtain ⟨b1,r1,r2,_⟩:=ao j k _ Z e;obtain ⟨g1,ys,rfl⟩:=aim r2;obtain ⟨b',O,_,_,_,h5⟩:=mb.obj j k _ (aj j k Z) r1;have h5:=h5 _ _ _ rfl;rw [h5] at O;have aK:ags st ks H j=(bif Nat.beq g1 0 then g else g+1):=by grind [ags]
    rw [aK] at O;refine ⟨_,_,O,?_,λa8=>?_⟩
    ·grind
    ·have aU:g1=0:=by
      grind [Nat.beq,Nat.eq_of_beq_eq_true]
     subst aU;obtain ⟨b0,b2,q1,q2,q3⟩:=al j k Z;rw [e] at q1;cases q1;have q2:=(acl q2).2.2 _ _ _ rfl;rw [q2] at q3;obtain ⟨s1,s2⟩:=hr.same j E 0 xs ys q3 r1;refine ⟨s1,λcur hc aY=>?_⟩;have a7:ks.getD j 0=k:=by grind
     obtain ⟨t1,t2,cur',t3,t4⟩:=s2 cur (by grind) (by grind [ar7]);grind [akp]
   ·refine ⟨g,xs,ax k _ e I,Nat.le_refl _,λ_=>⟨rfl,λcur hc aY=>?_⟩⟩;grind
  ·by_cases I:k∈ks
   ·obtain ⟨j,Z⟩:=List.mem_iff_getElem?.1 I;obtain ⟨b1,r1,r2,_⟩:=ao j k _ Z e;obtain ⟨g1,rfl⟩:=a8w r2;obtain ⟨b',O,_,_,h4,_⟩:=mb.obj j k _ (aj j k Z) r1;have:=h4 ⟨_,rfl⟩;rw [this] at O;have hg:ags st ks H j=g+1:=by unfold ags;rw [Z];simp only [e]
    rw [hg] at O;exact ⟨g+1,O,by omega,λh=>by omega⟩
   ·exact ⟨g,ax k _ e I,Nat.le_refl _,λ_ b ob=>⟨ah b k ob I,av b k I ob,ap b k ob I⟩⟩
 have au:∀ (k:Nat) (b:BX),B[k]?=some b->(k∉ks/\st[k]?=some b)\/∃ j b1,ac4 st.length ks j=some k/\H[j]?=some b1/\ah4 H (ac4 st.length ks) (ags st ks H) j b1=some b:=by
  intro k b h;have ak:∀ j,ac4 st.length ks j=some k->∃ j b1,ac4 st.length ks j=some k/\H[j]?=some b1/\ah4 H (ac4 st.length ks) (ags st ks H) j b1=some b:=by
   intro j Z;have h2:=aI j k Z;rw [h] at h2;have J:j<H.length:=by rw [<-aA];exact (A5.1 h2.symm).1
   obtain ⟨y,aC,an⟩:=ab j _ (Am J);rw [Nat.zero_add] at an;rw [<-h2] at aC;cases aC;exact ⟨j,_,Z,Am J,an⟩
  by_cases I:k∈ks
  ·obtain ⟨j,Z⟩:=List.mem_iff_getElem?.1 I;exact Or.inr (ak j (aj j k Z))
  ·by_cases J:k<st.length
   ·rw [bo k J I] at h;exact Or.inl ⟨I,h⟩
   ·exact Or.inr (ak (k-st.length+ks.length) (by rw [aP _ (by omega)];congr 1;omega))
 have ar:∀ (k:Nat) (b:BX),B[k]?=some b->ObjIn Γ.P D' w' (akp ow st.length ks ae) (ai8 st μ af st.length ks) B k b:=by
  intro k b h;rcases au k b h with ⟨I,O⟩ | ⟨j,b1,Z,O,h2⟩
  ·have J:=(A5.1 O).1;cases b with
   | box T s=>obtain ⟨c,T',q1,q2,q3,q4,q5⟩:=M.box k T s O;exact BoxRep.mono ⟨c,T',q1,q2,q3,q4,q5⟩ m (aD k J I) (ah _ k q3 I) (av _ k I q3) (λo d=>q4 o (ap _ _ q3 I o d))
   | map K E es=>obtain ⟨ents,clock,kc,vc,q1,q2,q3⟩:=M.map k K E es O;exact OMapRep.mono ⟨ents,clock,kc,vc,q1,q2,q3⟩ m.dom m.keeps (aD k J I) (ah _ k q2 I) (av _ k I q2) (λo d=>q3.1 o (ap _ _ q2 I o d))
   | acc g=>trivial
   | hole=>trivial
   | _=>exact (M.obj k _ O).mono m.dom m.keeps (λ_=>aD k J I) (λc oc=>⟨ah c k oc I,av c k I oc,ap c k oc I⟩)
  ·exact (hr.objs.obj j b1 O).ren mb O Z h2
 have aw:∀ k,k<Γ.np->∃ b,B[k]?=some b/\b.kind=Γ.K0 k:=by intro k I;obtain ⟨x,hx,p1⟩:=M.par k I;obtain ⟨b',O,h2⟩:=ad k x hx;exact ⟨b',O,h2.trans p1⟩
 obtain ⟨aM,aJ⟩:=a0z mb hr.res a0
 rw [<-aJ] at he
 refine ⟨v,D',_,_,he,⟨λk T s e=>ar k _ e,λk K E es e=>ar k _ e,λk b e=>?_,λb k ob=>?_,hr.objs.dlt,hp.os.trans M.os,hp.tape.trans M.tape,hp.output.trans M.output,Nat.le_trans M.hs hp.size,
  λb hb aL=>?_,λb o d=>hp.dom b o (M.dom0 b o d),λb o d=>?_,λb k ob hb=>?_,by rw [az];have:=M.np;omega,λk I hK=>?_,aw,λb k y ob e hy o d=>?_,M.keep0.trans hp.keeps M.dom0,M.arr0_moves m aw⟩,m,aM⟩
 ·have:=ar k b e;cases b with
  | box T s=>trivial
  | map K E es=>trivial
  | acc g=>trivial
  | hole=>trivial
  | _=>exact this
 ·rcases aE b k ob with ⟨_,h⟩ | ⟨j,Z,h⟩
  ·exact ⟨Az (M.owlt b k h).1 hp.size,by rw [az];have:=(M.owlt b k h).2;omega⟩
  ·have O:=hr.objs.owlt b j h;refine ⟨O.1,?_⟩;rw [az];rcases aa j k Z with h2 | ⟨h2,h3⟩
   ·have:=aO k (List.mem_of_getElem? h2);omega
   ·omega
 ·have J:b<w.heap.size:=Az hb M.hs;refine (aq b (λk I e=>?_) J).trans (M.old b hb aL);have:=M.owN b k e hb;rw [aL] at this;cases this
 ·rcases hp.new b o d with d | d | d
  ·exact M.domN b o d
  ·exact Or.inr (Or.inl (Nat.le_trans M.hs d))
  ·cases ho:ow b with
   | none=>exact absurd (by simp [agi,ho]) d
   | some k=>
    by_cases hb:b<Γ.B
    ·exact Or.inr (Or.inr (by rw [M.owN b k ho hb];simp))
    ·exact Or.inr (Or.inl (by omega))
 ·rcases aE b k ob with ⟨_,h⟩ | ⟨j,Z,h⟩
  ·exact M.owN b k h hb
  ·obtain ⟨k',aV,h'⟩:=aeu (hr.own b j h (Az hb M.hs));rw [aj j k' aV] at Z;cases Z;exact M.owN b k h' hb
 ·obtain ⟨x,hx,p1⟩:=M.par k I;rw [ai k x hx (λE g xs hb=>by subst hb;exact hK E p1.symm)];exact M.mu0 k I hK
 ·rcases aE b k ob with ⟨I,h⟩ | ⟨j,Z,h⟩
  ·rcases au k y e with ⟨_,O⟩ | ⟨j,b1,Z,_,_⟩
   ·exact M.lone b k y h O hy o (ap b k h I o d)
   ·rcases aa j k Z with h2 | ⟨_,h3⟩
    ·exact absurd (List.mem_of_getElem? h2) I
    ·have:=(M.owlt b k h).2;omega
  ·have h2:=aI j k Z;rw [e] at h2;have J:j<H.length:=by rw [<-aA];exact (A5.1 h2.symm).1
   obtain ⟨z,aN,a2⟩:=ab j _ (Am J);rw [<-h2] at aN;cases aN;exact hr.objs.lone b j _ h (Am J) (af9 (acl a2).1.symm hy) o d
end
mutual
theorem ao1 {O I:Nat->Nat}{Z:Nat->Option Nat}:∀ (s o:SV),renS [] (λ_=>none) O s=some o->renS [] Z I s=some o
 | .fn f n caps,o,h=>by
  simp only [renS] at h ⊢;split at h
  ·rename_i cs z;rw [akt caps cs z];exact h
  ·cases h
 | .agg T J,o,h=>by
  simp only [renS] at h ⊢;split at h
  ·rename_i cs z;rw [akt J cs z];exact h
  ·cases h
 | .ifc T s,o,h=>by
  simp only [renS] at h ⊢;split at h
  ·rename_i x H;rw [ao1 s x H];exact h
  ·cases h
 | .pan s,o,h=>by
  simp only [renS] at h ⊢;split at h
  ·rename_i x H;rw [ao1 s x H];exact h
  ·cases h
 | .acc k g E xs,o,h=>by simp only [renS,Ak] at h ⊢;subst h;have:anh [] k g=false:=rfl;rw [this];split<;>rfl
 | .ref k p T,o,h=>by simp [renS] at h
 | .bref k T,o,h=>by simp [renS] at h
 | .mref k,o,h=>by simp [renS] at h
 | .arr k g E,o,h=>by simp [renS] at h
 | .aref k g i E p T,o,h=>by simp [renS] at h
 | .eref k i E,o,h=>by simp [renS] at h
 | .asl k M n E,o,h=>by simp [renS] at h
 | .avw k g M E,o,h=>by simp [renS] at h
 | .lits E ss,o,h=>by simp [renS] at h
 | .iref k,o,h=>by simp [renS] at h
 | .gd _ _ _,o,h=>by simp [renS] at h
 | .nx _ _ _,o,h=>by simp [renS] at h
 | .tup _,o,h=>by simp [renS] at h
 | .mitr _,o,h=>by simp [renS] at h
 | .sln _ _,o,h=>h
 | .undef,o,h=>h
 | .bool _,o,h=>h
 | .int _ _,o,h=>h
 | .str _,o,h=>h
 | .slice _ _,o,h=>h
 | .data _ _,o,h=>h
 | .map _ _ _,o,h=>h
 | .nils,o,h=>h
 | .eif _,o,h=>h
 | .pto _ _,o,h=>h
 | .raw _,o,h=>h
 | .lit _ _,o,h=>h
theorem akt {J z:Nat->Nat}{M:Nat->Option Nat}:∀ (l o:List SV),renL [] (λ_=>none) J l=some o->renL [] M z l=some o
 | [],o,h=>h
 | s::r,o,h=>by
  simp only [renL] at h ⊢;split at h
  ·rename_i x q I H;rw [ao1 s x I,akt r q H];exact h
  ·cases h
end
theorem aff {rs:List SV}{sub:List BX}{o:List SV} (h:afo rs sub=some o) (st:List BX):aez st [] rs sub=some (o,[]):=by
 unfold afo at h;split at h
 ·unfold aez;rw [akt rs o h];rfl
 ·cases h
theorem bbs {rs:List SV}{sub:List BX}{o:List SV} (h:afo rs sub=some o):sub=[]:=by
 unfold afo at h;split at h
 ·rfl
 ·cases h
mutual
theorem ao0 {h:Nat->Nat} (st st':List BX):∀ (s:SV),renS st (acd []) h s=renS st' (acd []) h s
 | .fn f n caps=>by simp only [renS];rw [agm st st' caps]
 | .agg T o=>by simp only [renS];rw [agm st st' o]
 | .ifc T s=>by simp only [renS];rw [ao0 st st' s]
 | .pan s=>by simp only [renS];rw [ao0 st st' s]
 | .acc k g E xs=>by simp only [renS];rfl
 | .ref k p T=>rfl
 | .bref k T=>rfl
 | .mref k=>rfl
 | .arr k g E=>rfl
 | .aref k g i E p T=>rfl
 | .eref k i E=>rfl
 | .asl k z n E=>rfl
 | .avw k g z E=>rfl
 | .lits E ss=>rfl
 | .iref k=>rfl
 | .gd _ _ _=>rfl
 | .nx _ _ _=>rfl
 | .tup _=>rfl
 | .undef=>rfl
 | .bool _=>rfl
 | .int _ _=>rfl
 | .str _=>rfl
 | .slice _ _=>rfl
 | .data _ _=>rfl
 | .map _ _ _=>rfl
 | .nils=>rfl
 | .eif _=>rfl
 | .pto _ _=>rfl
 | .raw _=>rfl
 | .lit _ _=>rfl
 | .sln _ _=>rfl
 | .mitr _=>rfl
theorem agm {h:Nat->Nat} (st st':List BX):∀ (l:List SV),renL st (acd []) h l=renL st' (acd []) h l
 | []=>rfl
 | s::r=>by simp only [renL];rw [ao0 st st' s,agm st st' r]
end
mutual
theorem ali (st st':List BX):∀ (s:SV),leads false st s=leads false st' s
 | .fn f n caps=>by simp only [leads];rw [ag0 st st' caps]
 | .agg T h=>by simp only [leads];rw [ag0 st st' h]
 | .ifc T s=>by simp only [leads];rw [ali st st' s]
 | .pan s=>by simp only [leads];rw [ali st st' s]
 | .acc k g E xs=>rfl
 | .ref k p T=>rfl
 | .bref k T=>rfl
 | .mref k=>rfl
 | .arr k g E=>rfl
 | .aref k g i E p T=>rfl
 | .eref k i E=>rfl
 | .asl k o n E=>rfl
 | .avw k g o E=>rfl
 | .lits E ss=>rfl
 | .iref k=>rfl
 | .gd _ _ _=>rfl
 | .nx _ _ _=>rfl
 | .tup _=>rfl
 | .undef=>rfl
 | .bool _=>rfl
 | .int _ _=>rfl
 | .str _=>rfl
 | .slice _ _=>rfl
 | .data _ _=>rfl
 | .map _ _ _=>rfl
 | .nils=>rfl
 | .eif _=>rfl
 | .pto _ _=>rfl
 | .raw _=>rfl
 | .lit _ _=>rfl
 | .sln _ _=>rfl
 | .mitr _=>rfl
theorem ag0 (st st':List BX):∀ (l:List SV),aga false st l=aga false st' l
 | []=>rfl
 | s::r=>by simp only [aga];rw [ali st st' s,ag0 st st' r]
end
theorem ah3 {st st':List BX}{args:List SV} (h:aap st args=[]):aap st' args=[]:=by have o:=axc h;unfold aap;rw [ag0 st' st,o];rfl
def abt (C:Cfg):Prop:=∀ (R:Type) (b:Bool) (f:FuncId) (h:List SV) (st:List BX) (K:List SV->List BX->Option R) (r:R),C.call R b f h st K=some r->
 (b=true->∃ rs st',K rs st'=some r/\Meets C.P f h st rs st')/\∃ rs st',K rs st'=some r
def GInv (e:Env) (l:List Oper):Prop:=∀ t u h x,e t=.gd u h x->u∉dsts l
section
variable {Γ:Ctx}
theorem agp {ops:Array Oper}{o:Oper}{j t:Nat}{z:Bool}{tmps:Array Value} (H:o.guard=some (j,z)) (I:(ops[j]?).bind (·.dst)=some t):Region.wanted o (yielded ops tmps)=true ↔ tmps.getD t Go.undef=.bool z:=by
 have e:tmps.getD t Go.undef=(tmps[t]?).getD Go.undef:=by simp
 simp only [Region.wanted,H,yielded,I,Aa];rw [e];cases h:tmps[t]? with
 | none=>simp [Go.undef]
 | some v=>cases v<;>simp
theorem GInv.sub {e:Env}{o:Oper}{l:List Oper} (h:GInv e (o::l)):GInv e l:=λt u z x I H=>h t u z x I (by
 unfold dsts at*;simp only [List.filterMap_cons];split
 ·exact H
 ·exact List.mem_cons_of_mem _ H)
theorem GInv.clean {e:Env}{o:Oper}{l:List Oper} (h:GInv e (o::l)) {d:Nat} (H:o.dst=some d):azg e d:=λt u z x I J=>h t u z x I (by unfold dsts;simp [List.filterMap_cons,H,J])
theorem GInv.put {e:Env}{o:Oper}{l:List Oper} (h:GInv e (o::l)) (s:SV) (Z:∀ u z x,s=.gd u z x->u∉dsts (o::l)):GInv (Ab.put e o.dst s) l:=by
 intro t u z x H O;have I:u∈dsts (o::l):=by
  unfold dsts at*;simp only [List.filterMap_cons];split
  ·exact O
  ·exact List.mem_cons_of_mem _ O
 cases M:o.dst with
 | none=>rw [M] at H;exact h t u z x H I
 | some d=>
  rw [M] at H;simp only [Ab.put,Env.set] at H;cases J:Nat.beq t d with
  | true=>rw [J] at H;exact Z u z x H I
  | false=>rw [J] at H;exact h t u z x H I
theorem af2 {C:Cfg}{o:Oper} (h:anx C.n o.dst=true):∀ x,o.dst=some x->x<C.n:=by intro x z;rw [z] at h;exact Aq h
theorem aek {D:Dom}{ow:Own}{μ:Nat->Nat}{e:Env}{st st':List BX}{a:Act}{w:World}{C:Cfg} (hn:Γ.n=C.n) (hs:Slots Γ D ow μ e st a w) {o:Oper}{l:List Oper} (hd:anx C.n o.dst=true) (hg:GInv e (o::l)) {v:SV}{r:Result Next}
 (h:OpRes Γ D ow μ st w r v st') (s:SV) (O:∀ (D':Dom) (w':World) (I:Own) (J:Nat->Nat) (u:Value),SRep Γ.P D' w' I J st' v u->SlotRep Γ.P D' w' I J st' a s u) (ab:∀ t H x,s=.gd t H x->t∉dsts (o::l))
 (next:Act->World->Prop) (Q:Exit->Act->World->Prop) (z:∀ a' w',Rel Γ (put e o.dst s) st' a' w'->next a' w'):o.upon Γ.P a next Q r:=by
 obtain ⟨u,w',D',I,J,Z,hw,hm,hv⟩:=h
 have M:Rel Γ (put e o.dst s) st' (a.put o.dst u) w':=by refine ⟨D',I,J,hw,(hs.mono hm).put o.dst s u (λx hx=>⟨by rw [hn];exact af2 hd x hx,hg.clean hx⟩) (O _ _ _ _ _ hv) (λt H x hh aa=>?_)⟩;exact ab t H x hh (by unfold dsts;simp [List.filterMap_cons,aa])
 rcases Z with Z | ⟨Z,hu⟩
 ·rw [Z,Oper.upon_value];exact z _ _ M
 ·rw [Z,Oper.upon_skip,<-hu];exact z _ _ M
def PRel (Γ:Ctx) (s:SV) (st:List BX) (v:Value) (a:Act) (w:World):Prop:=a.defers=[]/\∃ D ow μ,WRel Γ D ow μ st w/\SRep Γ.P D w ow μ st s v
theorem aeq {R:Type}{rs:List SV}{k:Option R}{x:SV->Option R}{r:R} (h:fork rs k x=some r):(∃ s,rs=[.pan s]/\x s=some r)\/((∀ s,rs≠[.pan s])/\k=some r):=by
 unfold fork at h;split at h
 ·rename_i s;exact Or.inl ⟨s,rfl,h⟩
 ·rename_i o;exact Or.inr ⟨λs e=>o s e,h⟩
theorem adt {R:Type}{rs:List SV}{k:Option R}{r:R} (h:fork rs k (λ_=>none)=some r):(∀ s,rs≠[.pan s])/\k=some r:=by
 rcases aeq h with ⟨s,_,h⟩ | h
 ·cases h
 ·exact h
theorem axf {R:Type}{C:Cfg} (hC:abt C) (hP:C.P=Γ.P) (hn:Γ.n=C.n) (aM:Γ.np=C.np) {ops:Array Oper}{i:Nat}{o:Oper} (ho:ops[i]?=some o) {J:List Oper}{e:Env}{st:List BX}{K:Env->List BX->Option R}{X:SV->List BX->Option R}{r:R} (h:a5s C ops o J e st K X=some r)
 {a:Act}{w:World} (aH:Rel Γ e st a w) (hg:GInv e (o::J)) (next:Act->World->Prop) (Q:Exit->Act->World->Prop)
 (I:∀ e' st' a' w',K e' st'=some r->GInv e' J->Rel Γ e' st' a' w'->next a' w') (hX:∀ s st' v a' w',X s st'=some r->PRel Γ s st' v a' w'->Q (.panic [{ v,recovered:=false }]) a' w'):wpOp Γ.P ops Q i next a w:=by
 obtain ⟨D,ow,μ,hw,hs⟩:=aH
 unfold a5s at h
 cases hd:anx C.n o.dst with
 | false=>rw [hd] at h;simp at h
 | true=>
 rw [hd] at h
 simp only [Af,hP] at h
 unfold wpOp
 simp only [ho]
 have aB:∀ f,a.eval (.func f)=.func (.func f) #[] #[]:=λf=>rfl
 cases aA:o.guard with
 | none=>
  have aG:Region.wanted o (yielded ops a.tmps)=true:=by simp [Region.wanted,aA]
  simp only [aG,A9]
  refine Or.inl ?_
  unfold Oper.wp
  rw [aA] at h
  simp only at h
  have ag:∀ x,SRep Γ.P D w ow μ st (opd e [] x) (a.eval x):=λx=>abp hs [] (λ_ hx=>by cases hx) x
  cases aF:asp Γ.P o.op (opd e []) st with
  | some q=>
   obtain ⟨c,v,st'⟩:=q
   rw [aF] at h
   simp only at h
   cases c with
   | false=>simp at h
   | true=>
    simp only [Af] at h
    have O:=axv hw ag o aF
    have ae:∀ t H x,v=.gd t H x->t∉dsts (o::J):=by intro t H x hv;obtain ⟨u,w',D',aJ,aK,_,_,_,aw⟩:=O;subst hv;cases aw
    exact aek hn hs hd hg O v (λ_ _ _ _ _ h=>h.slot) ae next Q (λa' w' hr=>I _ _ a' w' h (hg.put v ae) hr)
  | none=>
  rw [aF] at h
  simp only at h
  split at h
  ·simp at h
  ·rename_i c v aa;cases c with
   | false=>simp at h
   | true=>
    simp only [Af] at h;have O:=afe hw ag o (ρt:=match o.op with | .pick (.tmp t) _ _=>opd e [(t,true)] | _=>opd e []) (ρf:=match o.op with | .pick (.tmp t) _ _=>opd e [(t,false)] | _=>opd e []) (λc x y aE=>by
     rw [aE];refine ⟨λhc=>?_,λhc=>?_⟩
     ·cases c with
      | tmp t=>exact abp hs [(t,true)] (λz hz=>by simp at hz;subst hz;exact hc) x
      | _=>exact ag x
     ·cases c with
      | tmp t=>exact abp hs [(t,false)] (λz hz=>by simp at hz;subst hz;exact hc) y
      | _=>exact ag y) v aa
    have ae:∀ t H x,v=.gd t H x->t∉dsts (o::J):=by intro t H x hv;obtain ⟨u,w',D',aJ,aK,_,_,_,aw⟩:=O;subst hv;cases aw
    exact aek hn hs hd hg O v (λ_ _ _ _ _ h=>h.slot) ae next Q (λa' w' hr=>I _ _ a' w' h (hg.put v ae) hr)
  ·rename_i c v st' aa;cases c with
   | false=>simp at h
   | true=>
    simp only [Af] at h;have O:=al5 hw ag o v st' aa;have ae:∀ t H x,v=.gd t H x->t∉dsts (o::J):=by intro t H x hv;obtain ⟨u,w',D',aJ,aK,_,_,_,aw⟩:=O;subst hv;cases aw
    exact aek hn hs hd hg O v (λ_ _ _ _ _ h=>h.slot) ae next Q (λa' w' hr=>I _ _ a' w' h (hg.put v ae) hr)
  ·rename_i v aa;obtain ⟨u,af,hu⟩:=as3 ag o v aa;rw [af,Oper.upon_panic];exact hX v st u a w h ⟨hs.defers,D,ow,μ,hw,hu⟩
  ·rename_i f args aa;cases az:(C.frz f&&Nat.beq C.np 0) with
   | true=>
    rw [az] at h;simp only [Af] at h;simp only [Aj] at az;have h0:Γ.np=0:=aM.trans (Ae az.2);split at h;case h_2=>cases h
    rename_i aR aN;split at h;case h_2=>cases h
    rename_i as an;obtain ⟨ai,af,ap,ab⟩:=abx ag aB o f args aa;obtain ⟨l1,ay⟩:=a0h hw rfl ab aN;obtain ⟨rs,aq,hK,hm⟩:=(hC R true f as [] _ r h).1 rfl;split at hK;case h_2=>cases hK
    rename_i ax ad;rw [hP] at hm;rw [af,hm.1 ai w,Oper.upon_enter];refine (adj (hw.letGo h0 (as8 args)) (ks:=[]) (by simp) (sub:=[]) rfl an (ap.trans l1.symm) ay hm (aff ad [])).mono λen w' ⟨v,D',aj,ak,he,h1,h2,h3⟩=>?_;obtain ⟨am,hK⟩:=adt hK;rcases abz h3 with ⟨s,e,_⟩ | ⟨_,h3,ah⟩
    ·exact absurd e (am s)
    rw [ah] at he;subst he;have aC:abu [] [] ([]:List BX)=[]:=by simp [abu]
    rw [aC] at h1 h2 h3;have ae:∀ t H x,adg ax=.gd t H x->t∉dsts (o::J):=by intro t H x hv;rw [hv] at h3;cases h3
    have aO:Slots Γ D' aj ak (λ_=>.undef) [] a w':=⟨hs.size,hs.defers,λt=>.undef⟩;have aL:GInv (λ_=>.undef) (o::J):=λt u H x h=>by cases h
    refine I _ _ _ _ hK (aL.put _ ae) ⟨D',aj,ak,h1,aO.put o.dst _ v (λx hx=>⟨by rw [hn];exact af2 hd x hx,λt u H x h=>by cases h⟩) h3.slot (λt H x hh al=>?_)⟩;exact ae t H x hh (by unfold dsts;simp [List.filterMap_cons,al])
   | false=>
   rw [az] at h;simp only [Ah] at h;split at h
   ·rename_i as sub an av;obtain ⟨ai,af,ap,ab⟩:=abx ag aB o f args aa;obtain ⟨rs,aq,hK,hm⟩:=(hC R true f as sub _ r h).1 rfl;split at hK;case h_2=>cases hK
    rename_i ax bs ad;rw [hP] at hm;rw [af,hm.1 ai w,Oper.upon_enter];refine (adj hw (adw _ _) av an ap ab hm ad).mono λen w' ⟨v,D',aj,ak,he,h1,h2,h3⟩=>?_;rcases aeq hK with ⟨s,rfl,hK⟩ | ⟨am,hK⟩
    ·subst he;exact hX s _ v a w' hK ⟨hs.defers,D',aj,ak,h1,h3⟩
    rcases abz h3 with ⟨s,e,_⟩ | ⟨_,h3,ah⟩
    ·exact absurd e (am s)
    rw [ah] at he;subst he;have ae:∀ t H x,adg ax=.gd t H x->t∉dsts (o::J):=by intro t H x hv;rw [hv] at h3;cases h3
    refine I _ _ _ _ hK (hg.put _ ae) ⟨D',aj,ak,h1,(hs.mono h2).put o.dst _ v (λx hx=>⟨by rw [hn];exact af2 hd x hx,hg.clean hx⟩) h3.slot (λt H x hh al=>?_)⟩;exact ae t H x hh (by unfold dsts;simp [List.filterMap_cons,al])
   ·simp at h
 | some jw=>
  obtain ⟨j,H⟩:=jw
  rw [aA] at h
  simp only at h
  cases ht:(ops[j]?).bind (·.dst) with
  | none=>rw [ht] at h;simp at h
  | some t=>
   rw [ht] at h
   simp only at h
   cases au:(dsts (o::J)).any (Nat.beq t) with
   | true=>rw [au] at h;simp at h
   | false=>
    rw [au] at h
    simp only [Ah] at h
    have aP:t∉dsts (o::J):=λhm=>by have:(dsts (o::J)).any (Nat.beq t)=true:=List.any_eq_true.2 ⟨t,hm,Bg t⟩;rw [au] at this;cases this
    cases aD:gval e 8 t H with
    | none=>rw [aD] at h;simp at h
    | some b=>
     rw [aD] at h
     simp only at h
     have ar:=af5 hs 8 t H b aD
     have aI:=agp (tmps:=a.tmps) aA ht
     have Z:∀ v:SV,∀ t' M x,SV.gd t H v=.gd t' M x->t'∉dsts (o::J):=λv t' M x he=>by cases he;exact aP
     have skip:∀ v:SV,b=false->Rel Γ (put e o.dst (.gd t H v)) st (a.put o.dst Go.undef) w:=by
      intro v hb;have am:a.tmps.getD t Go.undef≠.bool H:=λhh=>by have:=ar.1 hh;rw [hb] at this;cases this
      refine ⟨D,ow,μ,hw,hs.put o.dst _ Go.undef (λx hx=>⟨by rw [hn];exact af2 hd x hx,hg.clean hx⟩) ⟨λhh=>absurd hh am,λ_=>rfl⟩ (λt' M x hh al=>?_)⟩;exact Z v t' M x hh (by unfold dsts;simp [List.filterMap_cons,al])
     cases hb:b with
     | false=>
      have aQ:Region.wanted o (yielded ops a.tmps)=false:=by
       cases hc:Region.wanted o (yielded ops a.tmps) with
       | false=>rfl
       | true=>have:=ar.1 (aI.1 hc);rw [hb] at this;cases this
      simp only [aQ,A8,Bb]
      split at h
      ·rename_i c v aa;have hi:imp b c=true:=by rw [hb];cases c<;>rfl
       rw [hi] at h;exact I _ _ _ _ h (hg.put _ (Z v)) (skip v hb)
      ·rename_i f args aa;split at h
       ·obtain ⟨rs,aq,hK⟩:=(hC R b f _ [] _ r h).2;split at hK;case h_2=>cases hK
        exact I _ _ _ _ (adt hK).2 (hg.put _ (Z _)) (skip _ hb)
       ·rw [hb] at h;simp only [Ah] at h;exact I _ _ _ _ h (hg.put _ (Z _)) (skip _ hb)
      ·simp at h
     | true=>
      have ao:a.tmps.getD t Go.undef=.bool H:=ar.2 hb
      have aG:Region.wanted o (yielded ops a.tmps)=true:=aI.2 ao
      simp only [aG,A9]
      refine Or.inl ?_
      unfold Oper.wp
      have ag:∀ x,SRep Γ.P D w ow μ st (opd e [(t,H)] x) (a.eval x):=λx=>abp hs [(t,H)] (λz hz=>by simp at hz;subst hz;exact ao) x
      split at h
      ·rename_i c v aa;have hc:c=true:=by
        rw [hb] at h;cases c with
        | true=>rfl
        | false=>simp [imp] at h
       subst hc;have hi:imp b true=true:=rfl;rw [hi] at h;simp only [Af] at h;have O:=afe hw ag o (ρt:=match o.op with | .pick (.tmp u) _ _=>opd e [(u,true),(t,H)] | _=>opd e []) (ρf:=match o.op with | .pick (.tmp u) _ _=>opd e [(u,false),(t,H)] | _=>opd e []) (λc x y aE=>by
        rw [aE];refine ⟨λhc=>?_,λhc=>?_⟩
        ·cases c with
         | tmp u=>exact abp hs [(u,true),(t,H)] (λz hz=>by simp at hz;rcases hz with rfl | rfl;exact hc;exact ao) x
         | _=>exact abp hs [] (λ_ hx=>by cases hx) x
        ·cases c with
         | tmp u=>exact abp hs [(u,false),(t,H)] (λz hz=>by simp at hz;rcases hz with rfl | rfl;exact hc;exact ao) y
         | _=>exact abp hs [] (λ_ hx=>by cases hx) y) v aa
       exact aek hn hs hd hg O (.gd t H v) (λ_ _ _ _ _ h=>⟨λ_=>h,λhh=>absurd ao hh⟩) (Z v) next Q (λa' w' hr=>I _ _ a' w' h (hg.put _ (Z v)) hr)
      ·rename_i f args aa;split at h
       ·rename_i as aS an;obtain ⟨ai,af,ap,ab⟩:=abx ag aB o f args aa;obtain ⟨rs,aq,hK,hm⟩:=(hC R b f as [] _ r h).1 hb;split at hK;case h_2=>cases hK
        rename_i ax ad;rw [hP] at hm;rw [af,hm.1 ai w,Oper.upon_enter];refine (adj hw (ks:=[]) (by simp) (sub:=[]) rfl an ap ab hm (aff ad st)).mono λen w' ⟨v,D',aj,ak,he,h1,h2,h3⟩=>?_;obtain ⟨am,hK⟩:=adt hK;rcases abz h3 with ⟨s,e,_⟩ | ⟨_,h3,ah⟩
        ·exact absurd e (am s)
        rw [ah] at he;subst he;have aC:abu [] [] st=st:=by simp [abu]
        rw [aC] at h1 h2 h3;refine I _ _ _ _ hK (hg.put _ (Z _)) ⟨D',aj,ak,h1,(hs.mono h2).put o.dst _ v (λx hx=>⟨by rw [hn];exact af2 hd x hx,hg.clean hx⟩) ⟨λ_=>h3,λhh=>absurd ao hh⟩ (λt' M x hh al=>?_)⟩;exact Z _ t' M x hh (by unfold dsts;simp [List.filterMap_cons,al])
       ·rw [hb] at h;simp only [Af] at h;split at h;case h_2=>cases h
        rename_i as sub an av;obtain ⟨ai,af,ap,ab⟩:=abx ag aB o f args aa;obtain ⟨rs,aq,hK,hm⟩:=(hC R true f as sub _ r h).1 rfl;split at hK;case h_2=>cases hK
        rename_i ax bs ad;rw [hP] at hm;rw [af,hm.1 ai w,Oper.upon_enter];refine (adj hw (adw _ _) av an ap ab hm ad).mono λen w' ⟨v,D',aj,ak,he,h1,h2,h3⟩=>?_;rcases aeq hK with ⟨s,rfl,hK⟩ | ⟨am,hK⟩
        ·subst he;exact hX s _ v a w' hK ⟨hs.defers,D',aj,ak,h1,h3⟩
        rcases abz h3 with ⟨s,e,_⟩ | ⟨_,h3,ah⟩
        ·exact absurd e (am s)
        rw [ah] at he;subst he;refine I _ _ _ _ hK (hg.put _ (Z _)) ⟨D',aj,ak,h1,(hs.mono h2).put o.dst _ v (λx hx=>⟨by rw [hn];exact af2 hd x hx,hg.clean hx⟩) ⟨λ_=>h3,λhh=>absurd ao hh⟩ (λt' M x hh al=>?_)⟩;exact Z _ t' M x hh (by unfold dsts;simp [List.filterMap_cons,al])
      ·simp at h
end
end Go.Ab
