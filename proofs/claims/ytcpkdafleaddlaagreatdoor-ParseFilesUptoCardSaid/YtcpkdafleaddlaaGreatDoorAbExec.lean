/- The evaluator is sound: regions, code. -/
import Derived.Test.YtcpkdafleaddlaaGreatDoorAbCall
set_option linter.unusedVariables false
set_option linter.unusedSimpArgs false
set_option linter.unnecessarySimpa false
namespace Go.Ab
open Go
section
variable {Γ:Ctx}{D:Dom}{ow:Own}{μ:Nat->Nat}{st:List BX}{w:World}
theorem a1o {z:Nat->Option Nat}{o:Nat->Nat}{d:List BX}:∀ {l m:List BX}{j:Nat},a6n d z o j l=some m->m.length=l.length/\∀ (i:Nat) (x:BX),l[i]?=some x->∃ y,m[i]?=some y/\aja d z o (j+i) x=some y:=by
 intro l;induction l with
 | nil=>intro m j h;simp only [a6n,Ak] at h;grind
 | cons b r H=>grind [a6n,Option.some.injEq]
theorem av4:∀ (ks:List Nat) (bs st:List BX),ks.Nodup->ks.length<=bs.length->(∀ k,k∈ks->k<st.length)->
 (ab8 ks bs st).length=st.length+(bs.length-ks.length)/\(∀ k,k<st.length->k∉ks->(ab8 ks bs st)[k]?=st[k]?)/\(∀ (j k:Nat),ks[j]?=some k->(ab8 ks bs st)[k]?=bs[j]?)/\
 (∀ i,(ab8 ks bs st)[st.length+i]?=bs[ks.length+i]?):=by
 intro ks
 induction ks with
 | nil=>grind [ab8,List.getElem?_append_left,List.getElem?_append_right]
 | cons x r z=>
  intro bs st o m d
  cases bs with
  | nil=>simp at m
  | cons b q=>
   obtain ⟨Y,H⟩:=List.nodup_cons.1 o
   have X:x<st.length:=d x (by simp)
   obtain ⟨M,O,U,V⟩:=z q (st.set x b) H (by simpa using m) (λk W=>by grind)
   grind [ab8,List.getElem?_set_ne,List.getElem?_set_self,List.length_set,Nat.add_right_comm]
def aks (ow:Own) (n:Nat) (ks:List Nat) (d:Own):Own:=λb=>
 match d b with
 | some j=>ade n ks j
 | none=>match ow b with | some k=>if k∈ks then none else some k | none=>none
def ajj (st:List BX) (μ d:Nat->Nat) (n:Nat) (ks:List Nat):Nat->Nat:=λk=>if k<n then (match st[k]? with | some (.arr _ _ _)=>(if k∈ks then d (idx k ks) else μ k) | _=>μ k) else d (k-n+ks.length)
theorem aeu (O:WRel Γ D ow μ st w) {ks:List Nat} (hn:ks.Nodup) {sub:List BX} (ah:ajc st (adf ks) (λ_=>0) ks=some sub) {args as:List SV} (aM:renL st (adf ks) (λ_=>0) args=some as) {ab:Array Value} (aX:ab.size=args.length)
 (aL:∀ (i:Nat) (s:SV) (v:Value),args[i]?=some s->ab[i]?=some v->SRep Γ.P D w ow μ st s v) {f:FuncId}{rs:List SV}{H:List BX} (hm:Meets Γ.P f as sub rs H) {az:List SV}{bs:List BX} (W:agt st ks rs H=some (az,bs)):
 Calls Γ.P f ab w λe w'=>∃ v D' ay aA,e=ahw az v/\WRel Γ D' ay aA (ab8 ks bs st) w'/\Moves D w ow μ st D' w' ay aA (ab8 ks bs st)/\ahc Γ.P D' w' ay aA (ab8 ks bs st) az v:=by
 obtain ⟨bb,ag⟩:=ai7 ks sub ah
 have em:=Emb.sub (ow:=ow) (μ:=μ) hn ah
 obtain ⟨aK,a5⟩:=aky aM
 have tabs:Tabs Γ.P (agh ow ks) w:=by
  intro p hp g hg;obtain ⟨U,cs,T,fr,h2,h3⟩:=Γ.tabs p hp g hg;have V:g<Γ.B:=by rw [Γ.hB];grind
  have aV:ow g=none:=by
   cases ho:ow g with
   | none=>rfl
   | some k=>have:=O.owN g k ho V;grind
  exact ⟨by simp [agh,aV],cs,T,fr,by rw [O.old g V U];exact h2,h3⟩
 have a0:Pre Γ.P D (agh ow ks) (λj=>μ (ks.getD j 0)) sub w as ab:=by refine ⟨by rw [aX,aK],λi s v hs hv=>?_,O.objs.sub hn ah,tabs⟩;grind [agj]
 refine (hm.2 D (agh ow ks) (λj=>μ (ks.getD j 0)) w ab a0).mono λe w' ⟨v,D',he,hp⟩=>?_
 obtain ⟨Y,aa,hr⟩:=hp.rest
 unfold agt at W
 split at W
 case h_2=>cases W
 rename_i be aq aW aO
 simp only [Ak,Prod.mk.injEq] at W
 obtain ⟨rfl,rfl⟩:=W
 obtain ⟨aN,ae⟩:=a1o aO
 have a8:sub.length<=H.length:=by
  rcases Nat.lt_or_ge H.length sub.length with h | h
  ·obtain ⟨b',U,_⟩:=hr.keep H.length _ (An h);grind
  ·exact h
 have aZ:∀ k,k∈ks->k<st.length:=by grind [List.mem_iff_getElem?,List.getElem?_eq_some_iff]
 obtain ⟨bl,bo,bk,bn⟩:=av4 ks aq st hn (by omega) aZ
 generalize hB:ab8 ks aq st=B at*
 have aJ:B.length=st.length+(H.length-ks.length):=by rw [bl,aN]
 have am:∀ (j k:Nat),ks[j]?=some k->ade st.length ks j=some k:=λj k h=>by grind [ade]
 have a4:∀ (j:Nat),ks.length<=j->ade st.length ks j=some (st.length+(j-ks.length)):=λj h=>by grind [ade,List.getElem?_eq_none]
 have Z:∀ (j k:Nat),ade st.length ks j=some k->ks[j]?=some k\/(ks.length<=j/\k=st.length+(j-ks.length)):=by grind
 have aI:∀ (j k:Nat),ade st.length ks j=some k->B[k]?=aq[j]?:=by
  intro j k h;rcases Z j k h with h | ⟨U,h2⟩
  ·exact bk j k h
  simp_all
 have aj:∀ (j k:Nat) (b:BX),ks[j]?=some k->st[k]?=some b->∃ b1,H[j]?=some b1/\b1.kind=b.kind/\((∀ g,b≠.acc g)->(∀ E g xs,b≠.arr E g xs)->aa j=μ k):=by intro j k b X M;obtain ⟨b0,b',U,h2,h3⟩:=ag j k X;rw [M] at U;cases U;obtain ⟨q1,q2⟩:=acn h2;obtain ⟨b1,r1,r2,r3⟩:=hr.keep j b' h3;grind [aga,auk,List.getD]
 have av:∀ k,k<st.length->k∉ks->ajj st μ aa st.length ks k=μ k:=by intro k M au;simp only [ajj,M,A6];grind
 have af:∀ k b,st[k]?=some b->(∀ E g xs,b≠.arr E g xs)->ajj st μ aa st.length ks k=μ k:=by intro k b W a9;have M:=(A4.1 W).1;simp only [ajj,M,A6];grind
 have a3:∀ j k E g xs,ks[j]?=some k->st[k]?=some (.arr E g xs)->ajj st μ aa st.length ks k=aa j:=by intro j k E g xs X W;have M:=(A4.1 W).1;have au:=List.mem_of_getElem? X;have e:idx k ks=j:=aom hn (arv (List.any_eq_true.2 ⟨k,au,Bg k⟩)) X;simp only [ajj,M,A6,W,au,e]
 have mb:Emb (ade st.length ks) (agu st ks H) Y aa H (aks ow st.length ks Y) (ajj st μ aa st.length ks) B:=by
  refine ⟨λj k b M X=>?_,λj k b M ba=>by grind [aks]⟩;obtain ⟨y,bc,aF⟩:=ae j b X;rw [Nat.zero_add] at aF;obtain ⟨q1,q2⟩:=acn aF;refine ⟨y,by grind,q1,λa2=>?_,q2⟩;rcases Z j k M with h | ⟨U,h2⟩
  ·grind [List.mem_of_getElem?,List.getElem?_eq_getElem,aga]
  ·have:¬k<st.length:=by omega
   simp only [ajj,this,A7];grind
 have ak:∀ b,(∀ k,k∈ks->ow b≠some k)->b<w.heap.size->w'.heap[b]?=w.heap[b]?:=λb W V=>hp.old b V (aln W)
 have ai:∀ b k,ow b=some k->k∉ks->w'.heap[b]?=w.heap[b]?:=λb k ob M=>ak b (λk' aR e=>by grind) (O.owlt b k ob).1
 have ao:∀ b k,ow b=some k->k∉ks->∀ o,D' b o->D b o:=by
  intro b k ob M o d;rcases hp.new b o d with h | h | h
  ·exact h
  ·have:=(O.owlt b k ob).1;omega
  grind [absurd,aln]
 have aw:∀ b k,k∉ks->ow b=some k->aks ow st.length ks Y b=some k:=by
  intro b k M ob;have aS:Y b=none:=by
   cases h:Y b with
   | none=>rfl
   | some j=>obtain ⟨k',X,bd⟩:=aey (hr.own b j h (O.owlt b k ob).1);grind
  simp only [aks,aS,ob,M,A7]
 have ax:∀ b k,aks ow st.length ks Y b=some k->(k∉ks/\ow b=some k)\/∃ j,ade st.length ks j=some k/\Y b=some j:=by
  intro b k h;unfold aks at h;split at h
  ·grind
  ·split at h
   ·rename_i k' aR;split at h;all_goals grind
   ·cases h
 have aH:∀ (k:Nat) (b:BX),st[k]?=some b->k∉ks->B[k]?=some b:=λk b h M=>by grind
 have ad:∀ (k:Nat) (b:BX),st[k]?=some b->∃ b',B[k]?=some b'/\b'.kind=b.kind:=by
  intro k b h;by_cases M:k∈ks
  ·obtain ⟨j,X⟩:=List.mem_iff_getElem?.1 M;grind [acn,trans]
  grind
 have m:Moves D w ow μ st D' w' (aks ow st.length ks Y) (ajj st μ aa st.length ks) B:=by
  refine ⟨hp.dom,hp.keeps,λk T s e=>⟨af k _ e (by simp),?_⟩,λk K E es e=>⟨af k _ e (by simp),?_⟩,λk b e hs=>⟨af k _ e (λE g xs W=>by subst W;exact hs rfl),?_⟩,λk E g xs e=>?_,λk g e=>?_⟩
  ·obtain ⟨b',U,h2⟩:=ad k _ e;obtain ⟨s',rfl⟩:=am0 h2;grind
  ·obtain ⟨b',U,h2⟩:=ad k _ e;obtain ⟨s',rfl⟩:=ay1 h2;grind
  ·obtain ⟨b',U,h2⟩:=ad k _ e;refine ⟨b',U,?_⟩;cases b with
   | iter s p=>obtain ⟨s',p',rfl⟩:=a4x h2;rfl
   | bld T s=>obtain ⟨s',rfl⟩:=ay0 h2;rfl
   | _=>exact absurd rfl hs
  ·by_cases M:k∈ks
   ·obtain ⟨j,X⟩:=List.mem_iff_getElem?.1 M;obtain ⟨b1,r1,r2,_⟩:=aj j k _ X e;obtain ⟨g1,ys,rfl⟩:=aiw r2;obtain ⟨b',U,_,_,_,h5⟩:=mb.obj j k _ (am j k X) r1;have h5:=h5 _ _ _ rfl;rw [h5] at U;have aD:agu st ks H j=(bif Nat.beq g1 0 then g else g+1):=by grind [agu]
    rw [aD] at U;refine ⟨_,_,U,?_,λa7=>?_⟩
    ·grind
    ·have aP:g1=0:=by
      grind [Nat.beq,Nat.eq_of_beq_eq_true]
     subst aP;obtain ⟨b0,b2,q1,q2,q3⟩:=ag j k X;rw [e] at q1;cases q1;have q2:=(acn q2).2.2 _ _ _ rfl;rw [q2] at q3;obtain ⟨s1,s2⟩:=hr.same j E 0 xs ys q3 r1;refine ⟨s1,λaB hc aU=>?_⟩;have a6:ks.getD j 0=k:=by grind
     obtain ⟨t1,t2,a1,t3,t4⟩:=s2 aB (by grind) (by grind [ash]);grind [trans,aks]
   ·refine ⟨g,xs,aH k _ e M,Nat.le_refl _,λ_=>⟨rfl,λaB hc aU=>?_⟩⟩;grind
  ·by_cases M:k∈ks
   ·obtain ⟨j,X⟩:=List.mem_iff_getElem?.1 M;obtain ⟨b1,r1,r2,_⟩:=aj j k _ X e;obtain ⟨g1,rfl⟩:=a9j r2;obtain ⟨b',U,_,_,h4,_⟩:=mb.obj j k _ (am j k X) r1;have:=h4 ⟨_,rfl⟩;rw [this] at U;have hg:agu st ks H j=g+1:=by grind [agu]
    rw [hg] at U;grind
   grind
 have an:∀ (k:Nat) (b:BX),B[k]?=some b->(k∉ks/\st[k]?=some b)\/∃ j b1,ade st.length ks j=some k/\H[j]?=some b1/\aja H (ade st.length ks) (agu st ks H) j b1=some b:=by
  intro k b h;have ar:∀ j,ade st.length ks j=some k->∃ j b1,ade st.length ks j=some k/\H[j]?=some b1/\aja H (ade st.length ks) (agu st ks H) j b1=some b:=by grind
  by_cases M:k∈ks
  ·grind [List.mem_iff_getElem?]
  ·by_cases V:k<st.length
   ·grind
   ·exact Or.inr (ar (k-st.length+ks.length) (by grind))
 have al:∀ (k:Nat) (b:BX),B[k]?=some b->ObjIn Γ.P D' w' (aks ow st.length ks Y) (ajj st μ aa st.length ks) B k b:=by
  intro k b h;rcases an k b h with ⟨M,U⟩ | ⟨j,b1,X,U,h2⟩
  ·have V:=(A4.1 U).1;cases b with
   | box T s=>obtain ⟨c,T',q1,q2,q3,q4,q5⟩:=O.box k T s U;exact BoxRep.mono ⟨c,T',q1,q2,q3,q4,q5⟩ m (av k V M) (ai _ k q3 M) (aw _ k M q3) (λo d=>q4 o (ao _ _ q3 M o d))
   | map K E es=>obtain ⟨ents,clock,kc,vc,q1,q2,q3⟩:=O.map k K E es U;exact OMapRep.mono ⟨ents,clock,kc,vc,q1,q2,q3⟩ m.dom m.keeps (av k V M) (ai _ k q2 M) (aw _ k M q2) (λo d=>q3.1 o (ao _ _ q2 M o d))
   | acc g=>trivial
   | hole=>trivial
   | _=>exact (O.obj k _ U).mono m.dom m.keeps (λ_=>av k V M) (λc oc=>⟨ai c k oc M,aw c k M oc,ao c k oc M⟩)
  ·exact (hr.objs.obj j b1 U).ren mb U X h2
 have ap:∀ k,k<Γ.np->∃ b,B[k]?=some b/\b.kind=Γ.K0 k:=by intro k M;obtain ⟨x,hx,p1⟩:=O.par k M;grind
 obtain ⟨aE,aC⟩:=a1p mb hr.res aW
 rw [<-aC] at he
 refine ⟨v,D',_,_,he,⟨λk T s e=>al k _ e,λk K E es e=>al k _ e,λk b e=>?_,λb k ob=>?_,hr.objs.dlt,hp.os.trans O.os,hp.tape.trans O.tape,hp.output.trans O.output,Nat.le_trans O.hs hp.size,
  λb W aT=>?_,λb o d=>hp.dom b o (O.dom0 b o d),λb o d=>?_,λb k ob W=>?_,by grind,λk M hK=>?_,ap,λb k y ob e hy o d=>?_,O.keep0.trans hp.keeps O.dom0,O.arr0_moves m ap⟩,m,aE⟩
 ·have:=al k b e;cases b with
  | box T s=>trivial
  | map K E es=>trivial
  | acc g=>trivial
  | hole=>trivial
  | _=>exact this
 ·rcases ax b k ob with ⟨_,h⟩ | ⟨j,X,h⟩
  ·exact ⟨Aw (O.owlt b k h).1 hp.size,by rw [aJ];have:=(O.owlt b k h).2;omega⟩
  ·have U:=hr.objs.owlt b j h;grind
 ·have V:b<w.heap.size:=Aw W O.hs;refine (ak b (λk M e=>?_) V).trans (O.old b W aT);have:=O.owN b k e W;grind
 ·rcases hp.new b o d with d | d | d
  ·exact O.domN b o d
  ·exact Or.inr (Or.inl (Nat.le_trans O.hs d))
  ·cases ho:ow b with
   | none=>grind [absurd,agh]
   | some k=>
    by_cases W:b<Γ.B
    ·exact Or.inr (Or.inr (by rw [O.owN b k ho W];simp))
    grind
 ·rcases ax b k ob with ⟨_,h⟩ | ⟨j,X,h⟩
  ·exact O.owN b k h W
  ·obtain ⟨k',aQ,h'⟩:=aey (hr.own b j h (Aw W O.hs));rw [am j k' aQ] at X;cases X;exact O.owN b k h' W
 ·obtain ⟨x,hx,p1⟩:=O.par k M;rw [af k x hx (λE g xs W=>by subst W;exact hK E p1.symm)];exact O.mu0 k M hK
 ·rcases ax b k ob with ⟨M,h⟩ | ⟨j,X,h⟩
  ·rcases an k y e with ⟨_,U⟩ | ⟨j,b1,X,_,_⟩
   ·exact O.lone b k y h U hy o (ao b k h M o d)
   ·rcases Z j k X with h2 | ⟨_,h3⟩
    ·grind
    ·have:=(O.owlt b k h).2;omega
  ·have h2:=aI j k X;rw [e] at h2;have V:j<H.length:=by grind
   obtain ⟨z,aG,aY⟩:=ae j _ (An V);rw [<-h2] at aG;cases aG;exact hr.objs.lone b j _ h (An V) (aga (acn aY).1.symm hy) o d
end
mutual
theorem aoy {H z:Nat->Nat}{M:Nat->Option Nat}:∀ (s d:SV),renS [] (λ_=>none) H s=some d->renS [] M z s=some d
 | .fn f n caps,d,h=>by
  simp only [renS] at h ⊢;split at h
  ·rename_i cs m;rw [akx caps cs m];exact h
  ·cases h
 | .agg T fs,d,h=>by
  simp only [renS] at h ⊢;split at h
  ·rename_i cs m;rw [akx fs cs m];exact h
  ·cases h
 | .ifc T s,d,h=>by
  simp only [renS] at h ⊢;split at h
  ·rename_i x o;rw [aoy s x o];exact h
  ·cases h
 | .pan s,d,h=>by
  simp only [renS] at h ⊢;split at h
  ·rename_i x o;rw [aoy s x o];exact h
  ·cases h
 | .acc k g E xs,d,h=>by simp only [renS,Ak] at h ⊢;subst h;have:apf [] k g=false:=rfl;grind
 | .ref k p T,d,h=>by simp [renS] at h
 | .bref k T,d,h=>by simp [renS] at h
 | .mref k,d,h=>by simp [renS] at h
 | .arr k g E,d,h=>by simp [renS] at h
 | .aref k g i E p T,d,h=>by simp [renS] at h
 | .eref k i E,d,h=>by simp [renS] at h
 | .asl k O n E,d,h=>by simp [renS] at h
 | .iref k,d,h=>by simp [renS] at h
 | .gd _ _ _,d,h=>by simp [renS] at h
 | .nx _ _ _,d,h=>by simp [renS] at h
 | .tup _,d,h=>by simp [renS] at h
 | .undef,d,h=>h
 | .bool _,d,h=>h
 | .int _ _,d,h=>h
 | .str _,d,h=>h
 | .slice _ _,d,h=>h
 | .data _ _,d,h=>h
 | .map _ _ _,d,h=>h
 | .nils,d,h=>h
 | .eif _,d,h=>h
 | .pto _ _,d,h=>h
 | .raw _,d,h=>h
 | .lit _ _,d,h=>h
theorem akx {H m:Nat->Nat}{M:Nat->Option Nat}:∀ (l d:List SV),renL [] (λ_=>none) H l=some d->renL [] M m l=some d
 | [],d,h=>h
 | s::r,d,h=>by
  simp only [renL] at h ⊢;split at h
  ·rename_i x q z o;rw [aoy s x z,akx r q o];exact h
  ·cases h
end
theorem ahp {rs:List SV}{sub:List BX}{d:List SV} (h:aho rs sub=some d) (st:List BX):agt st [] rs sub=some (d,[]):=by
 unfold aho at h;split at h
 ·unfold agt;rw [akx rs d h];rfl
 ·cases h
theorem bb4 {rs:List SV}{sub:List BX}{d:List SV} (h:aho rs sub=some d):sub=[]:=by grind [aho]
mutual
theorem aox {d:Nat->Nat} (st st':List BX):∀ (s:SV),renS st (adf []) d s=renS st' (adf []) d s
 | .fn f n caps=>by simp only [renS];rw [aib st st' caps]
 | .agg T fs=>by simp only [renS];rw [aib st st' fs]
 | .ifc T s=>by simp only [renS];rw [aox st st' s]
 | .pan s=>by simp only [renS];rw [aox st st' s]
 | .acc k g E xs=>by simp only [renS];rfl
 | .ref k p T=>rfl
 | .bref k T=>rfl
 | .mref k=>rfl
 | .arr k g E=>rfl
 | .aref k g i E p T=>rfl
 | .eref k i E=>rfl
 | .asl k m n E=>rfl
 | .iref k=>rfl
 | .gd _ _ _=>rfl
 | .nx _ _ _=>rfl
 | .tup _=>rfl
 | .undef=>rfl
 | .bool _=>rfl
 | .int _ _=>rfl
 | .str _=>rfl
 | .slice _ _=>rfl
 | .data _ _=>rfl
 | .map _ _ _=>rfl
 | .nils=>rfl
 | .eif _=>rfl
 | .pto _ _=>rfl
 | .raw _=>rfl
 | .lit _ _=>rfl
theorem aib {d:Nat->Nat} (st st':List BX):∀ (l:List SV),renL st (adf []) d l=renL st' (adf []) d l
 | []=>rfl
 | s::r=>by simp only [renL];rw [aox st st' s,aib st st' r]
end
mutual
theorem alh (st st':List BX):∀ (s:SV),an8 false st s=an8 false st' s
 | .fn f n caps=>by simp only [an8];rw [agy st st' caps]
 | .agg T fs=>by simp only [an8];rw [agy st st' fs]
 | .ifc T s=>by simp only [an8];rw [alh st st' s]
 | .pan s=>by simp only [an8];rw [alh st st' s]
 | .acc k g E xs=>rfl
 | .ref k p T=>rfl
 | .bref k T=>rfl
 | .mref k=>rfl
 | .arr k g E=>rfl
 | .aref k g i E p T=>rfl
 | .eref k i E=>rfl
 | .asl k d n E=>rfl
 | .iref k=>rfl
 | .gd _ _ _=>rfl
 | .nx _ _ _=>rfl
 | .tup _=>rfl
 | .undef=>rfl
 | .bool _=>rfl
 | .int _ _=>rfl
 | .str _=>rfl
 | .slice _ _=>rfl
 | .data _ _=>rfl
 | .map _ _ _=>rfl
 | .nils=>rfl
 | .eif _=>rfl
 | .pto _ _=>rfl
 | .raw _=>rfl
 | .lit _ _=>rfl
theorem agy (st st':List BX):∀ (l:List SV),agb false st l=agb false st' l
 | []=>rfl
 | s::r=>by simp only [agb];rw [alh st st' s,agy st st' r]
end
theorem ami {st st':List BX}{args:List SV} (h:aa3 st args=[]):aa3 st' args=[]:=by have d:=axp h;unfold aa3;rw [agy st' st,d];rfl
def aar (C:Cfg):Prop:=∀ (R:Type) (b:Bool) (f:FuncId) (d:List SV) (st:List BX) (K:List SV->List BX->Option R) (r:R),C.call R b f d st K=some r->
 (b=true->∃ rs st',K rs st'=some r/\Meets C.P f d st rs st')/\∃ rs st',K rs st'=some r
def GInv (e:Env) (l:List Oper):Prop:=∀ t u d x,e t=.gd u d x->u∉dsts l
section
variable {Γ:Ctx}
theorem alv {ops:Array Oper}{o:Oper}{j t:Nat}{d:Bool}{tmps:Array Value} (m:o.guard=some (j,d)) (z:(ops[j]?).bind (·.dst)=some t):Region.wanted o (yielded ops tmps)=true ↔ tmps.getD t Go.undef=.bool d:=by
 have e:tmps.getD t Go.undef=(tmps[t]?).getD Go.undef:=by simp
 grind [Region.wanted,yielded,Go.undef]
theorem GInv.sub {e:Env}{o:Oper}{l:List Oper} (h:GInv e (o::l)):GInv e l:=λt u d x m z=>h t u d x m (by grind [dsts,List.mem_cons_of_mem])
theorem GInv.clean {e:Env}{o:Oper}{l:List Oper} (h:GInv e (o::l)) {d:Nat} (H:o.dst=some d):azz e d:=λt u m x z M=>h t u m x z (by grind [dsts])
theorem GInv.put {e:Env}{o:Oper}{l:List Oper} (h:GInv e (o::l)) (s:SV) (V:∀ u m x,s=.gd u m x->u∉dsts (o::l)):GInv (Ab.put e o.dst s) l:=by
 intro t u m x z U;have H:u∈dsts (o::l):=by grind [dsts,List.mem_cons_of_mem]
 cases M:o.dst with
 | none=>rw [M] at z;exact h t u m x z H
 | some d=>
  rw [M] at z;simp only [Ab.put,Env.set] at z;cases O:Nat.beq t d with
  | true=>grind
  | false=>rw [O] at z;exact h t u m x z H
theorem ajg {C:Cfg}{o:Oper} (h:apk C.n o.dst=true):∀ x,o.dst=some x->x<C.n:=by intro x d;rw [d] at h;exact As h
theorem aha {D:Dom}{ow:Own}{μ:Nat->Nat}{e:Env}{st st':List BX}{a:Act}{w:World}{C:Cfg} (hn:Γ.n=C.n) (hs:Slots Γ D ow μ e st a w) {o:Oper}{l:List Oper} (W:apk C.n o.dst=true) (Y:GInv e (o::l)) {v:SV}{r:Result Next}
 (h:OpRes Γ D ow μ st w r v st') (s:SV) (H:∀ (D':Dom) (w':World) (d:Own) (m:Nat->Nat) (u:Value),SRep Γ.P D' w' d m st' v u->SlotRep Γ.P D' w' d m st' a s u) (aa:∀ t z x,s=.gd t z x->t∉dsts (o::l))
 (next:Act->World->Prop) (Q:Exit->Act->World->Prop) (M:∀ O w',Rel Γ (put e o.dst s) st' O w'->next O w'):o.upon Γ.P a next Q r:=by
 obtain ⟨u,w',D',d,m,hr,hw,Z,hv⟩:=h
 have U:Rel Γ (put e o.dst s) st' (a.put o.dst u) w':=by refine ⟨D',d,m,hw,(hs.mono Z).put o.dst s u (λx V=>⟨by rw [hn];exact ajg W x V,Y.clean V⟩) (H _ _ _ _ _ hv) (λt z x hh X=>?_)⟩;grind [dsts]
 grind [Oper.upon_value,Oper.upon_skip]
def PRel (Γ:Ctx) (s:SV) (st:List BX) (v:Value) (a:Act) (w:World):Prop:=a.defers=[]/\∃ D ow μ,WRel Γ D ow μ st w/\SRep Γ.P D w ow μ st s v
theorem aev {R:Type}{rs:List SV}{k:Option R}{x:SV->Option R}{r:R} (h:fork rs k x=some r):(∃ s,rs=[.pan s]/\x s=some r)\/((∀ s,rs≠[.pan s])/\k=some r):=by unfold fork at h;grind
theorem ah1 {R:Type}{rs:List SV}{k:Option R}{r:R} (h:fork rs k (λ_=>none)=some r):(∀ s,rs≠[.pan s])/\k=some r:=by grind [aev]
theorem axt {R:Type}{C:Cfg} (hC:aar C) (hP:C.P=Γ.P) (hn:Γ.n=C.n) {ops:Array Oper}{i:Nat}{o:Oper} (ho:ops[i]?=some o) {M:List Oper}{e:Env}{st:List BX}{K:Env->List BX->Option R}{X:SV->List BX->Option R}{r:R} (h:bc8 C ops o M e st K X=some r)
 {a:Act}{w:World} (aA:Rel Γ e st a w) (hg:GInv e (o::M)) (next:Act->World->Prop) (Q:Exit->Act->World->Prop)
 (m:∀ e' st' a' w',K e' st'=some r->GInv e' M->Rel Γ e' st' a' w'->next a' w') (hX:∀ s st' v a' w',X s st'=some r->PRel Γ s st' v a' w'->Q (.panic [{ v,recovered:=false }]) a' w'):wpOp Γ.P ops Q i next a w:=by
 obtain ⟨D,ow,μ,hw,hs⟩:=aA
 unfold bc8 at h
 cases hd:apk C.n o.dst with
 | false=>grind
 | true=>
 rw [hd] at h
 simp only [Ad,hP] at h
 unfold wpOp
 simp only [ho]
 have av:∀ f,a.eval (.func f)=.func (.func f) #[] #[]:=λf=>rfl
 cases an:o.guard with
 | none=>
  have au:Region.wanted o (yielded ops a.tmps)=true:=by simp [Region.wanted,an]
  simp only [au,A6]
  refine Or.inl ?_
  unfold Oper.wp
  rw [an] at h
  simp only at h
  have ab:∀ x,SRep Γ.P D w ow μ st (opd e [] x) (a.eval x):=λx=>abw hs [] (λ_ hx=>by cases hx) x
  have aG:∀ v:SV,(∀ u,SRep Γ.P D w ow μ st v u->True)->True:=λ_ _=>trivial
  split at h
  ·simp at h
  ·rename_i c v H;cases c with
   | false=>simp at h
   | true=>
    simp only [Ad] at h;have W:=afc hw ab o (ρt:=match o.op with | .pick (.tmp t) _ _=>opd e [(t,true)] | _=>opd e []) (ρf:=match o.op with | .pick (.tmp t) _ _=>opd e [(t,false)] | _=>opd e []) (λc x y aq=>by
     rw [aq];refine ⟨λhc=>?_,λhc=>?_⟩
     ·cases c with
      | tmp t=>exact abw hs [(t,true)] (λz hz=>by simp at hz;subst hz;exact hc) x
      | _=>exact ab x
     ·cases c with
      | tmp t=>exact abw hs [(t,false)] (λz hz=>by simp at hz;subst hz;exact hc) y
      | _=>exact ab y) v H
    have af:∀ t d x,v=.gd t d x->t∉dsts (o::M):=by intro t d x hv;obtain ⟨u,w',D',aE,aF,_,_,_,ar⟩:=W;subst hv;cases ar
    exact aha hn hs hd hg W v (λ_ _ _ _ _ h=>h.slot) af next Q (λa' w' hr=>m _ _ a' w' h (hg.put v af) hr)
  ·rename_i c v st' H;cases c with
   | false=>simp at h
   | true=>
    simp only [Ad] at h;have W:=al0 hw ab o v st' H;have af:∀ t d x,v=.gd t d x->t∉dsts (o::M):=by intro t d x hv;obtain ⟨u,w',D',aE,aF,_,_,_,ar⟩:=W;subst hv;cases ar
    exact aha hn hs hd hg W v (λ_ _ _ _ _ h=>h.slot) af next Q (λa' w' hr=>m _ _ a' w' h (hg.put v af) hr)
  ·rename_i v H;obtain ⟨u,Y,hu⟩:=atp ab o v H;rw [Y,Oper.upon_panic];exact hX v st u a w h ⟨hs.defers,D,ow,μ,hw,hu⟩
  ·rename_i f args H;split at h
   ·rename_i as sub aj ak;obtain ⟨ae,Y,al,U⟩:=ac3 ab av o f args H;obtain ⟨rs,am,O,hm⟩:=(hC R true f as sub _ r h).1 rfl;split at O;case h_2=>cases O
    rename_i aw bs V;rw [hP] at hm;rw [Y,hm.1 ae w,Oper.upon_enter];refine (aeu hw (aeo _ _) ak aj al U hm V).mono λen w' ⟨v,D',ag,ah,he,h1,h2,h3⟩=>?_;rcases aev O with ⟨s,rfl,O⟩ | ⟨ao,O⟩
    ·subst he;exact hX s _ v a w' O ⟨hs.defers,D',ag,ah,h1,h3⟩
    rcases acx h3 with ⟨s,e,_⟩ | ⟨_,h3,ad⟩
    ·grind
    rw [ad] at he;subst he;have af:∀ t d x,ad2 aw=.gd t d x->t∉dsts (o::M):=by intro t d x hv;rw [hv] at h3;cases h3
    refine m _ _ _ _ O (hg.put _ af) ⟨D',ag,ah,h1,(hs.mono h2).put o.dst _ v (λx hx=>⟨by rw [hn];exact ajg hd x hx,hg.clean hx⟩) h3.slot (λt d x hh ap=>?_)⟩;grind [dsts]
   ·simp at h
 | some jw=>
  obtain ⟨j,d⟩:=jw
  rw [an] at h
  simp only at h
  cases ht:(ops[j]?).bind (·.dst) with
  | none=>grind
  | some t=>
   rw [ht] at h
   simp only at h
   cases az:(dsts (o::M)).any (Nat.beq t) with
   | true=>grind
   | false=>
    rw [az] at h
    simp only [Ae] at h
    have aI:t∉dsts (o::M):=λhm=>by grind [dsts,Nat.beq,List.any_eq_true,Nat.beq_refl]
    cases ax:gval e 8 t d with
    | none=>grind
    | some b=>
     rw [ax] at h
     simp only at h
     have ay:=alc hs 8 t d b ax
     have aD:=alv (tmps:=a.tmps) an ht
     have Z:∀ v:SV,∀ t' aa x,SV.gd t d v=.gd t' aa x->t'∉dsts (o::M):=λv t' aa x he=>by grind
     have skip:∀ v:SV,b=false->Rel Γ (put e o.dst (.gd t d v)) st (a.put o.dst Go.undef) w:=by
      intro v hb;have ao:a.tmps.getD t Go.undef≠.bool d:=λhh=>by grind
      refine ⟨D,ow,μ,hw,hs.put o.dst _ Go.undef (λx hx=>⟨by rw [hn];exact ajg hd x hx,hg.clean hx⟩) ⟨λhh=>absurd hh ao,λ_=>rfl⟩ (λt' aa x hh ap=>?_)⟩;grind [dsts]
     cases hb:b with
     | false=>
      have aC:Region.wanted o (yielded ops a.tmps)=false:=by grind
      simp only [aC,A2,A7]
      split at h
      ·rename_i c v H;have hi:imp b c=true:=by grind
       rw [hi] at h;exact m _ _ _ _ h (hg.put _ (Z v)) (skip v hb)
      ·rename_i f args H;split at h
       ·obtain ⟨rs,am,O⟩:=(hC R b f _ [] _ r h).2;split at O;case h_2=>cases O
        exact m _ _ _ _ (ah1 O).2 (hg.put _ (Z _)) (skip _ hb)
       ·rw [hb] at h;simp only [Ae] at h;exact m _ _ _ _ h (hg.put _ (Z _)) (skip _ hb)
      ·simp at h
     | true=>
      have ai:a.tmps.getD t Go.undef=.bool d:=ay.2 hb
      have au:Region.wanted o (yielded ops a.tmps)=true:=aD.2 ai
      simp only [au,A6]
      refine Or.inl ?_
      unfold Oper.wp
      have ab:∀ x,SRep Γ.P D w ow μ st (opd e [(t,d)] x) (a.eval x):=λx=>abw hs [(t,d)] (λz hz=>by grind) x
      split at h
      ·rename_i c v H;have hc:c=true:=by
        grind [imp]
       subst hc;have hi:imp b true=true:=rfl;rw [hi] at h;simp only [Ad] at h;have W:=afc hw ab o (ρt:=match o.op with | .pick (.tmp u) _ _=>opd e [(u,true),(t,d)] | _=>opd e []) (ρf:=match o.op with | .pick (.tmp u) _ _=>opd e [(u,false),(t,d)] | _=>opd e []) (λc x y aq=>by
        rw [aq];refine ⟨λhc=>?_,λhc=>?_⟩
        ·cases c with
         | tmp u=>exact abw hs [(u,true),(t,d)] (λz hz=>by simp at hz;rcases hz with rfl | rfl;exact hc;exact ai) x
         | _=>grind [abw]
        ·cases c with
         | tmp u=>exact abw hs [(u,false),(t,d)] (λz hz=>by simp at hz;rcases hz with rfl | rfl;exact hc;exact ai) y
         | _=>grind [abw]) v H
       exact aha hn hs hd hg W (.gd t d v) (λ_ _ _ _ _ h=>⟨λ_=>h,λhh=>absurd ai hh⟩) (Z v) next Q (λa' w' hr=>m _ _ a' w' h (hg.put _ (Z v)) hr)
      ·rename_i f args H;split at h
       ·rename_i as aH aj;obtain ⟨ae,Y,al,U⟩:=ac3 ab av o f args H;obtain ⟨rs,am,O,hm⟩:=(hC R b f as [] _ r h).1 hb;split at O;case h_2=>cases O
        rename_i aw V;rw [hP] at hm;rw [Y,hm.1 ae w,Oper.upon_enter];refine (aeu hw (ks:=[]) (by simp) (sub:=[]) rfl aj al U hm (ahp V st)).mono λen w' ⟨v,D',ag,ah,he,h1,h2,h3⟩=>?_;obtain ⟨ao,O⟩:=ah1 O;rcases acx h3 with ⟨s,e,_⟩ | ⟨_,h3,ad⟩
        ·grind
        rw [ad] at he;subst he;have aB:ab8 [] [] st=st:=by simp [ab8]
        rw [aB] at h1 h2 h3;refine m _ _ _ _ O (hg.put _ (Z _)) ⟨D',ag,ah,h1,(hs.mono h2).put o.dst _ v (λx hx=>⟨by rw [hn];exact ajg hd x hx,hg.clean hx⟩) ⟨λ_=>h3,λhh=>absurd ai hh⟩ (λt' aa x hh ap=>?_)⟩;grind [dsts]
       ·rw [hb] at h;simp only [Ad] at h;split at h;case h_2=>cases h
        rename_i as sub aj ak;obtain ⟨ae,Y,al,U⟩:=ac3 ab av o f args H;obtain ⟨rs,am,O,hm⟩:=(hC R true f as sub _ r h).1 rfl;split at O;case h_2=>cases O
        rename_i aw bs V;rw [hP] at hm;rw [Y,hm.1 ae w,Oper.upon_enter];refine (aeu hw (aeo _ _) ak aj al U hm V).mono λen w' ⟨v,D',ag,ah,he,h1,h2,h3⟩=>?_;rcases aev O with ⟨s,rfl,O⟩ | ⟨ao,O⟩
        ·subst he;exact hX s _ v a w' O ⟨hs.defers,D',ag,ah,h1,h3⟩
        rcases acx h3 with ⟨s,e,_⟩ | ⟨_,h3,ad⟩
        ·grind
        rw [ad] at he;subst he;refine m _ _ _ _ O (hg.put _ (Z _)) ⟨D',ag,ah,h1,(hs.mono h2).put o.dst _ v (λx hx=>⟨by rw [hn];exact ajg hd x hx,hg.clean hx⟩) ⟨λ_=>h3,λhh=>absurd ai hh⟩ (λt' aa x hh ap=>?_)⟩;grind [dsts]
      ·simp at h
end
end Go.Ab
