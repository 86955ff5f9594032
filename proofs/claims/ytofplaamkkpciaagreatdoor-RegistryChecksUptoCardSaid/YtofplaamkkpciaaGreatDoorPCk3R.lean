/- The examination of schemas: messages that need themselves; both sides find the same. -/
import Derived.Test.YtofplaamkkpciaaGreatDoorPCk1R
set_option linter.unusedVariables false
set_option linter.unusedSimpArgs false
set_option linter.unnecessarySimpa false
namespace Go.Ab
open Go
set_option maxRecDepth 100000
def lkT(es:List (PV×PV))(n:Bn):Bool:=((PV.mget es (PV.str n)).getD (PV.bool false)).asBool
def StrK(es:List (PV×PV)):Prop:=∀e,e∈es->∃s,e.1=PV.str s
theorem au9{s:Bn}{v:PV}{r:List (PV×PV)}(k:Bn):lkT ((PV.str s,v)::r) k=bif k==s then v.asBool else lkT r k:=by unfold lkT PV.mget;rw[List.find?_cons,show ahj (PV.str k) (PV.str s,v).1=(k==s)from rfl];grind
theorem bgu:∀{es:List (PV×PV)}(n k:Bn),StrK es->lkT (PV.mput es (PV.str n) (PV.bool true)) k=(lkT es k||k==n)
 |[],n,k,_=>by show lkT [(PV.str n,PV.bool true)] k=_;rw[au9];show(bif k==n then true else false)=(false||k==n);grind
 |(e1,v)::r,n,k,h=>by
  obtain⟨s,m⟩:=h _ (List.mem_cons_self ..);have m:e1=PV.str s:=m;subst m;have z:=bgu (es:=r) n k λe o=>h e (List.mem_cons_of_mem _ o);show lkT (bif ahj (PV.str n) (PV.str s)then(PV.str s,PV.bool true)::r else(PV.str s,v)::PV.mput r (PV.str n) (PV.bool true)) k=_;rw[show ahj (PV.str n) (PV.str s)=(n==s)from rfl,au9];cases t:n==s with
  |true=>rw[Ad,au9,eq_of_beq t];grind[PV.asBool]
  |false=>rw[Af,au9,z];grind
theorem a4a:∀{es:List (PV×PV)}(n:Bn)(v:PV),StrK es->StrK (PV.mput es (PV.str n) v)
 |[],n,v,_=>λe m=>by have:e∈[(PV.str n,v)]:=m;grind
 |(e1,w)::r,n,v,h=>λe m=>by
  have m:e∈(bif ahj (PV.str n) e1 then(e1,v)::r else(e1,w)::PV.mput r (PV.str n) v):=m;have o:=h _ (List.mem_cons_self ..);have z:=a4a (es:=r) n v λe m=>h e (List.mem_cons_of_mem _ m);cases t:ahj (PV.str n) e1 with
  |true=>
   rw[t,Ad]at m;rcases Bi.1 m with rfl|m
   ·exact o
   ·exact h e (List.mem_cons_of_mem _ m)
  |false=>
   rw[t,Af]at m;rcases Bi.1 m with rfl|m
   ·exact o
   ·exact z e m
def rqQ(f:PV):Bool:=bif (f.fld 2).asInt==(1:Int)then((f.fld 4).fld 0).asInt==(10:Int)else false
def tnS(f:PV):Bn:=((f.fld 4).fld 1).asStr
def ndT(m:PV):List PV:=((m.fld 1).asList.filter rqQ).map λf=>PV.str (tnS f)
theorem a3n{m:PV}(I:(m.fld 1).asList.length<=1048576):F188 m=some (ndT m):=by
 have q:=aqj (step:=(Y5 S188_4)) (λi c=>(c,(m.fld 1).asList,(((m.fld 1).asList.length:Nat):Int),((i:Nat):Int),m)) (m.fld 1).asList (λf=>bif rqQ f then[PV.str (tnS f)]else[]) (λc=>(c,m)) 60000000000 (λi c t o=>by
  simp only[Y5,S188_4,decL i _ t,Ad,aaa,Ah t,Ae,aal i (show i<=1000000000000 by omega)];show(bif rqQ ((m.fld 1).asList.getD i .bad)then _ else _)=_;cases z:rqQ ((m.fld 1).asList.getD i .bad)with
  |true=>rw[z]at o;simp only[Ad]at o ⊢;grind[decide,tnS,bad,accMax,decide_eq_true]
  |false=>grind) (λc=>by
  simp only[Y5,S188_4,decN,Af]) _ 0 [] (Nat.zero_add _) (by
   have:((((m.fld 1).asList.drop 0).flatMap λf=>bif rqQ f then[PV.str (tnS f)]else[]).length)<=(m.fld 1).asList.length:=by
    rw[Ar];have:∀l:List PV,(l.flatMap λf=>bif rqQ f then[PV.str (tnS f)]else[]).length<=l.length:=λl=>by
     induction l with
     |nil=>simp
     |cons x l G=>grind
    exact this _
   grind)
 have H:aad 0 (Y5 S188_4) ([],(m.fld 1).asList,(((m.fld 1).asList.length:Nat):Int),(0:Int),m)=_:=q;unfold F188 ndT;dsimp only;rw[H,Aa,Ar,Aw];have e:∀l:List PV,(l.flatMap λf=>bif rqQ f then[PV.str (tnS f)]else[])=(l.filter rqQ).map λf=>PV.str (tnS f):=λl=>by
  induction l with
  |nil=>rfl
  |cons x l G=>grind
 rw[e]
theorem ba3{m:PV}(o:(m.fld 1).asList.length<=1048576):(ndT m).length<=1048576:=by grind[ndT,List.length_map,Nat.le_trans,List.length_filter_le]
def plc(s:PV)(n:Bn):Option Nat:=fstI (λi=>nmQ n ((s.fld 0).asList.getD i .bad)) 0 (s.fld 0).asList.length
def ndP(s m:PV):List Nat:=((m.fld 1).asList.filter rqQ).filterMap λf=>plc s (tnS f)
theorem biv(s:PV)(n:Bn):(s.fld 0).asList.any (nmQ n)=(plc s n).isSome:=(aux _ _).symm
theorem ax7{s:PV}{n:Bn}{k:Nat}(h:plc s n=some k):k<(s.fld 0).asList.length:=by have:=(agj h).2.1;omega
theorem bbf{s:PV}{n:Bn}{k:Nat}(h:plc s n=some k):(((s.fld 0).asList.getD k .bad).fld 0).asStr=n:=eq_of_beq (agj h).2.2
theorem bla(s m:PV)(v:Nat->Bool)(fin:Bn->Bool)(h:∀n k,plc s n=some k->fin n=v k):((ndT m).any λx=>bif (s.fld 0).asList.any (nmQ x.asStr)then !fin x.asStr else false)=!(ndP s m).all v:=by
 unfold ndT ndP;generalize(m.fld 1).asList.filter rqQ=l;induction l with
 |nil=>rfl
 |cons x l o=>rw[Bl,List.any_cons,o,List.filterMap_cons];show((bif (s.fld 0).asList.any (nmQ (tnS x))then !fin (tnS x)else false)||_)=_;rw[biv];grind
def fnV(fin:List PV)(k:Nat):Bool:=(fin.getD k .bad).asBool
theorem a7u(s:PV)(l:List PV)(v:Nat->Bool):(l.any λf=>bif rqQ f then(plc s (tnS f)).elim false (λk=>!v k)else false)=!((l.filter rqQ).filterMap λf=>plc s (tnS f)).all v:=by
 induction l with
 |nil=>rfl
 |cons x l m=>grind
theorem bg3(x:PV):(bif (x.fld 2).asInt != (1:Int)then true else((x.fld 4).fld 0).asInt != (10:Int))=!rqQ x:=by unfold rqQ;grind
theorem bbq{s:PV}{fin:List PV}(t:fin.length=(s.fld 0).asList.length)(n:Bn):imp (decide (idxI (nmQ n) (s.fld 0).asList>=(0:Int))) (aab (idxI (nmQ n) (s.fld 0).asList) fin.length)=true/\(bif decide (idxI (nmQ n) (s.fld 0).asList>=(0:Int))then(!(fin.getD (idxI (nmQ n) (s.fld 0).asList).toNat .bad).asBool)else false)=(plc s n).elim false λk=>!fnV fin k:=by
 unfold idxI;cases m:plc s n with
 |none=>have m:fstI (λi=>nmQ n ((s.fld 0).asList.getD i .bad)) 0 (s.fld 0).asList.length=none:=m;rw[m];exact⟨rfl,rfl⟩
 |some k=>have z:=ax7 m;have m:fstI (λi=>nmQ n ((s.fld 0).asList.getD i .bad)) 0 (s.fld 0).asList.length=some k:=m;rw[m];have o:decide ((((some k).elim (-1:Int) λi=>((i:Nat):Int)))>=(0:Int))=true:=Ah (Int.natCast_nonneg k);rw[o];refine⟨?_,rfl⟩;grind[imp,aab,aaa,decide_eq_true]
theorem a07{s m:PV}{fin:List PV}(z:(s.fld 0).asList.length<=1048576)(J:(m.fld 1).asList.length<=1048576)(t:fin.length=(s.fld 0).asList.length):F240_v1 s m fin=some (!(ndP s m).all (fnV fin)):=by
 have q:=ajn (step:=(Y6 S240_v1_3)) (λi=>(fin,(),(),((i:Nat):Int),s,m)) (m.fld 1).asList (λf=>bif rqQ f then(plc s (tnS f)).elim false (λk=>!fnV fin k)else false) (.inl (true,s,m)) (.inr (s,m)) (λi o=>by
  obtain⟨G,H⟩:=bbq t (tnS ((m.fld 1).asList.getD i .bad));simp only[Y6,S240_v1_3,decL i _ o,Ad,aaa,Ah o,Ae,aal i (show i<=1000000000000 by omega),bg3,alj _ z,Aa];rw[show((((m.fld 1).asList.getD i .bad).fld 4).fld 1).asStr=tnS ((m.fld 1).asList.getD i .bad)from rfl,G,H];grind) (by
  simp only[Y6,S240_v1_3,decN,Af])
 have I:aad 0 (Y6 S240_v1_3) (fin,(),(),(0:Int),s,m)=_:=q;unfold F240_v1 ndP;rw[I,<-a7u];cases(m.fld 1).asList.any λf=>bif rqQ f then(plc s (tnS f)).elim false (λk=>!fnV fin k)else false<;>rfl
theorem ayk{s m:PV}{fin:List PV}(z:(s.fld 0).asList.length<=1048576)(J:(m.fld 1).asList.length<=1048576)(t:fin.length=(s.fld 0).asList.length):F240 s m () fin=some (!(ndP s m).all (fnV fin),fin):=by
 have q:=ajn (step:=(Y7 S240_3)) (λi=>((),(),(),((i:Nat):Int),fin,s,m)) (m.fld 1).asList (λf=>bif rqQ f then(plc s (tnS f)).elim false (λk=>!fnV fin k)else false) (.inl (true,fin,s,m)) (.inr (fin,s,m)) (λi o=>by
  obtain⟨G,H⟩:=bbq t (tnS ((m.fld 1).asList.getD i .bad));simp only[Y7,S240_3,decL i _ o,Ad,aaa,Ah o,Ae,aal i (show i<=1000000000000 by omega),bg3,alj _ z,Aa];rw[show((((m.fld 1).asList.getD i .bad).fld 4).fld 1).asStr=tnS ((m.fld 1).asList.getD i .bad)from rfl,G,H];grind) (by
  simp only[Y7,S240_3,decN,Af])
 have I:aad 0 (Y7 S240_3) ((),(),(),(0:Int),fin,s,m)=_:=q;unfold F240 ndP;rw[I,<-a7u];cases(m.fld 1).asList.any λf=>bif rqQ f then(plc s (tnS f)).elim false (λk=>!fnV fin k)else false<;>rfl
end Go.Ab
namespace Go.Ab
open Go
set_option maxRecDepth 100000
theorem aqk{z J t:Type}{step:z->Option (z⊕J)}(st:Nat->t->z)(n:Nat)(o:t->J)(I:Nat->t->Prop)(M:∀i b,i<n->I i b->∃m,step (st i b)=some (.inl (st (i+1) m))/\I (i+1) m)(G:∀b,step (st n b)=some (.inr (o b)))(b:t)(O:I 0 b):∃m,aap step (st 0 b)=some (o m)/\I n m:=by
 have H:∀k i b,i+k=n->I i b->∃m,aap step (st i b)=some (o m)/\I n m:=by
  intro k;induction k with
  |zero=>
   intro i b U h;obtain rfl:i=n:=by omega
   grind[aae]
  |succ k V=>grind[aan]
 simp_all
def nmA(s:PV)(k:Nat):Bn:=(((s.fld 0).asList.getD k .bad).fld 0).asStr
def ndA(s:PV)(k:Nat):List Nat:=ndP s ((s.fld 0).asList.getD k .bad)
def tA(s:PV)(k:Nat):Nat:=(plc s (nmA s k)).getD k
def vA(s:PV)(fin:List (PV×PV))(k:Nat):Bool:=plc s (nmA s k)==some k&&lkT fin (nmA s k)
theorem bhw{p:Nat->Bool}:∀(k i j:Nat),i<=j->j<i+k->p j=true->∃m,fstI p i k=some m:=by
 intro k;induction k with
 |zero=>grind
 |succ k H=>
  intro i j o t z;unfold fstI;cases G:p i with
  |true=>grind
  |false=>grind
theorem al8{s:PV}{i:Nat}(o:i<(s.fld 0).asList.length):plc s (nmA s i)=some (tA s i):=by obtain⟨m,t⟩:=bhw (p:=λk=>nmQ (nmA s i) ((s.fld 0).asList.getD k .bad)) (s.fld 0).asList.length 0 i (Nat.zero_le _) (by omega) (Az _);grind[plc,nmA,tA]
theorem blp{s:PV}{i:Nat}(m:i<(s.fld 0).asList.length):tA s i<(s.fld 0).asList.length:=ax7 (al8 m)
theorem blq{s:PV}{i:Nat}(m:i<(s.fld 0).asList.length):nmA s (tA s i)=nmA s i:=bbf (al8 m)
theorem rep{s:PV}{n:Bn}{k:Nat}(h:plc s n=some k):plc s (nmA s k)=some k/\tA s k=k:=by grind[nmA,bbf,plc,tA]
theorem bkx{s:PV}{i k:Nat}(h:k∈ndA s i):∃n,plc s n=some k:=by grind[ndA,ndP]
theorem bkw(s:PV):∀i k,k∈ndA s i->k<(s.fld 0).asList.length/\tA s k=k:=λi k h=>by obtain⟨n,m⟩:=bkx h;exact⟨ax7 m,(rep m).2⟩
theorem bcw{s:PV}{fin:List (PV×PV)}(n:Bn)(k:Nat)(h:plc s n=some k):lkT fin n=vA s fin k:=by grind[vA,rep,nmA,bbf]
theorem bly{s:PV}{fin:List (PV×PV)}(o:StrK fin){i:Nat}(H:i<(s.fld 0).asList.length):vA s (PV.mput fin (PV.str (nmA s i)) (PV.bool true))=updB (vA s fin) (tA s i):=by
 funext j;show(plc s (nmA s j)==some j&&lkT (PV.mput fin (PV.str (nmA s i)) (PV.bool true)) (nmA s j))=((plc s (nmA s j)==some j&&lkT fin (nmA s j))||j==tA s i);rw[bgu _ _ o];by_cases m:plc s (nmA s j)=some j
 ·rw[beq_iff_eq.2 m,Bool.true_and,Bool.true_and];congr 1;by_cases e:j=tA s i
  ·have z:nmA s j=nmA s i:=by grind[blq]
   grind
  grind[nmA,al8,Option.some.inj,beq_eq_false_iff_ne]
 ·have t:(plc s (nmA s j)==some j)=false:=Be.2 m;have e:j≠tA s i:=λG=>m (by
   grind[nmA,blq,al8])
  grind
theorem bhx{s:PV}{i:Nat}(m:i<(s.fld 0).asList.length):fndQ bl1 (nmA s i) (s.fld 0).asList=((s.fld 0).asList.getD (tA s i) .bad,true):=by have h:fstI (λk=>nmQ (nmA s i) ((s.fld 0).asList.getD k .bad)) 0 (s.fld 0).asList.length=some (tA s i):=al8 m;grind[fndQ]
theorem openP{s:PV}{l:List PV}{fin:List (PV×PV)}(m:(s.fld 0).asList.length<=1048576)(o:l.length<=1048576):F184_c189 l () s () fin=some (l.any (λx=>bif (s.fld 0).asList.any (nmQ x.asStr)then !lkT fin x.asStr else false),s,(),fin):=
 agb (c:=(s,(),fin)) (by omega) _ λx _=>by show F189 x.asStr () () s () fin=_;unfold F189;rw[agq _ m,Aa,ahh];rfl
theorem openC{s:PV}{l:List PV}{fin:List (PV×PV)}(m:(s.fld 0).asList.length<=1048576)(o:l.length<=1048576):F184_c279 l () s fin=some (l.any (λx=>bif (s.fld 0).asList.any (nmQ x.asStr)then !lkT fin x.asStr else false),s,fin):=
 agb (c:=(s,fin)) (by omega) _ λx _=>by show F279 x.asStr () () s fin=_;unfold F279;rw[agq _ m,Aa,ahh];rfl
theorem a8s{s m:PV}{fin:List (PV×PV)}(t:(s.fld 0).asList.length<=1048576)(o:(m.fld 1).asList.length<=1048576):F195 s m fin=some (!(ndP s m).all (vA s fin)):=by unfold F195;rw[a3n o,Aa,openC t (ba3 o),Aa,bla s m (vA s fin) (lkT fin) λn k h=>bcw n k h]
theorem a5m{s:PV}(O:(s.fld 0).asList.length<=1048576)(W:∀m,m∈(s.fld 0).asList->(m.fld 1).asList.length<=1048576):∃fin,F134 s=some fin/\vA s fin=swN (ndA s) (tA s) (s.fld 0).asList.length ((s.fld 0).asList.length+1) λ_=>false:=by
 have z:∀(N r:Int)(fin:List (PV×PV)),StrK fin->∃o,aad 0 (Y10 S134_6) ((),(),N,r,(s.fld 0).asList,(((s.fld 0).asList.length:Nat):Int),(0:Int),s,fin,())=some ((),(),N,r,s,o,())/\StrK o/\vA s o=swR (ndA s) (tA s) (vA s fin) (s.fld 0).asList.length:=λN r fin X=>by
  obtain⟨o,J,U,M⟩:=aqk (step:=(Y10 S134_6)) (λi(fin:List (PV×PV))=>((),(),N,r,(s.fld 0).asList,(((s.fld 0).asList.length:Nat):Int),((i:Nat):Int),s,fin,())) (s.fld 0).asList.length (λfin=>((),(),N,r,s,fin,())) (λi o=>StrK o/\vA s o=swR (ndA s) (tA s) (vA s fin) i) (λi o I H=>by
   have G:=W _ (aam (blp I));have Y:=bla s ((s.fld 0).asList.getD (tA s i) .bad) (vA s o) (lkT o) λn k h=>bcw n k h;simp only[Y10,S134_6,decL i _ I,Ad,aaa,Ah I,Ae,aal i (show i<=1000000000000 by omega),agq _ O,Aa,show(((s.fld 0).asList.getD i .bad).fld 0).asStr=nmA s i from rfl,bhx I,a3n G,openP O (ba3 G),Y,Bool.not_not];show ∃b',(bif (ndA s (tA s i)).all (vA s o)then _ else _)=_/\_;have aa:swR (ndA s) (tA s) (vA s fin) (i+1)=bif (ndA s (tA s i)).all (vA s o)then updB (vA s o) (tA s i)else vA s o:=by grind[sw,ndA,tA,swR,vA]
   cases ha:(ndA s (tA s i)).all (vA s o)with
   |true=>refine⟨_,rfl,a4a _ _ H.1,?_⟩;grind[bly]
   |false=>grind) (λo=>by
   simp only[Y10,S134_6,decN,Af]) fin ⟨X,rfl⟩
  exact⟨o,J,U,M⟩
 have t:∀(k:Nat)(v:Nat->Bool),swN (ndA s) (tA s) (s.fld 0).asList.length (k+1) v=swR (ndA s) (tA s) (swN (ndA s) (tA s) (s.fld 0).asList.length k v) (s.fld 0).asList.length:=by
  intro k;induction k with
  |zero=>intro v;rfl
  |succ k ih=>intro v;exact ih (swR (ndA s) (tA s) v (s.fld 0).asList.length)
 obtain⟨fin,J,_,M⟩:=aqk (step:=(Y7 S134_4)) (λr(fin:List (PV×PV))=>((),(),(((s.fld 0).asList.length+1:Nat):Int),((r:Nat):Int),s,fin,())) ((s.fld 0).asList.length+1) (λfin=>((),s,fin,())) (λr fin=>StrK fin/\vA s fin=swN (ndA s) (tA s) (s.fld 0).asList.length r λ_=>false) (λr fin Z H=>by
  obtain⟨o,q1,q2,q3⟩:=z (((s.fld 0).asList.length+1:Nat):Int) ((r:Nat):Int) fin H.1;refine⟨o,?_,q2,by rw[q3,H.2,t]⟩;simp only[Y7,S134_4,decL r _ Z,Ad,q1,Aa,aal r (show r<=1000000000000 by omega)]) (λfin=>by
  simp only[Y7,S134_4,decN,Af]) [] ⟨λe V=>(by cases V),by funext k;show(plc s (nmA s k)==some k&&lkT [] (nmA s k))=false;rw[show lkT [] (nmA s k)=false from rfl,Bool.and_false]⟩
 grind[aad,Y7,F134,aal]
theorem a5n{s:PV}(J:(s.fld 0).asList.length<=1048576)(H:∀m,m∈(s.fld 0).asList->(m.fld 1).asList.length<=1048576):∃fin,F134 s=some fin/\∀n k,plc s n=some k->(vA s fin k=true ↔ FinI (ndA s) k):=by
 obtain⟨fin,G,t⟩:=a5m J H;refine⟨fin,G,λn k z=>⟨λo=>?_,λo=>?_⟩⟩
 ·rw[t]at o;grind[ay1]
 ·rw[t];exact aie (bi8 (λi I=>blp I) _) (bkw s) k o (ax7 z) (rep z).2
theorem bhg{v:Nat->Bool}{i:Nat}(z:v i=false):∀n,i<n->cntB v n<cntB (updB v i) n:=by
 intro n;induction n with
 |zero=>intro h;omega
 |succ n t=>
  intro h;unfold cntB;by_cases e:i=n
  ·subst e;have:=apq (v:=v) (w:=updB v i) (λj o=>by simp[updB,o]) i;grind[updB]
  ·have:=t (by omega);have m:updB v i n=v n:=by
    unfold updB;grind
   rw[m];omega
theorem bht{l:List PV}{i:Nat}(m:i<l.length):fnV (l.set i (PV.bool true))=updB (fnV l) i:=by
 funext j;unfold fnV updB;by_cases e:j=i
 ·grind[abw,List.getElem_set_self,PV.asBool]
 grind
theorem bcv{v:Nat->Bool}{i:Nat}(h:v i=true):updB v i=v:=by funext j;unfold updB;simp_all
theorem amb{s:PV}(hs:(s.fld 0).asList.length<=1048576)(hf:∀m,m∈(s.fld 0).asList->(m.fld 1).asList.length<=1048576):∃l,F169 s=some l/\l.length=(s.fld 0).asList.length/\∀n k,plc s n=some k->(fnV l k=true ↔ FinI (ndA s) k):=by
 have z:∀(r:Int)(l:List PV),l.length=(s.fld 0).asList.length->∃b:Bool×List PV,aad 0 (Y7 S169_9) ((),(),false,r,(0:Int),s,l)=some ((),(),b.1,r,s,b.2)/\b.2.length=(s.fld 0).asList.length/\fnV b.2=swR (ndA s) id (fnV l) (s.fld 0).asList.length/\(b.1=false->fnV b.2=fnV l)/\(b.1=true->cntB (fnV l) (s.fld 0).asList.length<cntB (fnV b.2) (s.fld 0).asList.length):=λr l hl=>by
  obtain⟨b,O,h2⟩:=aqk (step:=(Y7 S169_9)) (λi(b:Bool×List PV)=>((),(),b.1,r,((i:Nat):Int),s,b.2)) (s.fld 0).asList.length (λb=>((),(),b.1,r,s,b.2)) (λi b=>b.2.length=(s.fld 0).asList.length/\fnV b.2=swR (ndA s) id (fnV l) i/\(b.1=false->fnV b.2=fnV l)/\(b.1=true->cntB (fnV l) (s.fld 0).asList.length<cntB (fnV b.2) (s.fld 0).asList.length)) (λi b t hI=>by
   obtain⟨o,c⟩:=b;obtain⟨H,i2,X,Y⟩:=hI;dsimp only at H i2 X Y ⊢;have W:=hf _ (aam t);have V:i<c.length:=by omega
   have aa:swR (ndA s) id (fnV l) (i+1)=bif (ndA s i).all (fnV c)then updB (fnV c) i else fnV c:=by grind[sw,ndA,id,swR,fnV]
   simp only[Y7,S169_9,decL i _ t,Ad,aaa,Ah V,Ah t,Ae,au1,ayk hs W H,Aa,aal i (show i<=1000000000000 by omega)];rw[show(c.getD i .bad).asBool=fnV c i from rfl];cases G:fnV c i with
   |true=>refine⟨(o,c),rfl,H,?_,X,Y⟩;grind[bcv,ndA,fnV]
   |false=>
    simp only[Ao,Ad,Bool.not_not];show ∃b',(bif (ndA s i).all (fnV c)then _ else _)=_/\_;cases ha:(ndA s i).all (fnV c)with
    |false=>refine⟨(o,c),rfl,H,?_,X,Y⟩;all_goals grind
    |true=>
     have hc:=bhg G _ t;have hm:cntB (fnV l) (s.fld 0).asList.length<=cntB (fnV c) (s.fld 0).asList.length:=by all_goals grind
     refine⟨(true,c.set i (PV.bool true)),?_,by simpa using H,?_,λh=>(by cases h),λ_=>?_⟩;all_goals grind[bht]) (λb=>by
   simp only[Y7,S169_9,decN,Af]) (false,l) ⟨hl,rfl,λ_=>rfl,λh=>(by cases h)⟩
  exact⟨b,O,h2⟩
 obtain⟨y,O,l,rfl,h3,h4,h5⟩:=baz (step:=(Y6 S169_5)) (λx=>(s.fld 0).asList.length-x.2.2.2.1.toNat) (λx=>∃(o:Bool)(r:Nat)(l:List PV),x=((),(),o,((r:Nat):Int),s,l)/\r<=(s.fld 0).asList.length/\l.length=(s.fld 0).asList.length/\(∀j,fnV l j=true->FinI (ndA s) j)/\(o=true->r<=cntB (fnV l) (s.fld 0).asList.length)/\(o=false->afw (ndA s) id (s.fld 0).asList.length (fnV l))) (λy=>∃l,y=((),s,l)/\l.length=(s.fld 0).asList.length/\(∀j,fnV l j=true->FinI (ndA s) j)/\afw (ndA s) id (s.fld 0).asList.length (fnV l)) (λx hx=>by
  obtain⟨o,r,l,rfl,g1,J,M,g4,Z⟩:=hx;by_cases hr:r<(s.fld 0).asList.length
  ·cases o with
   |false=>right;refine⟨((),s,l),?_,l,rfl,J,M,Z rfl⟩;simp only[Y6,S169_5,decL r _ hr,Ad,Af]
   |true=>
    left;obtain⟨⟨o,c⟩,q1,q2,q3,q4,q5⟩:=z ((r:Nat):Int) l J;dsimp only at q1 q2 q3 q4 q5;refine⟨((),(),o,((r+1:Nat):Int),s,c),?_,⟨o,r+1,c,rfl,by omega,q2,?_,λh=>?_,λh=>?_⟩,?_⟩
    ·simp only[Y6,S169_5,decL r _ hr,Ad,q1,Aa,aal r (show r<=1000000000000 by omega)]
    ·rw[q3];exact arx M _
    ·grind
    ·have e:=q4 h;rw[e];exact a4d (λi t=>t) (by grind)
    grind
  ·right;obtain rfl:r=(s.fld 0).asList.length:=by omega
   refine⟨((),s,l),?_,l,rfl,J,M,?_⟩
   ·simp only[Y6,S169_5,decN,Af]
   ·cases o with
    |true=>exact azr (λi t=>t) (g4 rfl)
    |false=>exact Z rfl) ((),(),true,(0:Int),s,List.replicate (s.fld 0).asList.length (PV.bool false)) ⟨true,0,_,rfl,Nat.zero_le _,List.length_replicate,λj I=>(by
   exfalso;unfold fnV at I;simp only[List.getD_eq_getElem?_getD,List.getElem?_replicate]at I;split at I<;>cases I),λ_=>Nat.zero_le _,λh=>(by cases h)⟩
 refine⟨l,?_,h3,λn k hk=>⟨λG=>h4 k G,λG=>?_⟩⟩
 ·have U:aad 0 (Y6 S169_5) ((),(),true,(0:Int),s,List.replicate (s.fld 0).asList.length (PV.bool false))=_:=O;unfold F169;dsimp only;rw[Ae,Ah (show 0<=(((s.fld 0).asList.length:Nat):Int)/\(((s.fld 0).asList.length:Nat):Int)<=(((s.fld 0).asList.length:Nat):Int)/\(((s.fld 0).asList.length:Nat):Int)<=((accMax:Nat):Int) by unfold accMax;omega),Ad,U];rfl
 ·exact aie h5 (λi k h=>⟨(bkw s i k h).1,rfl⟩) k G (ax7 hk) rfl
theorem bdn{s m:PV}{fin:List (PV×PV)}{l:List PV}(o:∀n k,plc s n=some k->(vA s fin k=true ↔ FinI (ndA s) k))(t:∀n k,plc s n=some k->(fnV l k=true ↔ FinI (ndA s) k)):(ndP s m).all (vA s fin)=(ndP s m).all (fnV l):=by unfold ndP;grind
end Go.Ab
