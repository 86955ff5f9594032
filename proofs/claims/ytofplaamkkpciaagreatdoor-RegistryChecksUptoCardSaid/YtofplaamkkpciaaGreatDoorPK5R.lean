/- registry.equal of a schema without notes that go and its canonical form. -/
import Derived.Test.YtofplaamkkpciaaGreatDoorPK2R
import Derived.Sort.Walk0
set_option linter.unusedVariables false
set_option linter.unusedSimpArgs false
set_option linter.unnecessarySimpa false
namespace Go.Ab
open Go
set_option maxRecDepth 100000
theorem bdv{g:PV->PV->Option Bool}{h:PV->PV}{l:List PV}(G:l.length<=1048576)(o:∀x,x∈l->g x (h x)=some true):eqF g l (l.map h)=some true:=by
 unfold eqF;rw[bik,List.length_map,Ah rfl,An,Af];have t:=acm (step:=eqS g) (λi:Nat=>(l.map h,(),l,((l.length:Nat):Int),((i:Nat):Int))) l.length (Sum.inr ()) (λi m=>by simp only[eqS,ah0,aaa,m,List.length_map,decide_true,Ad,Ae,acz h m,o _ (ave m),Aa,aal i (by omega)];rfl) (by simp only[eqS,ah0,Nat.lt_irrefl,decide_false,Af])
 have z:aad 0 (eqS g) (l.map h,(),l,((l.length:Nat):Int),(0:Int))=_:=t;rw[z];rfl
theorem bjz{g:PV->PV->Option Bool}{l:List PV}(o:l.length<=1048576)(m:∀x,x∈l->g x x=some true):eqF g l l=some true:=by have:=bdv (h:=λx=>x) o m;rwa[List.map_id']at this
theorem ayy{l:List PV}(o:l.length<=1048576):F110 l l=some true:=by
 have e:aad 0 (Y4 S110_5) (l,l,(l.length:Int),(0:Int))=some (.inr ()):=acm (step:=(Y4 S110_5)) (λi=>(l,l,(l.length:Int),((i:Nat):Int))) l.length _ (λi m=>by
  simp only[Y4,S110_5,decL i _ m,Ad,aaa,Ah m,Ae,Az,An,Af,aal i (by omega)]) (by
  simp only[Y4,S110_5,decN,Af])
 unfold F110;simp only[bne_self_eq_false,Af];rw[e];rfl
theorem atz{l:List PV}(o:l.length<=1048576):F109 l l=some true:=by
 have e:aad 0 (Y4 S109_5) (l,l,(l.length:Int),(0:Int))=some (.inr ()):=acm (step:=(Y4 S109_5)) (λi=>(l,l,(l.length:Int),((i:Nat):Int))) l.length _ (λi m=>by
  simp only[Y4,S109_5,decL i _ m,Ad,aaa,Ah m,Ae,Az,An,Af,aal i (by omega)]) (by
  simp only[Y4,S109_5,decN,Af])
 unfold F109;simp only[bne_self_eq_false,Af];rw[e];rfl
theorem be6{l:List PV}(m:l.length<=1048576):F111 l l=some true:=by
 have e:F151_c152 l l ()=some true:=bjz m λx _=>by unfold F151_c152g F152;simp only[Az,Ad]
 unfold F111;rw[e];rfl
end Go.Ab
namespace Go.Ab
open Go
set_option maxRecDepth 100000
abbrev sbL(r:PV):List PV:=(r.fld 1).asList
abbrev vsL(x:PV):List PV:=(x.fld 4).asList
abbrev sbA(r:PV)(i:Nat):PV:=(sbL r).getD i .bad
abbrev vsA(r:PV)(i k:Nat):PV:=(vsL (sbA r i)).getD k .bad
structure RegOk(r:PV):Prop where
 subs:(sbL r).length<=1048576
 name:∀x,x∈sbL r->(x.fld 0).asStr.length<=1048576
 root:∀x,x∈sbL r->(x.fld 1).asStr.length<=1048576
 vers:∀x,x∈sbL r->(vsL x).length<=1048576
 sok:∀x,x∈sbL r->∀v,v∈vsL x->SOk (v.fld 1)
 sbk:∀x,x∈sbL r->∀v,v∈vsL x->aag (v.fld 1)<=1048576
theorem a2y{i n:Nat}(o:i<n)(t:n<=1048576):imp (decide ((i:Int)>(0:Int))) (aab (IntKind.wrap .i64 ((i:Int)-1)) n)=true:=by
 by_cases m:(i:Int)>0
 ·rw[Ah m,ain (by omega) (by omega),aaa,Ah (show i-1<n by omega)];rfl
 grind[decide_eq_false,a9v]
def LimR(r:PV):Prop:=(sbL r).length<=32/\∀i,i<(sbL r).length->(vsL (sbA r i)).length<=32
theorem a59{r:PV}(h:RegOk r):Ret (F29 r) λb=>b=false->LimR r:=by
 have G:=h.subs;have q:=abb (step:=(Y3 S29_5)) (λi=>((),((i:Nat):Int),r)) (sbL r).length (λi=>!decide (((vsL (sbA r i)).length:Int)>(32:Int))) (.inl (true,r)) (.inr r) (λi o=>by
  simp only[Y3,S29_5,decL i _ o,Ad,aaa,Ah o,Ae,aal i (show i<=1000000000000 by omega)];grind) (by
  simp only[Y3,S29_5,decN,Af]) _ 0 (Nat.zero_add _)
 have t:aad 0 ((Y3 S29_5)) ((),(0:Int),r)=_:=q;unfold F29;cases z:decide (((sbL r).length:Int)>(32:Int))with
 |true=>grind
 |false=>
  rw[Af,t,Aa];cases m:allF (λi=>!decide (((vsL (sbA r i)).length:Int)>(32:Int))) 0 (sbL r).length with
  |false=>exact⟨_,rfl,λe=>by cases e⟩
  |true=>
   refine⟨_,rfl,λ_=>⟨?_,λi o=>?_⟩⟩
   ·grind
   ·have H:=allG m i (Nat.zero_le _) (by omega);grind
structure OrdR(r:PV):Prop where
 up:∀i,i+1<(sbL r).length->ascB (nmL (sbL r)) i=true
 no:∀i k,i<(sbL r).length->k<(vsL (sbA r i)).length->((vsA r i k).fld 0).asInt=(k:Int)+1
def upS(r:PV)(i:Nat):Bool:=bif decide ((i:Int)>(0:Int))then(Op.bytesLess ((sbA r i).fld 0).asStr ((sbA r (i-1)).fld 0).asStr||((sbA r i).fld 0).asStr==((sbA r (i-1)).fld 0).asStr)else false
def noS(r:PV)(i k:Nat):Bool:=!(((vsA r i k).fld 0).asInt != IntKind.wrap .i64 ((k:Int)+1))
theorem a0y{r:PV}(h:RegOk r):Ret (F30 r) λb=>b=true->OrdR r:=by
 have X:=h.subs;have t:∀i,i<(sbL r).length->aad 0 ((Y4 S30_8)) ((),((i:Nat):Int),(0:Int),r)=some (bif allF (noS r i) 0 (vsL (sbA r i)).length then .inr ((),((i:Nat):Int),r)else .inl (false,r)):=λi m=>by
  have W:(vsL (sbA r i)).length<=1048576:=h.vers _ (aam m);have q:=abb (step:=(Y4 S30_8)) (λk=>((),((i:Nat):Int),((k:Nat):Int),r)) (vsL (sbA r i)).length (noS r i) (.inl (false,r)) (.inr ((),((i:Nat):Int),r)) (λk G=>by
   simp only[Y4,S30_8,aaa,Ah m,decL k _ G,Ad,Ah G,Ae,noS];cases(((vsA r i k).fld 0).asInt != IntKind.wrap .i64 ((k:Int)+1))
   ·simp only[Af,Ao,Ad,aal k (show k<=1000000000000 by omega)]
   ·rfl) (by
   simp only[Y4,S30_8,aaa,Ah m,Ae,decN,Ad,Af]) _ 0 (Nat.zero_add _)
  exact q
 have q:=abb (step:=(Y3 S30_3)) (λi=>((),((i:Nat):Int),r)) (sbL r).length (λi=>!(upS r i)&&allF (noS r i) 0 (vsL (sbA r i)).length) (.inl (false,r)) (.inr r) (λi m=>by
  have O:imp (decide ((i:Int)>(0:Int))) (aab (IntKind.wrap .i64 ((i:Int)-1)) (sbL r).length)=true:=a2y m X;have H:(IntKind.wrap .i64 ((i:Int)-1)).toNat=i-1\/i=0:=by
   by_cases V:i=0
   ·exact Or.inr V
   ·left;rw[ain (by omega) (by omega)];rfl
  simp only[Y3,S30_3,decL i _ m,Ad,aaa,Ah m,Ae,au1,O,t i m];have U:(bif decide ((i:Int)>(0:Int))then(Op.bytesLess ((sbA r i).fld 0).asStr (((sbL r).getD (IntKind.wrap .i64 ((i:Int)-1)).toNat .bad).fld 0).asStr||((sbA r i).fld 0).asStr==(((sbL r).getD (IntKind.wrap .i64 ((i:Int)-1)).toNat .bad).fld 0).asStr)else false)=upS r i:=by unfold upS;rcases H with H|rfl;all_goals grind
  rw[U];cases upS r i with
  |true=>rfl
  |false=>
   simp only[Af,Aa,Ao,Bool.true_and];cases allF (noS r i) 0 (vsL (sbA r i)).length with
   |true=>simp only[Ad,aa6,aal i (show i<=1000000000000 by omega)]
   |false=>rfl) (by
  simp only[Y3,S30_3,decN,Af]) _ 0 (Nat.zero_add _)
 have Y:aad 0 ((Y3 S30_3)) ((),(0:Int),r)=_:=q;unfold F30;rw[Y,Aa];cases o:allF (λi=>!(upS r i)&&allF (noS r i) 0 (vsL (sbA r i)).length) 0 (sbL r).length with
 |false=>exact⟨_,rfl,λe=>by cases e⟩
 |true=>
  refine⟨_,rfl,λ_=>⟨λi m=>?_,λi k m G=>?_⟩⟩
  ·have z:=allG o (i+1) (Nat.zero_le _) (by omega);simp only[Ai,Bool.not_eq_true']at z;have M:=z.1;unfold upS at M;rw[Ah (show(((i+1:Nat)):Int)>0 by omega),Ad,Nat.add_sub_cancel]at M;unfold ascB;have Z:∀j,j<(sbL r).length->((nmL (sbL r)).getD j .bad).asStr=((sbA r j).fld 0).asStr:=λj I=>by
    unfold nmL;rw[abw (by simpa using I),List.getElem_map,sbA,abw I];rfl
   grind
  ·have z:=allG o i (Nat.zero_le _) (by omega);simp only[Ai]at z;have J:=allG z.2 k (Nat.zero_le _) (by omega);have W:(vsL (sbA r i)).length<=1048576:=h.vers _ (aam m);unfold noS at J;rw[aal k (show k<=1000000000000 by omega)]at J;grind
def stB(v:PV):Bool:=!(bif (bif (bif (decide ((v.fld 3).asInt<(1:Int)))then true else(decide ((v.fld 3).asInt>(3:Int))))then true else(bif ((v.fld 3).asInt==(2:Int))then(decide ((v.fld 4).asInt<(1:Int)))else false))then true else(bif ((v.fld 3).asInt != (2:Int))then((v.fld 4).asInt != (0:Int))else false))
structure RightX(x:PV):Prop where
 mode:F66 (x.fld 2).asInt=some true
 form:F67 (x.fld 3).asInt=some true
 st:∀k,k<(vsL x).length->stB ((vsL x).getD k .bad)=true
theorem bb1{x:PV}(h:(vsL x).length<=1048576):Ret (F32 x) λb=>b=true->RightX x:=by
 obtain⟨b,z,G⟩:=adn (step:=(Y3 S32_5)) (λi=>((),((i:Nat):Int),x)) (vsL x).length (.inl (false,x)) (.inr x) (λi=>stB ((vsL x).getD i .bad)=true) (λi=>some (stB ((vsL x).getD i .bad))) (λi t=>by
  simp only[Y3,S32_5,decL i _ t,Ad,aaa,Ah t,Ae,aal i (show i<=1000000000000 by omega),stB,Aa,Bool.not_not]) (λi _=>⟨_,rfl,id⟩) (by
  simp only[Y3,S32_5,decN,Af])
 have o:aad 0 (Y3 S32_5) ((),(0:Int),x)=some b:=z;unfold F32;cases J:F66 (x.fld 2).asInt with
 |none=>grind[absurd,F66]
 |some m=>
 cases I:F67 (x.fld 3).asInt with
 |none=>grind[absurd,F67]
 |some f=>
 rw[Aa];cases m with
 |false=>grind
 |true=>
 cases f with
 |false=>grind
 |true=>
  simp only[An,Ao,Ad,Af,Aa];rw[o,Aa];rcases G with rfl|⟨rfl,H⟩
  ·exact⟨false,rfl,nofun⟩
  ·exact⟨true,rfl,λ_=>⟨J,I,H⟩⟩
def hasB(s:PV)(nm:Bn):Bool:=(s.fld 0).asList.any λm=>(m.fld 0).asStr==nm
structure FormP(s:PV):Prop where
 val:F89 s=some true
 bare:a7k s
 txt:∃t,F54 s=some t/\(t==([]:Bn))=false
structure WholeV(x v:PV):Prop where
 root:hasB (v.fld 1) (x.fld 1).asStr=true
 prn:F17 (v.fld 1)=some (v.fld 2).asInt
 form:FormP (v.fld 1)
theorem bi1{s:PV}{nm:Bn}(J:(s.fld 0).asList.length<=1048576):∃y,F102 s nm=some y/\(y.2=true->hasB s nm=true):=by
 generalize H:(PV.agg [(PV.str ([]:Bn)),(PV.slice []),(PV.slice []),(PV.slice []),(PV.slice [])])=z;have q:=aea (step:=(Y6 S102_3)) (λi=>(nm,(),(),((i:Nat):Int),s,z)) (s.fld 0).asList (λm=>bif (m.fld 0).asStr==nm then some m else none) (λm=>.inl ((),true,s,m)) (.inr ((),s,z)) (λi o=>by
  simp only[Y6,S102_3,decL i _ o,Ad,aaa,Ah o,Ae,aal i (show i<=1000000000000 by omega)];grind) (by
  simp only[Y6,S102_3,decN,Af]) _ 0 (Nat.zero_add _)
 rw[Ar]at q;have I:aad 0 (Y6 S102_3) (nm,(),(),(0:Int),s,z)=_:=q;unfold F102;rw[H,I,Aa];cases G:(s.fld 0).asList.findSome? (λm=>bif (m.fld 0).asStr==nm then some m else none)with
 |none=>exact⟨_,rfl,nofun⟩
 |some m=>refine⟨_,rfl,λ_=>?_⟩;obtain⟨a,t,M⟩:=List.exists_of_findSome?_eq_some G;refine List.any_eq_true.2 ⟨a,t,?_⟩;grind
def whP(n:Int)(x v:PV):Prop:=(n=5->hasB (v.fld 1) (x.fld 1).asStr=true)/\(n=6->F17 (v.fld 1)=some (v.fld 2).asInt)/\(n=7->FormP (v.fld 1))
theorem ay7{x v:PV}{n:Int}(h:SOk (v.fld 1))(t:aag (v.fld 1)<=1048576):Ret (F68 x v n) λb=>b=true->whP n x v:=by
 unfold F68;cases I:(n==(5:Int))with
 |true=>have e:=eq_of_beq I;obtain⟨y,G,H⟩:=bi1 (nm:=(x.fld 1).asStr) h.len.m;rw[Ad,G,Aa];exact⟨_,rfl,λt=>⟨λ_=>H t,λo=>by omega,λo=>by omega⟩⟩
 |false=>
 have O:n≠5:=by simpa using I
 cases J:(n==(6:Int))with
 |true=>have e:=eq_of_beq J;obtain⟨y,G,_⟩:=bbi h t;rw[Af,Ad,G,Aa];exact⟨_,rfl,λM=>⟨λo=>by omega,λ_=>by grind,λo=>by omega⟩⟩
 |false=>
 have U:n≠6:=by simpa using J
 rw[Af,Af];obtain⟨b,z⟩:=ai6 h t;rw[z,Aa];cases b with
 |false=>grind
 |true=>
  dsimp only;simp only[Ad];rw[bba h z,Aa,Ad];obtain⟨y,G,H⟩:=bfi (s:=v.fld 1) t;rw[G,Aa];cases y with
  |false=>grind
  |true=>rw[Ad,ae0 h t z,Aa];refine⟨_,rfl,λM=>⟨λo=>absurd o O,λo=>absurd o U,λ_=>⟨z,H rfl,_,ae0 h t z,by simpa using M⟩⟩⟩
theorem ak0{r:PV}{n:Int}(h:RegOk r):Ret (F33 r n) λb=>b=true->∀i,i<(sbL r).length->∀k,k<(vsL (sbA r i)).length->whP n (sbA r i) (vsA r i k):=by
 have O:=h.subs;have m:∀i,i<(sbL r).length->∃b,aad 0 (Y5 S33_6) (n,(),((i:Nat):Int),(0:Int),r)=some b/\(b=.inl (false,r)\/b=.inr (n,(),((i:Nat):Int),r)/\∀k,k<(vsL (sbA r i)).length->whP n (sbA r i) (vsA r i k)):=λi o=>by
  have M:(vsL (sbA r i)).length<=1048576:=h.vers _ (aam o);exact adn (step:=(Y5 S33_6)) (λk=>(n,(),((i:Nat):Int),((k:Nat):Int),r)) (vsL (sbA r i)).length (.inl (false,r)) (.inr (n,(),((i:Nat):Int),r)) (λk=>whP n (sbA r i) (vsA r i k)) (λk=>F68 (sbA r i) (vsA r i k) n) (λk H=>by
   simp only[Y5,S33_6,aaa,Ah o,decL k _ H,Ad,Ah H,Ae,aal k (show k<=1000000000000 by omega)]) (λk H=>ay7 (h.sok _ (aam o) _ (aam H)) (h.sbk _ (aam o) _ (aam H))) (by
   simp only[Y5,S33_6,aaa,Ah o,Ae,decN,Ad,Af])
 obtain⟨b,t,G⟩:=adn (step:=(Y4 S33_3)) (λi=>(n,(),((i:Nat):Int),r)) (sbL r).length (.inl (false,r)) (.inr r) (λi=>∀k,k<(vsL (sbA r i)).length->whP n (sbA r i) (vsA r i k)) (λi=>(aad 0 (Y5 S33_6) (n,(),((i:Nat):Int),(0:Int),r)).map λz=>match z with|.inl y=>y.1|.inr _=>true) (λi o=>by
  obtain⟨b,t,G⟩:=m i o;simp only[Y4,S33_3,decL i _ o,Ad];rw[t];rcases G with rfl|⟨rfl,_⟩
  ·rfl
  ·simp only[Aa,Option.map_some,aa6,aal i (show i<=1000000000000 by omega),An,Af]) (λi o=>by
  obtain⟨b,t,G⟩:=m i o;rw[t];rcases G with rfl|⟨rfl,J⟩;all_goals simp_all) (by
  simp only[Y4,S33_3,decN,Af])
 have I:aad 0 (Y4 S33_3) (n,(),(0:Int),r)=some b:=t;unfold F33;rw[I,Aa];rcases G with rfl|⟨rfl,J⟩
 ·exact⟨false,rfl,nofun⟩
 ·exact⟨true,rfl,λ_=>J⟩
structure RegC(r:PV):Prop where
 lim:LimR r
 ord:OrdR r
 full:∀i,i<(sbL r).length->aes ((sbA r i).fld 0).asStr=true/\aes ((sbA r i).fld 1).asStr=true
 day:0<=(r.fld 0).asInt
 right:∀i,i<(sbL r).length->RightX (sbA r i)
 whole:∀i,i<(sbL r).length->∀k,k<(vsL (sbA r i)).length->WholeV (sbA r i) (vsA r i k)
theorem a8l{r:PV}(h:RegOk r):Ret (F7 r) λe=>e=0->RegC r:=by
 have hn:=h.subs;have o:∀{x:Int}{P:Prop},x≠0->x=0->P:=λh e=>absurd e h;obtain⟨V,h7,q7⟩:=adn (step:=(Y3 S7_7)) (λi=>((),((i:Nat):Int),r)) (sbL r).length (.inl ((8:Int),r)) (.inr ((),r)) (λi=>aes ((sbA r i).fld 0).asStr=true/\aes ((sbA r i).fld 1).asStr=true) (λi=>some (aes ((sbA r i).fld 0).asStr&&aes ((sbA r i).fld 1).asStr)) (λi m=>by
  have Z:=ac8 _ (h.name _ (aam m));have e2:=ac8 _ (h.root _ (aam m));simp only[Y3,S7_7,decL i _ m,Ad,aaa,Ah m,Ae,au1,Z,e2,Aa,aal i (show i<=1000000000000 by omega)];grind) (λi m=>⟨_,rfl,λhb=>by simpa using hb⟩) (by
  simp only[Y3,S7_7,decN,Af])
 have H:aad 0 (Y3 S7_7) ((),(0:Int),r)=some V:=h7;obtain⟨z,G,O⟩:=adn (step:=(Y3 S7_14)) (λi=>((),((i:Nat):Int),r)) (sbL r).length (.inl ((1:Int),r)) (.inr ((),r)) (λi=>RightX (sbA r i)) (λi=>F32 (sbA r i)) (λi m=>by
  simp only[Y3,S7_14,decL i _ m,Ad,aaa,Ah m,Ae,aal i (show i<=1000000000000 by omega)]) (λi m=>bb1 (h.vers _ (aam m))) (by
  simp only[Y3,S7_14,decN,Af])
 have t:aad 0 (Y3 S7_14) ((),(0:Int),r)=some z:=G;unfold F7;refine adv (a59 h) λy1 _ J=>?_;cases y1 with
 |true=>grind
 |false=>
 have hm:=J rfl;rw[Af];refine adv (a0y h) λy2 _ M=>?_;cases y2 with
 |false=>exact⟨_,rfl,o (by simp)⟩
 |true=>
  have ho:=M rfl;simp only[An,Af];rw[H,Aa];rcases q7 with rfl|⟨rfl,hf⟩
  ·exact⟨_,rfl,o (by simp)⟩
  ·rw[aa6];refine aky (λ_=>⟨_,rfl,o (by simp)⟩) λU=>?_;have U:¬(r.fld 0).asInt<0:=of_decide_eq_false U;dsimp only;rw[t,Aa];rcases O with rfl|⟨rfl,hr⟩
   ·exact⟨_,rfl,o (by simp)⟩
   ·rw[aa6];dsimp only;refine adv (ak0 h) λz1 _ w1=>?_;refine aky (λ_=>⟨_,rfl,o (by simp)⟩) λW=>?_;refine adv (ak0 h) λz2 _ w2=>?_;refine aky (λ_=>⟨_,rfl,o (by simp)⟩) λX=>?_;refine adv (ak0 h) λz3 _ w3=>?_;refine aky (λ_=>⟨_,rfl,o (by simp)⟩) λY=>⟨_,rfl,λ_=>⟨hm,ho,hf,by omega,hr,λi m k I=>⟨(w1 (by simpa using W) i m k I).1 rfl,(w2 (by simpa using X) i m k I).2.1 rfl,(w3 (by simpa using Y) i m k I).2.2 rfl⟩⟩⟩
end Go.Ab
namespace Go.Ab
open Go
set_option maxRecDepth 100000
theorem hasP{s:PV}{nm:Bn}(o:(s.fld 0).asList.length<=1048576):F56 s nm=some (hasB s nm):=by have e:F94_c95 (s.fld 0).asList () nm=some (hasB s nm,nm):=agb (by omega) (λm=>(m.fld 0).asStr==nm) λx _=>rfl;grind[F56]
end Go.Ab
