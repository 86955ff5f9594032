/- registry.equal of a schema without notes that go and its canonical form. -/
import Derived.Test.YticdffgjgfmicaaGreatDoorPK2K
import Derived.Sort.Walk0
set_option linter.unusedVariables false
set_option linter.unusedSimpArgs false
set_option linter.unnecessarySimpa false
namespace Go.Ab
open Go
set_option maxRecDepth 100000
theorem ag9{g:PV->PV->Option Bool}{h:PV->PV}{l:List PV}(G:l.length<=1048576)(o:∀x,x∈l->g x (h x)=some true):eqF g l (l.map h)=some true:=by
 unfold eqF;rw[neLen,List.length_map,Ah rfl,An,Af];have t:=ack (step:=eqS g) (λi:Nat=>(l.map h,(),l,((l.length:Nat):Int),((i:Nat):Int))) l.length (Sum.inr ()) (λi m=>by simp only[eqS,ajw,aaa,m,List.length_map,decide_true,Ad,Ae,ahd h m,o _ (aup m),Aa,aao i (by omega)];rfl) (by simp only[eqS,ajw,Nat.lt_irrefl,decide_false,Af])
 have z:aad 0 (eqS g) (l.map h,(),l,((l.length:Nat):Int),(0:Int))=_:=t;rw[z];rfl
theorem biu{g:PV->PV->Option Bool}{l:List PV}(o:l.length<=1048576)(m:∀x,x∈l->g x x=some true):eqF g l l=some true:=by have:=ag9 (h:=λx=>x) o m;rwa[List.map_id']at this
theorem ax7{l:List PV}(o:l.length<=1048576):F101 l l=some true:=by
 have e:aad 0 (Y4 S101_5) (l,l,(l.length:Int),(0:Int))=some (.inr ()):=ack (step:=(Y4 S101_5)) (λi=>(l,l,(l.length:Int),((i:Nat):Int))) l.length _ (λi m=>by
  simp only[Y4,S101_5,decL i _ m,Ad,aaa,Ah m,Ae,A1,An,Af,aao i (by omega)]) (by
  simp only[Y4,S101_5,decN,Af])
 unfold F101;simp only[bne_self_eq_false,Af];rw[e];rfl
theorem as5{l:List PV}(o:l.length<=1048576):F162 l l=some true:=by
 have e:aad 0 (Y4 S162_5) (l,l,(l.length:Int),(0:Int))=some (.inr ()):=ack (step:=(Y4 S162_5)) (λi=>(l,l,(l.length:Int),((i:Nat):Int))) l.length _ (λi m=>by
  simp only[Y4,S162_5,decL i _ m,Ad,aaa,Ah m,Ae,A1,An,Af,aao i (by omega)]) (by
  simp only[Y4,S162_5,decN,Af])
 unfold F162;simp only[bne_self_eq_false,Af];rw[e];rfl
theorem ajj{l:List PV}(m:l.length<=1048576):F163 l l=some true:=by
 have e:F255_c256 l l ()=some true:=biu m λx _=>by unfold F255_c256g F256;simp only[A1,Ad]
 unfold F163;rw[e];rfl
theorem bc8{f:PV}(o:OkFld f)(m:Bare f 8):F161 f (ofF f)=some true:=by have q0:((ofF f).fld 0).asInt=(f.fld 0).asInt:=rfl;have t:((ofF f).fld 1).asStr=(f.fld 1).asStr:=rfl;have z:((ofF f).fld 2).asInt=(f.fld 2).asInt:=rfl;have G:((ofF f).fld 3).asInt=(f.fld 3).asInt:=rfl;have H:(ofF f).fld 4=f.fld 4:=rfl;have I:((ofF f).fld 5).asStr=(f.fld 5).asStr:=rfl;have J:((ofF f).fld 6).asBool=(f.fld 6).asBool:=rfl;have M:(ofF f).fld 7=f.fld 7:=rfl;have O:((ofF f).fld 8).asList=(f.fld 8).asList:=m;unfold F161 F254;simp only[q0,t,z,G,H,I,J,M,O,A1,Ad,Aa,ajj o.notes]
theorem bd1{f:PV}(m:OkMsg f)(o:bb1 f):F103 f (ofM f)=some true:=by have q0:((ofM f).fld 0).asStr=(f.fld 0).asStr:=rfl;have G:((ofM f).fld 2).asList=(f.fld 2).asList:=rfl;have H:((ofM f).fld 3).asList=(f.fld 3).asList:=rfl;have z:((ofM f).fld 1).asList=(f.fld 1).asList.map ofF:=rfl;have I:((ofM f).fld 4).asList=(f.fld 4).asList:=o.1;have e:F160_c161 (f.fld 1).asList ((f.fld 1).asList.map ofF) ()=some true:=ag9 m.fields λx t=>bc8 (m.field x t) (o.2 x t);unfold F103;simp only[q0,G,H,z,I,e,A1,Ad,Aa,as5 m.spans,ax7 m.gone,ajj m.notes]
theorem bdp{f:PV}(o:OkItem f)(m:Bare f 2):F165 f (ofI f)=some true:=by have q0:((ofI f).fld 0).asStr=(f.fld 0).asStr:=rfl;have t:((ofI f).fld 1).asInt=(f.fld 1).asInt:=rfl;have z:((ofI f).fld 2).asList=(f.fld 2).asList:=m;unfold F165;simp only[q0,t,z,A1,Ad,Aa,ajj o.notes]
theorem bcy{f:PV}(m:OkEnum f)(o:bb0 f):F105 f (ofE f)=some true:=by have q0:((ofE f).fld 0).asStr=(f.fld 0).asStr:=rfl;have z:((ofE f).fld 1).asBool=(f.fld 1).asBool:=rfl;have H:((ofE f).fld 3).asList=(f.fld 3).asList:=rfl;have G:((ofE f).fld 2).asList=(f.fld 2).asList.map ofI:=rfl;have I:((ofE f).fld 4).asList=(f.fld 4).asList:=o.1;have e:F164_c165 (f.fld 2).asList ((f.fld 2).asList.map ofI) ()=some true:=ag9 m.items λx t=>bdp (m.item x t) (o.2 x t);unfold F105;simp only[q0,z,H,G,I,e,A1,Ad,Aa,as5 m.spans,ajj m.notes]
theorem bd2{f:PV}(o:OkMeth f)(m:Bare f 4):F167 f (ofT f)=some true:=by have q0:((ofT f).fld 0).asStr=(f.fld 0).asStr:=rfl;have t:((ofT f).fld 1).asStr=(f.fld 1).asStr:=rfl;have z:((ofT f).fld 2).asStr=(f.fld 2).asStr:=rfl;have G:((ofT f).fld 3).asInt=(f.fld 3).asInt:=rfl;have H:((ofT f).fld 4).asList=(f.fld 4).asList:=m;unfold F167;simp only[q0,t,z,G,H,A1,Ad,Aa,ajj o.notes]
theorem bfa{f:PV}(m:OkSvc f)(o:bb3 f):F107 f (ofV f)=some true:=by have q0:((ofV f).fld 0).asStr=(f.fld 0).asStr:=rfl;have z:((ofV f).fld 1).asList=(f.fld 1).asList.map ofT:=rfl;have G:((ofV f).fld 2).asList=(f.fld 2).asList:=o.1;have e:F166_c167 (f.fld 1).asList ((f.fld 1).asList.map ofT) ()=some true:=ag9 m.meths λx t=>bd2 (m.meth x t) (o.2 x t);unfold F107;simp only[q0,z,G,e,A1,Ad,Aa,ajj m.notes]
theorem a3u{s:PV}(t:SOk s)(z:bb2 s):F46 s (ofS s)=some true:=by have G:F102_c103 (s.fld 0).asList ((s.fld 0).asList.map ofM) ()=some true:=ag9 t.len.m λx o=>bd1 (t.msg x o) (z.1 x o);have H:F104_c105 (s.fld 1).asList ((s.fld 1).asList.map ofE) ()=some true:=ag9 t.len.e λx o=>bcy (t.enum x o) (z.2.1 x o);have I:F106_c107 (s.fld 2).asList ((s.fld 2).asList.map ofV) ()=some true:=ag9 t.len.v λx o=>bfa (t.svc x o) (z.2.2 x o);have q0:((ofS s).fld 0).asList=(s.fld 0).asList.map ofM:=rfl;have X:((ofS s).fld 1).asList=(s.fld 1).asList.map ofE:=rfl;have Y:((ofS s).fld 2).asList=(s.fld 2).asList.map ofV:=rfl;have J:∀a b c d e f:PV,(PV.agg [a,b,c,d,e,f]).fld 1=b:=λ_ _ _ _ _ _=>rfl;have M:∀a b c d e f:PV,(PV.agg [a,b,c,d,e,f]).fld 2=c:=λ_ _ _ _ _ _=>rfl;have O:∀a b c d e f:PV,(PV.agg [a,b,c,d,e,f]).fld 3=d:=λ_ _ _ _ _ _=>rfl;have U:∀a b c d e f:PV,(PV.agg [a,b,c,d,e,f]).fld 4=e:=λ_ _ _ _ _ _=>rfl;have V:∀a b c d e f:PV,(PV.agg [a,b,c,d,e,f]).fld 5=f:=λ_ _ _ _ _ _=>rfl;have W:∀l:List PV,(PV.slice l).asList=l:=λ_=>rfl;unfold F46 F67;simp only[J,M,O,U,V,W,q0,X,Y,G,H,I,ax7 (l:=[]) (by simp),A1,Ad,Aa]
end Go.Ab
namespace Go.Ab
open Go
set_option maxRecDepth 100000
abbrev sbL(r:PV):List PV:=(r.fld 1).asList
abbrev vsL(x:PV):List PV:=(x.fld 4).asList
abbrev sbA(r:PV)(i:Nat):PV:=(sbL r).getD i .bad
abbrev vsA(r:PV)(i k:Nat):PV:=(vsL (sbA r i)).getD k .bad
structure RegOk(r:PV):Prop where
 subs:(sbL r).length<=1048576
 name:∀x,x∈sbL r->(x.fld 0).asStr.length<=1048576
 root:∀x,x∈sbL r->(x.fld 1).asStr.length<=1048576
 vers:∀x,x∈sbL r->(vsL x).length<=1048576
 sok:∀x,x∈sbL r->∀v,v∈vsL x->SOk (v.fld 1)
 sbk:∀x,x∈sbL r->∀v,v∈vsL x->aah (v.fld 1)<=1048576
theorem bbb{r:PV}(h:RegOk r):Ret (F4 r) λ_=>True:=by
 have J:=h.subs;have m:∀i,i<(sbL r).length->∃b,aad 0 ((Y5 S4_11)) ((),((i:Nat):Int),vsL (sbA r i),(0:Int),r)=some b/\(b=.inl (false,r)\/b=.inr ((),((i:Nat):Int),r)):=λi t=>by
  have I:(vsL (sbA r i)).length<=1048576:=h.vers _ (aaw t);obtain⟨b,o,z⟩:=ajb (step:=(Y5 S4_11)) (λk=>((),((i:Nat):Int),vsL (sbA r i),((k:Nat):Int),r)) (vsL (sbA r i)).length (λ_=>.inl (false,r)) (.inr ((),((i:Nat):Int),r)) (λk H=>by
   simp only[Y5,S4_11,decL k _ H,Ad,aaa,Ah H,Ae,awv,aao k (show k<=1000000000000 by omega)];generalize(bif _ then true else _)=c;grind) (by
   simp only[Y5,S4_11,decN,Af]) _ 0 (Nat.zero_add _)
  refine⟨b,o,?_⟩;grind
 obtain⟨b,o,z⟩:=ajb (step:=(Y3 S4_5)) (λi=>((),((i:Nat):Int),r)) (sbL r).length (λ_=>.inl (false,r)) (.inr r) (λi t=>by
  obtain⟨b,o,z⟩:=m i t;simp only[Y3,S4_5,decL i _ t,Ad,aaa,Ah t,Ae];cases decide (((vsL (sbA r i)).length:Int)>(40:Int))with
  |true=>exact Or.inr rfl
  |false=>
   simp only[Af];rw[o,Aa];rcases z with rfl|rfl
   ·exact Or.inr rfl
   grind[abg,aao]) (by
  simp only[Y3,S4_5,decN,Af]) _ 0 (Nat.zero_add _)
 have G:aad 0 ((Y3 S4_5)) ((),(0:Int),r)=some b:=o;unfold F4;refine aom (aep _) ?_;rw[G,Aa];rcases z with rfl|⟨_,_,rfl⟩<;>exact aep _
theorem bdj{i n:Nat}(o:i<n)(t:n<=1048576):imp (decide ((i:Int)>(0:Int))) (aab (IntKind.wrap .i64 ((i:Int)-1)) n)=true:=by
 by_cases m:(i:Int)>0
 ·rw[Ah m,akg (by omega) (by omega),aaa,Ah (show i-1<n by omega)];rfl
 grind[decide_eq_false,a8q]
def LimR(r:PV):Prop:=(sbL r).length<=32/\∀i,i<(sbL r).length->(vsL (sbA r i)).length<=32
theorem a4r{r:PV}(h:RegOk r):Ret (F11 r) λb=>b=false->LimR r:=by
 have G:=h.subs;have q:=acj (step:=(Y3 S11_5)) (λi=>((),((i:Nat):Int),r)) (sbL r).length (λi=>!decide (((vsL (sbA r i)).length:Int)>(32:Int))) (.inl (true,r)) (.inr r) (λi o=>by
  simp only[Y3,S11_5,decL i _ o,Ad,aaa,Ah o,Ae,aao i (show i<=1000000000000 by omega)];grind) (by
  simp only[Y3,S11_5,decN,Af]) _ 0 (Nat.zero_add _)
 have t:aad 0 ((Y3 S11_5)) ((),(0:Int),r)=_:=q;unfold F11;cases z:decide (((sbL r).length:Int)>(32:Int))with
 |true=>grind
 |false=>
  rw[Af,t,Aa];cases m:allF (λi=>!decide (((vsL (sbA r i)).length:Int)>(32:Int))) 0 (sbL r).length with
  |false=>exact⟨_,rfl,λe=>by cases e⟩
  |true=>
   refine⟨_,rfl,λ_=>⟨?_,λi o=>?_⟩⟩
   ·grind
   ·have H:=allG m i (Nat.zero_le _) (by omega);grind
structure OrdR(r:PV):Prop where
 up:∀i,i+1<(sbL r).length->ascB (nmL (sbL r)) i=true
 no:∀i k,i<(sbL r).length->k<(vsL (sbA r i)).length->((vsA r i k).fld 0).asInt=(k:Int)+1
def upS(r:PV)(i:Nat):Bool:=bif decide ((i:Int)>(0:Int))then(Op.bytesLess ((sbA r i).fld 0).asStr ((sbA r (i-1)).fld 0).asStr||((sbA r i).fld 0).asStr==((sbA r (i-1)).fld 0).asStr)else false
def noS(r:PV)(i k:Nat):Bool:=!(((vsA r i k).fld 0).asInt != IntKind.wrap .i64 ((k:Int)+1))
theorem az3{r:PV}(h:RegOk r):Ret (F12 r) λb=>b=true->OrdR r:=by
 have X:=h.subs;have t:∀i,i<(sbL r).length->aad 0 ((Y4 S12_8)) ((),((i:Nat):Int),(0:Int),r)=some (bif allF (noS r i) 0 (vsL (sbA r i)).length then .inr ((),((i:Nat):Int),r)else .inl (false,r)):=λi m=>by
  have W:(vsL (sbA r i)).length<=1048576:=h.vers _ (aaw m);have q:=acj (step:=(Y4 S12_8)) (λk=>((),((i:Nat):Int),((k:Nat):Int),r)) (vsL (sbA r i)).length (noS r i) (.inl (false,r)) (.inr ((),((i:Nat):Int),r)) (λk G=>by
   simp only[Y4,S12_8,aaa,Ah m,decL k _ G,Ad,Ah G,Ae,noS];cases(((vsA r i k).fld 0).asInt != IntKind.wrap .i64 ((k:Int)+1))
   ·simp only[Af,Aq,Ad,aao k (show k<=1000000000000 by omega)]
   ·rfl) (by
   simp only[Y4,S12_8,aaa,Ah m,Ae,decN,Ad,Af]) _ 0 (Nat.zero_add _)
  exact q
 have q:=acj (step:=(Y3 S12_3)) (λi=>((),((i:Nat):Int),r)) (sbL r).length (λi=>!(upS r i)&&allF (noS r i) 0 (vsL (sbA r i)).length) (.inl (false,r)) (.inr r) (λi m=>by
  have O:imp (decide ((i:Int)>(0:Int))) (aab (IntKind.wrap .i64 ((i:Int)-1)) (sbL r).length)=true:=bdj m X;have H:(IntKind.wrap .i64 ((i:Int)-1)).toNat=i-1\/i=0:=by
   by_cases V:i=0
   ·exact Or.inr V
   ·left;rw[akg (by omega) (by omega)];rfl
  simp only[Y3,S12_3,decL i _ m,Ad,aaa,Ah m,Ae,awv,O,t i m];have U:(bif decide ((i:Int)>(0:Int))then(Op.bytesLess ((sbA r i).fld 0).asStr (((sbL r).getD (IntKind.wrap .i64 ((i:Int)-1)).toNat .bad).fld 0).asStr||((sbA r i).fld 0).asStr==(((sbL r).getD (IntKind.wrap .i64 ((i:Int)-1)).toNat .bad).fld 0).asStr)else false)=upS r i:=by unfold upS;rcases H with H|rfl;all_goals grind
  rw[U];cases upS r i with
  |true=>rfl
  |false=>
   simp only[Af,Aa,Aq,Bool.true_and];cases allF (noS r i) 0 (vsL (sbA r i)).length with
   |true=>simp only[Ad,abg,aao i (show i<=1000000000000 by omega)]
   |false=>rfl) (by
  simp only[Y3,S12_3,decN,Af]) _ 0 (Nat.zero_add _)
 have Y:aad 0 ((Y3 S12_3)) ((),(0:Int),r)=_:=q;unfold F12;rw[Y,Aa];cases o:allF (λi=>!(upS r i)&&allF (noS r i) 0 (vsL (sbA r i)).length) 0 (sbL r).length with
 |false=>exact⟨_,rfl,λe=>by cases e⟩
 |true=>
  refine⟨_,rfl,λ_=>⟨λi m=>?_,λi k m G=>?_⟩⟩
  ·have z:=allG o (i+1) (Nat.zero_le _) (by omega);simp only[Ai,Bool.not_eq_true']at z;have M:=z.1;unfold upS at M;rw[Ah (show(((i+1:Nat)):Int)>0 by omega),Ad,Nat.add_sub_cancel]at M;unfold ascB;have Z:∀j,j<(sbL r).length->((nmL (sbL r)).getD j .bad).asStr=((sbA r j).fld 0).asStr:=λj I=>by
    unfold nmL;rw[aa9 (by simpa using I),List.getElem_map,sbA,aa9 I];rfl
   grind
  ·have z:=allG o i (Nat.zero_le _) (by omega);simp only[Ai]at z;have J:=allG z.2 k (Nat.zero_le _) (by omega);have W:(vsL (sbA r i)).length<=1048576:=h.vers _ (aaw m);unfold noS at J;rw[aao k (show k<=1000000000000 by omega)]at J;grind
def stB(v:PV):Bool:=!(bif (bif (bif (decide ((v.fld 3).asInt<(1:Int)))then true else(decide ((v.fld 3).asInt>(3:Int))))then true else(bif ((v.fld 3).asInt==(2:Int))then(decide ((v.fld 4).asInt<(1:Int)))else false))then true else(bif ((v.fld 3).asInt != (2:Int))then((v.fld 4).asInt != (0:Int))else false))
structure RightX(x:PV):Prop where
 mode:F32 (x.fld 2).asInt=some true
 form:F33 (x.fld 3).asInt=some true
 st:∀k,k<(vsL x).length->stB ((vsL x).getD k .bad)=true
theorem ba3{x:PV}(h:(vsL x).length<=1048576):Ret (F14 x) λb=>b=true->RightX x:=by
 obtain⟨b,z,G⟩:=ad0 (step:=(Y3 S14_5)) (λi=>((),((i:Nat):Int),x)) (vsL x).length (.inl (false,x)) (.inr x) (λi=>stB ((vsL x).getD i .bad)=true) (λi=>some (stB ((vsL x).getD i .bad))) (λi t=>by
  simp only[Y3,S14_5,decL i _ t,Ad,aaa,Ah t,Ae,aao i (show i<=1000000000000 by omega),stB,Aa,Bool.not_not]) (λi _=>⟨_,rfl,id⟩) (by
  simp only[Y3,S14_5,decN,Af])
 have o:aad 0 (Y3 S14_5) ((),(0:Int),x)=some b:=z;unfold F14;cases J:F32 (x.fld 2).asInt with
 |none=>grind[absurd,F32]
 |some m=>
 cases I:F33 (x.fld 3).asInt with
 |none=>grind[absurd,F33]
 |some f=>
 rw[Aa];cases m with
 |false=>grind
 |true=>
 cases f with
 |false=>grind
 |true=>
  simp only[An,Aq,Ad,Af,Aa];rw[o,Aa];rcases G with rfl|⟨rfl,H⟩
  ·exact⟨false,rfl,nofun⟩
  ·exact⟨true,rfl,λ_=>⟨J,I,H⟩⟩
def hasB(s:PV)(nm:Bn):Bool:=(s.fld 0).asList.any λm=>(m.fld 0).asStr==nm
structure FormP(s:PV):Prop where
 val:F55 s=some true
 bare:bb2 s
 txt:∃t,F58 s=some t/\(t==([]:Bn))=false
structure WholeV(x v:PV):Prop where
 root:hasB (v.fld 1) (x.fld 1).asStr=true
 prn:F54 (v.fld 1)=some (v.fld 2).asInt
 form:FormP (v.fld 1)
theorem bhu{s:PV}{nm:Bn}(J:(s.fld 0).asList.length<=1048576):∃y,F53 s nm=some y/\(y.2=true->hasB s nm=true):=by
 generalize H:(PV.agg [(PV.str ([]:Bn)),(PV.slice []),(PV.slice []),(PV.slice []),(PV.slice [])])=z;have q:=ae9 (step:=(Y6 S53_3)) (λi=>(nm,(),(),((i:Nat):Int),s,z)) (s.fld 0).asList (λm=>bif (m.fld 0).asStr==nm then some m else none) (λm=>.inl ((),true,s,m)) (.inr ((),s,z)) (λi o=>by
  simp only[Y6,S53_3,decL i _ o,Ad,aaa,Ah o,Ae,aao i (show i<=1000000000000 by omega)];grind) (by
  simp only[Y6,S53_3,decN,Af]) _ 0 (Nat.zero_add _)
 rw[Ar]at q;have I:aad 0 (Y6 S53_3) (nm,(),(),(0:Int),s,z)=_:=q;unfold F53;rw[H,I,Aa];cases G:(s.fld 0).asList.findSome? (λm=>bif (m.fld 0).asStr==nm then some m else none)with
 |none=>exact⟨_,rfl,nofun⟩
 |some m=>refine⟨_,rfl,λ_=>?_⟩;obtain⟨a,t,M⟩:=List.exists_of_findSome?_eq_some G;refine List.any_eq_true.2 ⟨a,t,?_⟩;grind
def whP(n:Int)(x v:PV):Prop:=(n=5->hasB (v.fld 1) (x.fld 1).asStr=true)/\(n=6->F54 (v.fld 1)=some (v.fld 2).asInt)/\(n=7->FormP (v.fld 1))
theorem bbv{x v:PV}{n:Int}(h:SOk (v.fld 1))(t:aah (v.fld 1)<=1048576):Ret (F34 x v n) λb=>b=true->whP n x v:=by
 unfold F34;cases I:(n==(5:Int))with
 |true=>have e:=eq_of_beq I;obtain⟨y,G,H⟩:=bhu (nm:=(x.fld 1).asStr) h.len.m;rw[Ad,G,Aa];exact⟨_,rfl,λt=>⟨λ_=>H t,λo=>by omega,λo=>by omega⟩⟩
 |false=>
 have O:n≠5:=by simpa using I
 cases J:(n==(6:Int))with
 |true=>have e:=eq_of_beq J;obtain⟨y,G,_⟩:=baj h t;rw[Af,Ad,G,Aa];exact⟨_,rfl,λM=>⟨λo=>by omega,λ_=>by grind,λo=>by omega⟩⟩
 |false=>
 have U:n≠6:=by simpa using J
 rw[Af,Af];obtain⟨b,z⟩:=amb h t;rw[z,Aa];cases b with
 |false=>grind
 |true=>
  dsimp only;simp only[Ad];rw[bf2 h z,Aa,Ad];obtain⟨y,G,H⟩:=bem (s:=v.fld 1) t;rw[G,Aa];cases y with
  |false=>grind
  |true=>rw[Ad,af6 h t z,Aa];refine⟨_,rfl,λM=>⟨λo=>absurd o O,λo=>absurd o U,λ_=>⟨z,H rfl,_,af6 h t z,by simpa using M⟩⟩⟩
theorem akt{r:PV}{n:Int}(h:RegOk r):Ret (F15 r n) λb=>b=true->∀i,i<(sbL r).length->∀k,k<(vsL (sbA r i)).length->whP n (sbA r i) (vsA r i k):=by
 have O:=h.subs;have m:∀i,i<(sbL r).length->∃b,aad 0 (Y5 S15_6) (n,(),((i:Nat):Int),(0:Int),r)=some b/\(b=.inl (false,r)\/b=.inr (n,(),((i:Nat):Int),r)/\∀k,k<(vsL (sbA r i)).length->whP n (sbA r i) (vsA r i k)):=λi o=>by
  have M:(vsL (sbA r i)).length<=1048576:=h.vers _ (aaw o);exact ad0 (step:=(Y5 S15_6)) (λk=>(n,(),((i:Nat):Int),((k:Nat):Int),r)) (vsL (sbA r i)).length (.inl (false,r)) (.inr (n,(),((i:Nat):Int),r)) (λk=>whP n (sbA r i) (vsA r i k)) (λk=>F34 (sbA r i) (vsA r i k) n) (λk H=>by
   simp only[Y5,S15_6,aaa,Ah o,decL k _ H,Ad,Ah H,Ae,aao k (show k<=1000000000000 by omega)]) (λk H=>bbv (h.sok _ (aaw o) _ (aaw H)) (h.sbk _ (aaw o) _ (aaw H))) (by
   simp only[Y5,S15_6,aaa,Ah o,Ae,decN,Ad,Af])
 obtain⟨b,t,G⟩:=ad0 (step:=(Y4 S15_3)) (λi=>(n,(),((i:Nat):Int),r)) (sbL r).length (.inl (false,r)) (.inr r) (λi=>∀k,k<(vsL (sbA r i)).length->whP n (sbA r i) (vsA r i k)) (λi=>(aad 0 (Y5 S15_6) (n,(),((i:Nat):Int),(0:Int),r)).map λz=>match z with|.inl y=>y.1|.inr _=>true) (λi o=>by
  obtain⟨b,t,G⟩:=m i o;simp only[Y4,S15_3,decL i _ o,Ad];rw[t];rcases G with rfl|⟨rfl,_⟩
  ·rfl
  ·simp only[Aa,Option.map_some,abg,aao i (show i<=1000000000000 by omega),An,Af]) (λi o=>by
  obtain⟨b,t,G⟩:=m i o;rw[t];rcases G with rfl|⟨rfl,J⟩;all_goals simp_all) (by
  simp only[Y4,S15_3,decN,Af])
 have I:aad 0 (Y4 S15_3) (n,(),(0:Int),r)=some b:=t;unfold F15;rw[I,Aa];rcases G with rfl|⟨rfl,J⟩
 ·exact⟨false,rfl,nofun⟩
 ·exact⟨true,rfl,λ_=>J⟩
structure RegC(r:PV):Prop where
 lim:LimR r
 ord:OrdR r
 full:∀i,i<(sbL r).length->ae7 ((sbA r i).fld 0).asStr=true/\ae7 ((sbA r i).fld 1).asStr=true
 day:0<=(r.fld 0).asInt
 right:∀i,i<(sbL r).length->RightX (sbA r i)
 whole:∀i,i<(sbL r).length->∀k,k<(vsL (sbA r i)).length->WholeV (sbA r i) (vsA r i k)
theorem a7f{r:PV}(h:RegOk r):Ret (F5 r) λe=>e=0->RegC r:=by
 have hn:=h.subs;have no:∀{x:Int}{P:Prop},x≠0->x=0->P:=λh e=>absurd e h;obtain⟨U,h7,q7⟩:=ad0 (step:=(Y3 S5_7)) (λi=>((),((i:Nat):Int),r)) (sbL r).length (.inl ((8:Int),r)) (.inr ((),r)) (λi=>ae7 ((sbA r i).fld 0).asStr=true/\ae7 ((sbA r i).fld 1).asStr=true) (λi=>some (ae7 ((sbA r i).fld 0).asStr&&ae7 ((sbA r i).fld 1).asStr)) (λi m=>by
  have Y:=ad6 _ (h.name _ (aaw m));have Z:=ad6 _ (h.root _ (aaw m));simp only[Y3,S5_7,decL i _ m,Ad,aaa,Ah m,Ae,awv,Y,Z,Aa,aao i (show i<=1000000000000 by omega)];grind) (λi m=>⟨_,rfl,λhb=>by simpa using hb⟩) (by
  simp only[Y3,S5_7,decN,Af])
 have G:aad 0 (Y3 S5_7) ((),(0:Int),r)=some U:=h7;obtain⟨t,z,M⟩:=ad0 (step:=(Y3 S5_14)) (λi=>((),((i:Nat):Int),r)) (sbL r).length (.inl ((1:Int),r)) (.inr ((),r)) (λi=>RightX (sbA r i)) (λi=>F14 (sbA r i)) (λi m=>by
  simp only[Y3,S5_14,decL i _ m,Ad,aaa,Ah m,Ae,aao i (show i<=1000000000000 by omega)]) (λi m=>ba3 (h.vers _ (aaw m))) (by
  simp only[Y3,S5_14,decN,Af])
 have o:aad 0 (Y3 S5_14) ((),(0:Int),r)=some t:=z;unfold F5;refine adq (a4r h) λy1 _ I=>?_;cases y1 with
 |true=>grind
 |false=>
 have hm:=I rfl;rw[Af];refine adq (az3 h) λy2 _ J=>?_;cases y2 with
 |false=>exact⟨_,rfl,no (by simp)⟩
 |true=>
  have ho:=J rfl;simp only[An,Af];rw[G,Aa];rcases q7 with rfl|⟨rfl,hf⟩
  ·exact⟨_,rfl,no (by simp)⟩
  ·rw[abg];refine akr (λ_=>⟨_,rfl,no (by simp)⟩) λO=>?_;have O:¬(r.fld 0).asInt<0:=of_decide_eq_false O;dsimp only;rw[o,Aa];rcases M with rfl|⟨rfl,hr⟩
   ·exact⟨_,rfl,no (by simp)⟩
   ·rw[abg];dsimp only;refine adq (akt h) λz1 _ w1=>?_;refine akr (λ_=>⟨_,rfl,no (by simp)⟩) λV=>?_;refine adq (akt h) λz2 _ w2=>?_;refine akr (λ_=>⟨_,rfl,no (by simp)⟩) λW=>?_;refine adq (akt h) λz3 _ w3=>?_;refine akr (λ_=>⟨_,rfl,no (by simp)⟩) λX=>⟨_,rfl,λ_=>⟨hm,ho,hf,by omega,hr,λi m k H=>⟨(w1 (by simpa using V) i m k H).1 rfl,(w2 (by simpa using W) i m k H).2.1 rfl,(w3 (by simpa using X) i m k H).2.2 rfl⟩⟩⟩
end Go.Ab
namespace Go.Ab
open Go
set_option maxRecDepth 100000
theorem aju{C:Type}{g:PV->C->Option (Bool×C)}{c:C}{l:List PV}(m:l.length<=1048576)(h:∀x,x∈l->g x c=some (false,c)):cfF g l c=some (false,c):=by rw[af8 (by omega) (λ_=>false) h];simp
theorem ap1{l:List PV}{x:PV}(h:x∈l):∃i,i<l.length/\l.getD i .bad=x:=by obtain⟨i,m,rfl⟩:=List.mem_iff_getElem.1 h;exact⟨i,m,aa9 m⟩
theorem bhj{x:PV}(h:(vsL x).length<=32):F20 x=some true:=by unfold F20;grind
theorem bec{x:PV}(t:(vsL x).length<=1048576)(h:∀k,k<(vsL x).length->(((vsL x).getD k .bad).fld 0).asInt=(k:Int)+1):F22 x=some true:=by
 have q:=ack (step:=(Y4 S22_3)) (λk=>(vsL x,((vsL x).length:Int),((k:Nat):Int),x)) (vsL x).length (.inr x) (λk m=>by
  have e:(((vsL x).getD k .bad).fld 0).asInt=((k+1:Nat):Int):=by grind
  simp only[Y4,S22_3,decL k _ m,Ad,aaa,Ah m,Ae,aao k (show k<=1000000000000 by omega),e,bne_self_eq_false,Af]) (by
  simp only[Y4,S22_3,decN,Af])
 have o:aad 0 (Y4 S22_3) (vsL x,((vsL x).length:Int),(0:Int),x)=_:=q;unfold F22;dsimp only;rw[o];rfl
theorem stEq{s u:Int}(e:(!(bif (bif (bif (decide (s<(1:Int)))then true else(decide (s>(3:Int))))then true else(bif (s==(2:Int))then(decide (u<(1:Int)))else false))then true else(bif (s != (2:Int))then(u != (0:Int))else false)))=true):
 (bif (bif (bif (decide (s<(1:Int)))then true else(decide (s>(3:Int))))then true else(!((s==(2:Int))==(decide (u>=(1:Int))))))then true else(bif (s != (2:Int))then(u != (0:Int))else false))=false:=by
 grind
theorem a3e{x:PV}(H:(vsL x).length<=1048576)(h:RightX x):F24 x=some true:=by
 have q:=ack (step:=(Y5 S24_3)) (λk=>((),vsL x,((vsL x).length:Int),((k:Nat):Int),x)) (vsL x).length (.inr ((),x)) (λk o=>by
  have e:=h.st k o;unfold stB at e;simp only[Y5,S24_3,decL k _ o,Ad,aaa,Ah o,Ae,aao k (show k<=1000000000000 by omega)];rw[stEq e];rfl) (by
  simp only[Y5,S24_3,decN,Af])
 have z:aad 0 (Y5 S24_3) ((),vsL x,((vsL x).length:Int),(0:Int),x)=_:=q;have t:F38 (x.fld 2).asInt=some true:=by
  have e:=h.mode;unfold F32 at e;generalize(x.fld 2).asInt=m at e;have t:0<=m/\m<=7/\m≠4:=by grind
  rcases(show m=0\/m=1\/m=2\/m=3\/m=5\/m=6\/m=7 by omega)with rfl|rfl|rfl|rfl|rfl|rfl|rfl<;>rfl
 have G:F39 (x.fld 3).asInt=some true:=h.form;unfold F24;dsimp only;rw[z,Aa,abg];grind
theorem a3f{l:List PV}(t:l.length<=1048576)(h:∀i,i+1<l.length->Op.bytesLess ((l.getD i .bad).fld 0).asStr ((l.getD (i+1) .bad).fld 0).asStr=true):F21 l=some true:=by
 unfold F21;have q:aad 0 (Y2 S21_3) (l,(1:Int))=some (.inr ()):=by
  by_cases m:l.length=0
  ·refine aae (x:=(l,(1:Int))) ?_;grind[Y2,S21_3]
  ·have q:=ack (step:=(Y2 S21_3)) (λk=>(l,((k+1:Nat):Int))) (l.length-1) (.inr ()) (λk o=>by
    have w:IntKind.wrap .i64 (((k+1:Nat):Int)-1)=((k:Nat):Int):=by rw[akg (by omega) (by omega)];rfl
    simp only[Y2,S21_3,decL (k+1) _ (show k+1<l.length by omega),Ad,w,aaa,Ah (show k<l.length by omega),Ah (show k+1<l.length by omega),Ae,h k (by omega),An,Af,aao (k+1) (show k+1<=1000000000000 by omega)]) (by
    rw[show l.length-1+1=l.length by omega];simp only[Y2,S21_3,decN,Af])
   exact q
 rw[q];rfl
theorem hasP{s:PV}{nm:Bn}(o:(s.fld 0).asList.length<=1048576):F43 s nm=some (hasB s nm):=by have e:F63_c64 (s.fld 0).asList () nm=some (hasB s nm,nm):=af8 (by omega) (λm=>(m.fld 0).asStr==nm) λx _=>rfl;grind[F43]
theorem bg0{x v:PV}(h:SOk (v.fld 1))(o:aah (v.fld 1)<=1048576)(f:FormP (v.fld 1)):F28 x v=some true:=by obtain⟨t,z,m⟩:=f.txt;unfold F28;rw[am6 h,f.val,Aa,Ad,bjw h f.val,Aa,Ad,Ad,a3u h f.bare,Aa];dsimp only;rw[Ad,Ad,bbn h o,z,Aa,m];rfl
theorem beg{x v:PV}(h:SOk (v.fld 1))(m:aah (v.fld 1)<=1048576)(p:F54 (v.fld 1)=some (v.fld 2).asInt):F27 x v=some true:=by unfold F27;rw[a5h h m,p,Aa,A1]
theorem bhv{x v:PV}(h:SOk (v.fld 1))(p:hasB (v.fld 1) (x.fld 1).asStr=true):F26 x v=some true:=by unfold F26;rw[hasP h.len.m,p];rfl
theorem vers1{x:PV}(m:(vsL x).length<=1048576)(h:∀v,v∈vsL x->F26 x v=some true):F40 x () ()=some (true,()):=by
 have e:F41_c42 (vsL x) () () x=some (false,(),x):=aju m λv o=>by show F42 v () () () x=_;grind[F42]
 grind[F40]
theorem vers2{x:PV}(m:(vsL x).length<=1048576)(h:∀v,v∈vsL x->F27 x v=some true):F40_v1 x () ()=some (true,()):=by
 have e:F41_c42_v1 (vsL x) () () x=some (false,(),x):=aju m λv o=>by show F42_v1 v () () () x=_;grind[F42_v1]
 grind[F40_v1]
theorem vers3{x:PV}(m:(vsL x).length<=1048576)(h:∀v,v∈vsL x->F28 x v=some true):F40_v2 x () ()=some (true,()):=by
 have e:F41_c42_v2 (vsL x) () () x=some (false,(),x):=aju m λv o=>by show F42_v2 v () () () x=_;grind[F42_v2]
 grind[F40_v2]
theorem au8{r:PV}(h:RegOk r)(c:RegC r):F9 r=some 0:=by
 have H:=h.subs;have z:∀{P:PV->Prop},(∀i,i<(sbL r).length->P (sbA r i))->∀x,x∈sbL r->P x:=λV x m=>by obtain⟨i,G,rfl⟩:=ap1 m;exact V i G
 have t:∀{P:PV->PV->Prop},(∀i,i<(sbL r).length->∀k,k<(vsL (sbA r i)).length->P (sbA r i) (vsA r i k))->∀x,x∈sbL r->∀v,v∈vsL x->P x v:=λV x m v o=>by obtain⟨i,G,rfl⟩:=ap1 m;obtain⟨k,U,rfl⟩:=ap1 o;grind
 have W:F19_c20 r ()=some true:=by
  have e:F35_c36 (sbL r) () ()=some (false,()):=aju H λx m=>by show F36 x () ()=_;unfold F36;rw[bhj (z (P:=λx=>(vsL x).length<=32) c.lim.2 x m)];rfl
  grind[F19_c20]
 have X:F19_c22 r ()=some true:=by
  have e:F35_c36_v1 (sbL r) () ()=some (false,()):=aju H λx m=>by show F36_v1 x () ()=_;unfold F36_v1;rw[bec (h.vers x m) (z (P:=λx=>∀k,k<(vsL x).length->(((vsL x).getD k .bad).fld 0).asInt=(k:Int)+1) (λi G k U=>c.ord.no i k G U) x m)];rfl
  grind[F19_c22]
 have Y:F19_c23 r ()=some true:=by
  have e:F35_c36_v2 (sbL r) () ()=some (false,()):=aju H λx m=>by have M:=z (P:=λx=>ae7 (x.fld 0).asStr=true/\ae7 (x.fld 1).asStr=true) c.full x m;show F36_v2 x () ()=_;unfold F36_v2 F23;rw[aig _ (h.name x m),aig _ (h.root x m),M.1,M.2];rfl
  grind[F19_c23]
 have Z:F19_c24 r ()=some true:=by
  have e:F35_c36_v3 (sbL r) () ()=some (false,()):=aju H λx m=>by show F36_v3 x () ()=_;unfold F36_v3;rw[a3e (h.vers x m) (z (P:=RightX) c.right x m)];rfl
  grind[F19_c24]
 have a5:F19_c40 r () ()=some (true,()):=by
  have e:F35_c36_v4 (sbL r) () () ()=some (false,(),()):=aju H λx m=>by show F36_v4 x () () ()=_;unfold F36_v4;rw[vers1 (h.vers x m) λv o=>bhv (h.sok x m v o) (t (P:=WholeV) c.whole x m v o).root];rfl
  grind[F19_c40]
 have a6:F19_c40_v1 r () ()=some (true,()):=by
  have e:F35_c36_v5 (sbL r) () () ()=some (false,(),()):=aju H λx m=>by show F36_v5 x () () ()=_;unfold F36_v5;rw[vers2 (h.vers x m) λv o=>beg (h.sok x m v o) (h.sbk x m v o) (t (P:=WholeV) c.whole x m v o).prn];rfl
  grind[F19_c40_v1]
 have a7:F19_c40_v2 r () ()=some (true,()):=by
  have e:F35_c36_v6 (sbL r) () () ()=some (false,(),()):=aju H λx m=>by show F36_v6 x () () ()=_;unfold F36_v6;rw[vers3 (h.vers x m) λv o=>bg0 (h.sok x m v o) (h.sbk x m v o) (t (P:=WholeV) c.whole x m v o).form];rfl
  grind[F19_c40_v2]
 have b1:F21 (r.fld 1).asList=some true:=a3f H λi G=>by
  have G:i+1<(sbL r).length:=G;have I:=c.ord.up i G;unfold ascB at I;have J:∀j,j<(sbL r).length->((nmL (sbL r)).getD j .bad).asStr=((sbA r j).fld 0).asStr:=λj O=>by unfold nmL;rw[aa9 (by simpa using O),List.getElem_map,sbA,aa9 O];rfl
  rw[J (i+1) G,J i (by omega)]at I;simp only[Go.Proofs.bytesLess_eq,Bool.not_eq_true',Bool.or_eq_false_iff,decide_eq_false_iff_not,Bc]at I ⊢;grind
 have d1:decide (((r.fld 1).asList.length:Int)>(32:Int))=false:=Au (by have:=c.lim.1;grind);have d2:decide ((r.fld 0).asInt<(0:Int))=false:=Au (by have:=c.day;omega);unfold F9 F25_c26 F25_c27 F25_c28;simp only[d1,d2,W,X,Y,Z,a5,a6,a7,b1,Aa,An,Aq,Ad,Af]
end Go.Ab
