/- A schema and its canonical form: both comparisons ask whether notes go (law 39). -/
import Derived.Test.YtofplaamkkpciaaGreatDoorPK5R
set_option linter.unusedVariables false
set_option linter.unusedSimpArgs false
set_option linter.unnecessarySimpa false
namespace Go.Ab
open Go
set_option maxRecDepth 100000
def Ans(x:Option Bool)(P:Prop):Prop:=∃b,x=some b/\(b=true ↔ P)
theorem ae8{P:Prop}(h:¬P):Ans (some false) P:=⟨false,rfl,by simpa using h⟩
theorem amu{P:Prop}(h:P):Ans (some true) P:=⟨true,rfl,by simpa using h⟩
theorem a0w{P:Prop}(h:false=true ↔ P):¬P:=λp=>nomatch h.2 p
theorem ahm{I M:Type}{step:I->Option (I⊕M)}(st:Nat->I)(n:Nat)(bad m:M)(P:Nat->Prop)(t:Nat->Option Bool)(G:∀i,i<n->step (st i)=(t i).bind λy=>bif !y then some (.inr bad)else some (.inl (st (i+1))))(J:∀i,i<n->Ans (t i) (P i))(o:step (st n)=some (.inr m)):
 ∃r,aap step (st 0)=some r/\(r=bad/\¬(∀i,i<n->P i)\/r=m/\∀i,i<n->P i):=by
 by_cases z:∀i,i<n->P i
 ·refine⟨m,acm st n m (λi H=>?_) o,Or.inr ⟨rfl,z⟩⟩;obtain⟨b,O,U⟩:=J i H;grind
 ·obtain⟨r,O,U⟩:=adn st n bad m P t G (λi H=>by obtain⟨b,V,W⟩:=J i H;grind) o;grind
theorem azc{l:List PV}{P:PV->Prop}:(∀i,i<l.length->P (l.getD i .bad)) ↔ ∀x,x∈l->P x:=⟨aqm,λh i m=>h _ (aam m)⟩
theorem aro{l:List PV}(o:l.length<=1048576):F324 l l=some true:=by
 have e:aad 0 (Y3 S324_5) (l,l,(0:Int))=some (.inr ()):=acm (step:=(Y3 S324_5)) (λi=>(l,l,((i:Nat):Int))) l.length _ (λi m=>by
  simp only[Y3,S324_5,decL i _ m,Ad,aaa,Ah m,Ae,bne_self_eq_false,Ao,aio,Af,aal i (by omega)]) (by
  simp only[Y3,S324_5,decN,Af])
 unfold F324;simp only[bne_self_eq_false,Af];rw[e];rfl
theorem a1c{l:List PV}(o:l.length<=1048576):F325 l l=some true:=by
 have e:aad 0 (Y3 S325_5) (l,l,(0:Int))=some (.inr ()):=acm (step:=(Y3 S325_5)) (λi=>(l,l,((i:Nat):Int))) l.length _ (λi m=>by
  simp only[Y3,S325_5,decL i _ m,Ad,aaa,Ah m,Ae,Az,An,Af,aal i (by omega)]) (by
  simp only[Y3,S325_5,decN,Af])
 unfold F325;simp only[bne_self_eq_false,Af];rw[e];rfl
theorem ato{v:PV}{i:Nat}(h:aag v<=1048576):Ans (F326 (v.fld i).asList (aba (v.fld i).asList)) (Bare v i):=by
 have o:(v.fld i).asList.length<=1048576:=by grind[abr]
 have m:∀x,x∈(v.fld i).asList->aag x<=1048576:=λx m=>by have:=adf m;omega
 by_cases e:Bare v i
 ·have t:aba (v.fld i).asList=(v.fld i).asList:=e;rw[t];exact⟨true,atq o m,by simpa using e⟩
 ·obtain⟨b,z,G⟩:=atp o m;exact⟨b,z,G,λq=>absurd q e⟩
theorem bj7{f:PV}(h:aag f<=1048576):Ans (F327 f (ofF f)) (Bare f 8):=by have q0:((ofF f).fld 0).asInt=(f.fld 0).asInt:=rfl;have o:((ofF f).fld 1).asStr=(f.fld 1).asStr:=rfl;have t:((ofF f).fld 2).asInt=(f.fld 2).asInt:=rfl;have z:((ofF f).fld 3).asInt=(f.fld 3).asInt:=rfl;have G:(ofF f).fld 4=f.fld 4:=rfl;have H:((ofF f).fld 5).asStr=(f.fld 5).asStr:=rfl;have I:((ofF f).fld 6).asBool=(f.fld 6).asBool:=rfl;have J:(ofF f).fld 7=f.fld 7:=rfl;have M:((ofF f).fld 8).asList=aba (f.fld 8).asList:=rfl;obtain⟨b,e,m⟩:=ato (i:=8) h;unfold F327;simp only[q0,o,t,z,G,H,I,J,M,Az,Ad,awf (v:=f.fld 7) (Nat.le_trans (ab6 f 7) h),Aa,e];exact⟨b,rfl,m⟩
theorem mesA{m:PV}(h:aag m<=1048576):Ans (F220 m (ofM m)) (awn m):=by
 have G:∀i,(m.fld i).asList.length<=1048576:=λi=>by grind[abr]
 have l1:=G 1;have I:((ofM m).fld 1).asList=(m.fld 1).asList.map ofF:=rfl;have q0:((ofM m).fld 0).asStr=(m.fld 0).asStr:=rfl;have U:((ofM m).fld 2).asList=(m.fld 2).asList:=rfl;have V:((ofM m).fld 3).asList=(m.fld 3).asList:=rfl;have W:((ofM m).fld 4).asList=aba (m.fld 4).asList:=rfl;obtain⟨b,e,M⟩:=ato (i:=4) h;obtain⟨r,O,J⟩:=ahm (step:=(Y5 S220_5)) (λi=>((),(),((i:Nat):Int),m,ofM m)) (m.fld 1).asList.length (.inl (false,m,ofM m)) (.inr (m,ofM m)) (λi=>Bare ((m.fld 1).asList.getD i .bad) 8) (λi=>F327 ((m.fld 1).asList.getD i .bad) (ofF ((m.fld 1).asList.getD i .bad))) (λi o=>by
  simp only[Y5,S220_5,I,decL i _ o,Ad,aaa,Ah o,List.length_map,Ae,acz ofF o,aal i (by omega)]) (λi o=>bj7 (by have:=adf (aam o);omega)) (by
  simp only[Y5,S220_5,decN,Af])
 have t:aad 0 ((Y5 S220_5)) ((),(),(0:Int),m,ofM m)=some r:=O;rw[azc (P:=λx=>Bare x 8)]at J;unfold F220;simp only[q0,U,V,W,I,List.length_map,Az,bne_self_eq_false,An,Ao,Ad,Af,aro (G 2),a1c (G 3),Aa,e,t];cases b with
 |false=>exact ae8 λH=>a0w M H.1
 |true=>
  rcases J with⟨rfl,z⟩|⟨rfl,z⟩
  ·exact ae8 λH=>z H.2
  ·exact amu ⟨M.1 rfl,z⟩
theorem enmA{m:PV}(h:aag m<=1048576):Ans (F221 m (ofE m)) (awm m):=by
 have U:∀i,(m.fld i).asList.length<=1048576:=λi=>by grind[abr]
 have l1:=U 2;have J:((ofE m).fld 2).asList=(m.fld 2).asList.map ofI:=rfl;have q0:((ofE m).fld 0).asStr=(m.fld 0).asStr:=rfl;have I:((ofE m).fld 1).asBool=(m.fld 1).asBool:=rfl;have X:((ofE m).fld 3).asList=(m.fld 3).asList:=rfl;have Y:((ofE m).fld 4).asList=aba (m.fld 4).asList:=rfl;obtain⟨b,e,O⟩:=ato (i:=4) h;obtain⟨r,V,M⟩:=ahm (step:=(Y5 S221_5)) (λi=>((),(),((i:Nat):Int),m,ofE m)) (m.fld 2).asList.length (.inl (false,m,ofE m)) (.inr (m,ofE m)) (λi=>Bare ((m.fld 2).asList.getD i .bad) 2) (λi=>F326 (((m.fld 2).asList.getD i .bad).fld 2).asList (aba (((m.fld 2).asList.getD i .bad).fld 2).asList)) (λi o=>by
  have q0:∀z:PV,((ofI z).fld 0).asStr=(z.fld 0).asStr:=λz=>rfl;have I:∀z:PV,((ofI z).fld 1).asInt=(z.fld 1).asInt:=λz=>rfl;have W:∀z:PV,((ofI z).fld 2).asList=aba (z.fld 2).asList:=λz=>rfl;simp only[Y5,S221_5,J,decL i _ o,Ad,aaa,Ah o,List.length_map,Ae,acz ofI o,q0,I,W,Az,bne_self_eq_false,An,Ao,aio,Af,aal i (by omega)]) (λi o=>ato (v:=(m.fld 2).asList.getD i .bad) (i:=2) (by have:=adf (aam o);omega)) (by
  simp only[Y5,S221_5,decN,Af])
 have t:aad 0 ((Y5 S221_5)) ((),(),(0:Int),m,ofE m)=some r:=V;rw[azc (P:=λx=>Bare x 2)]at M;unfold F221;simp only[q0,I,X,Y,J,List.length_map,Az,bne_self_eq_false,An,Ao,Ad,Af,aro (U 3),Aa,e,t];cases b with
 |false=>exact ae8 λH=>a0w O H.1
 |true=>
  rcases M with⟨rfl,G⟩|⟨rfl,G⟩
  ·exact ae8 λH=>G H.2
  ·exact amu ⟨O.1 rfl,G⟩
theorem svcA{m:PV}(h:aag m<=1048576):Ans (F222 m (ofV m)) (awo m):=by
 have V:∀i,(m.fld i).asList.length<=1048576:=λi=>by grind[abr]
 have l1:=V 1;have J:((ofV m).fld 1).asList=(m.fld 1).asList.map ofT:=rfl;have q0:((ofV m).fld 0).asStr=(m.fld 0).asStr:=rfl;have I:((ofV m).fld 2).asList=aba (m.fld 2).asList:=rfl;obtain⟨b,e,O⟩:=ato (i:=2) h;obtain⟨r,U,M⟩:=ahm (step:=(Y5 S222_5)) (λi=>((),(),((i:Nat):Int),m,ofV m)) (m.fld 1).asList.length (.inl (false,m,ofV m)) (.inr (m,ofV m)) (λi=>Bare ((m.fld 1).asList.getD i .bad) 4) (λi=>F326 (((m.fld 1).asList.getD i .bad).fld 4).asList (aba (((m.fld 1).asList.getD i .bad).fld 4).asList)) (λi o=>by
  have q0:∀z:PV,((ofT z).fld 0).asStr=(z.fld 0).asStr:=λz=>rfl;have W:∀z:PV,((ofT z).fld 1).asStr=(z.fld 1).asStr:=λz=>rfl;have I:∀z:PV,((ofT z).fld 2).asStr=(z.fld 2).asStr:=λz=>rfl;have X:∀z:PV,((ofT z).fld 3).asInt=(z.fld 3).asInt:=λz=>rfl;have Y:∀z:PV,((ofT z).fld 4).asList=aba (z.fld 4).asList:=λz=>rfl;simp only[Y5,S222_5,J,decL i _ o,Ad,aaa,Ah o,List.length_map,Ae,acz ofT o,q0,W,I,X,Y,Az,bne_self_eq_false,An,Ao,aio,Af,aal i (by omega)]) (λi o=>ato (v:=(m.fld 1).asList.getD i .bad) (i:=4) (by have:=adf (aam o);omega)) (by
  simp only[Y5,S222_5,decN,Af])
 have t:aad 0 ((Y5 S222_5)) ((),(),(0:Int),m,ofV m)=some r:=U;rw[azc (P:=λx=>Bare x 4)]at M;unfold F222;simp only[q0,I,J,List.length_map,Az,bne_self_eq_false,An,Ao,Ad,Af,Aa,e,t];cases b with
 |false=>exact ae8 λH=>a0w O H.1
 |true=>
  rcases M with⟨rfl,G⟩|⟨rfl,G⟩
  ·exact ae8 λH=>G H.2
  ·exact amu ⟨O.1 rfl,G⟩
theorem sameA{s:PV}(h:aag s<=1048576):Ans (F103 s (ofS s)) (a7k s):=by
 have t:∀i,(s.fld i).asList.length<=1048576:=λi=>by grind[abr]
 have z:∀i k,k<(s.fld i).asList.length->aag ((s.fld i).asList.getD k .bad)<=1048576:=λi k X=>by have:=adf (aam X);omega
 have l0:=t 0;have l1:=t 1;have l2:=t 2;have J:((ofS s).fld 0).asList=(s.fld 0).asList.map ofM:=rfl;have M:((ofS s).fld 1).asList=(s.fld 1).asList.map ofE:=rfl;have O:((ofS s).fld 2).asList=(s.fld 2).asList.map ofV:=rfl;obtain⟨r1,p1,U⟩:=ahm (step:=(Y5 S146_5)) (λi=>((),(),((i:Nat):Int),s,ofS s)) (s.fld 0).asList.length (.inl (false,s,ofS s)) (.inr ((),(),s,ofS s)) (λi=>awn ((s.fld 0).asList.getD i .bad)) (λi=>F220 ((s.fld 0).asList.getD i .bad) (ofM ((s.fld 0).asList.getD i .bad))) (λi m=>by
  simp only[Y5,S146_5,J,decL i _ m,Ad,aaa,Ah m,List.length_map,Ae,acz ofM m,aal i (by omega)]) (λi m=>mesA (z 0 i m)) (by
  simp only[Y5,S146_5,decN,Af])
 obtain⟨r2,p2,V⟩:=ahm (step:=(Y5 S146_10)) (λi=>((),(),((i:Nat):Int),s,ofS s)) (s.fld 1).asList.length (.inl (false,s,ofS s)) (.inr ((),(),s,ofS s)) (λi=>awm ((s.fld 1).asList.getD i .bad)) (λi=>F221 ((s.fld 1).asList.getD i .bad) (ofE ((s.fld 1).asList.getD i .bad))) (λi m=>by
  simp only[Y5,S146_10,M,decL i _ m,Ad,aaa,Ah m,List.length_map,Ae,acz ofE m,aal i (by omega)]) (λi m=>enmA (z 1 i m)) (by
  simp only[Y5,S146_10,decN,Af])
 obtain⟨r3,p3,W⟩:=ahm (step:=(Y5 S146_15)) (λi=>((),(),((i:Nat):Int),s,ofS s)) (s.fld 2).asList.length (.inl (false,s,ofS s)) (.inr (s,ofS s)) (λi=>awo ((s.fld 2).asList.getD i .bad)) (λi=>F222 ((s.fld 2).asList.getD i .bad) (ofV ((s.fld 2).asList.getD i .bad))) (λi m=>by
  simp only[Y5,S146_15,O,decL i _ m,Ad,aaa,Ah m,List.length_map,Ae,acz ofV m,aal i (by omega)]) (λi m=>svcA (z 2 i m)) (by
  simp only[Y5,S146_15,decN,Af])
 have G:aad 0 ((Y5 S146_5)) ((),(),(0:Int),s,ofS s)=some r1:=p1;have H:aad 0 ((Y5 S146_10)) ((),(),(0:Int),s,ofS s)=some r2:=p2;have I:aad 0 ((Y5 S146_15)) ((),(),(0:Int),s,ofS s)=some r3:=p3;rw[azc (P:=awn)]at U;rw[azc (P:=awm)]at V;rw[azc (P:=awo)]at W;have e:F103 s (ofS s)=F146 s (ofS s):=by grind[F103,F146,ofS]
 rw[e];unfold F146;simp only[J,M,O,List.length_map,bne_self_eq_false,Af,G,Aa];rcases U with⟨rfl,Y⟩|⟨rfl,y1⟩
 ·exact ae8 λo=>Y o.1
 simp only[aa6,H,Aa];rcases V with⟨rfl,Z⟩|⟨rfl,y2⟩
 ·exact ae8 λo=>Z o.2.1
 simp only[aa6,I,Aa];rcases W with⟨rfl,n3⟩|⟨rfl,y3⟩
 ·exact ae8 λo=>n3 o.2.2
 ·exact amu ⟨y1,y2,y3⟩
theorem am1{g:PV->PV->Option Bool}{h:PV->PV}{l:List PV}{P:PV->Prop}(H:l.length<=1048576)(t:∀x,x∈l->Ans (g x (h x)) (P x)):Ans (eqF g l (l.map h)) (∀x,x∈l->P x):=by
 unfold eqF;rw[bik,List.length_map,Ah rfl,An,Af];obtain⟨r,z,o⟩:=ahm (step:=eqS g) (λi:Nat=>(l.map h,(),l,((l.length:Nat):Int),((i:Nat):Int))) l.length (Sum.inl false) (Sum.inr ()) (λi=>P (l.getD i .bad)) (λi=>g (l.getD i .bad) (h (l.getD i .bad))) (λi m=>by simp only[eqS,ah0,aaa,m,List.length_map,decide_true,Ad,Ae,acz h m,aal i (by omega)]) (λi m=>t _ (aam m)) (by simp only[eqS,ah0,Nat.lt_irrefl,decide_false,Af])
 have G:aad 0 (eqS g) (l.map h,(),l,((l.length:Nat):Int),(0:Int))=_:=z;rw[azc (P:=P)]at o;rw[G];rcases o with⟨rfl,n⟩|⟨rfl,y⟩
 ·exact ae8 n
 ·exact amu y
theorem ntsA{v:PV}{i:Nat}(m:(v.fld i).asList.length<=1048576):Ans (F111 (v.fld i).asList (aba (v.fld i).asList)) (Bare v i):=by by_cases e:Bare v i;all_goals grind[aba,be6,amu,List.filter_sublist,alp,eqF,F151_c152g,bik,decide_eq_false,F111,F151_c152,ae8]
theorem fldA{f:PV}(o:OkFld f):Ans (F217 f (ofF f)) (Bare f 8):=by have q0:((ofF f).fld 0).asInt=(f.fld 0).asInt:=rfl;have t:((ofF f).fld 1).asStr=(f.fld 1).asStr:=rfl;have z:((ofF f).fld 2).asInt=(f.fld 2).asInt:=rfl;have G:((ofF f).fld 3).asInt=(f.fld 3).asInt:=rfl;have H:(ofF f).fld 4=f.fld 4:=rfl;have I:((ofF f).fld 5).asStr=(f.fld 5).asStr:=rfl;have J:((ofF f).fld 6).asBool=(f.fld 6).asBool:=rfl;have M:(ofF f).fld 7=f.fld 7:=rfl;have O:((ofF f).fld 8).asList=aba (f.fld 8).asList:=rfl;obtain⟨b,e,m⟩:=ntsA (v:=f) (i:=8) o.notes;unfold F217 F323;simp only[q0,t,z,G,H,I,J,M,O,Az,Ad,Aa,e];exact⟨b,rfl,m⟩
theorem bc8{b c:Bool}{P Q:Prop}(m:b=true ↔ P)(o:c=true ↔ Q):Ans (some (bif b then c else false)) (P/\Q):=⟨_,rfl,by cases b<;>cases c<;>simp_all⟩
theorem bgo{b:Bool}{x:Option Bool}{P Q:Prop}(m:b=true ↔ P)(o:Ans x Q):Ans ((bif b then x else some false).bind λy=>some (bif b then y else false)) (P/\Q):=by
 obtain⟨c,rfl,t⟩:=o;cases b with
 |true=>exact bc8 m t
 |false=>exact ae8 λh=>a0w m h.1
theorem msgA{f:PV}(m:OkMsg f):Ans (F143 f (ofM f)) (awn f):=by
 have q0:((ofM f).fld 0).asStr=(f.fld 0).asStr:=rfl;have H:((ofM f).fld 2).asList=(f.fld 2).asList:=rfl;have I:((ofM f).fld 3).asList=(f.fld 3).asList:=rfl;have G:((ofM f).fld 1).asList=(f.fld 1).asList.map ofF:=rfl;have J:((ofM f).fld 4).asList=aba (f.fld 4).asList:=rfl;obtain⟨b,e,o⟩:Ans (F107_c217 (f.fld 1).asList ((f.fld 1).asList.map ofF) ()) (∀x,x∈(f.fld 1).asList->Bare x 8):=am1 m.fields λx z=>fldA (m.field x z);have M:=ntsA (v:=f) (i:=4) m.notes;unfold F143;simp only[q0,H,I,G,J,e,Az,Ad,Aa];cases b with
 |false=>exact ae8 λt=>a0w o t.2
 |true=>simp only[Ad,Aa,atz m.spans,ayy m.gone];grind
theorem itmA{f:PV}(o:OkItem f):Ans (F218 f (ofI f)) (Bare f 2):=by have q0:((ofI f).fld 0).asStr=(f.fld 0).asStr:=rfl;have t:((ofI f).fld 1).asInt=(f.fld 1).asInt:=rfl;have z:((ofI f).fld 2).asList=aba (f.fld 2).asList:=rfl;obtain⟨b,e,m⟩:=ntsA (v:=f) (i:=2) o.notes;unfold F218;simp only[q0,t,z,Az,Ad,Aa,e];exact⟨b,rfl,m⟩
theorem enumA{f:PV}(m:OkEnum f):Ans (F144 f (ofE f)) (awm f):=by have q0:((ofE f).fld 0).asStr=(f.fld 0).asStr:=rfl;have G:((ofE f).fld 1).asBool=(f.fld 1).asBool:=rfl;have I:((ofE f).fld 3).asList=(f.fld 3).asList:=rfl;have H:((ofE f).fld 2).asList=(f.fld 2).asList.map ofI:=rfl;have J:((ofE f).fld 4).asList=aba (f.fld 4).asList:=rfl;have o:Ans (F112_c218 (f.fld 2).asList ((f.fld 2).asList.map ofI) ()) (∀x,x∈(f.fld 2).asList->Bare x 2):=am1 m.items λx z=>itmA (m.item x z);obtain⟨b,e,t⟩:=ntsA (v:=f) (i:=4) m.notes;unfold F144;simp only[q0,G,I,H,J,e,Az,Ad,Aa,atz m.spans];exact bgo t o
theorem mthA{f:PV}(o:OkMeth f):Ans (F219 f (ofT f)) (Bare f 4):=by have q0:((ofT f).fld 0).asStr=(f.fld 0).asStr:=rfl;have t:((ofT f).fld 1).asStr=(f.fld 1).asStr:=rfl;have z:((ofT f).fld 2).asStr=(f.fld 2).asStr:=rfl;have G:((ofT f).fld 3).asInt=(f.fld 3).asInt:=rfl;have H:((ofT f).fld 4).asList=aba (f.fld 4).asList:=rfl;obtain⟨b,e,m⟩:=ntsA (v:=f) (i:=4) o.notes;unfold F219;simp only[q0,t,z,G,H,Az,Ad,Aa,e];exact⟨b,rfl,m⟩
theorem servA{f:PV}(m:OkSvc f):Ans (F145 f (ofV f)) (awo f):=by have q0:((ofV f).fld 0).asStr=(f.fld 0).asStr:=rfl;have G:((ofV f).fld 1).asList=(f.fld 1).asList.map ofT:=rfl;have H:((ofV f).fld 2).asList=aba (f.fld 2).asList:=rfl;have o:Ans (F114_c219 (f.fld 1).asList ((f.fld 1).asList.map ofT) ()) (∀x,x∈(f.fld 1).asList->Bare x 4):=am1 m.meths λx z=>mthA (m.meth x z);obtain⟨b,e,t⟩:=ntsA (v:=f) (i:=2) m.notes;unfold F145;simp only[q0,G,H,e,Az,Ad,Aa];exact bgo t o
theorem bj0{s:PV}(o:SOk s):Ans (F64 s (ofS s)) (a7k s):=by
 have z:Ans (F74_c143 (s.fld 0).asList ((s.fld 0).asList.map ofM) ()) (∀m,m∈(s.fld 0).asList->awn m):=am1 o.len.m λx t=>msgA (o.msg x t);have G:Ans (F76_c144 (s.fld 1).asList ((s.fld 1).asList.map ofE) ()) (∀m,m∈(s.fld 1).asList->awm m):=am1 o.len.e λx t=>enumA (o.enum x t);have a3:Ans (F78_c145 (s.fld 2).asList ((s.fld 2).asList.map ofV) ()) (∀m,m∈(s.fld 2).asList->awo m):=am1 o.len.v λx t=>servA (o.svc x t);have q0:((ofS s).fld 0).asList=(s.fld 0).asList.map ofM:=rfl;have Z:((ofS s).fld 1).asList=(s.fld 1).asList.map ofE:=rfl;have q2:((ofS s).fld 2).asList=(s.fld 2).asList.map ofV:=rfl;have J:∀a b c d e f:PV,(PV.agg [a,b,c,d,e,f]).fld 1=b:=λ_ _ _ _ _ _=>rfl;have M:∀a b c d e f:PV,(PV.agg [a,b,c,d,e,f]).fld 2=c:=λ_ _ _ _ _ _=>rfl;have O:∀a b c d e f:PV,(PV.agg [a,b,c,d,e,f]).fld 3=d:=λ_ _ _ _ _ _=>rfl;have U:∀a b c d e f:PV,(PV.agg [a,b,c,d,e,f]).fld 4=e:=λ_ _ _ _ _ _=>rfl;have V:∀a b c d e f:PV,(PV.agg [a,b,c,d,e,f]).fld 5=f:=λ_ _ _ _ _ _=>rfl;have W:∀l:List PV,(PV.slice l).asList=l:=λ_=>rfl;unfold F64 F99;simp only[J,M,O,U,V,W,q0,Z,q2,ayy (l:=[]) (by simp),Az,Ad,Aa];obtain⟨b,H,X⟩:=z;rw[H,Aa];cases b with
 |false=>exact ae8 λh=>a0w X h.1
 |true=>
  obtain⟨c,I,Y⟩:=G;simp only[Ad,I,Aa];cases c with
  |false=>exact ae8 λh=>a0w Y h.2.1
  |true=>grind
theorem az8{x v:PV}(h:SOk (v.fld 1))(m:aag (v.fld 1)<=1048576):∃b,F28 x v=some b/\F68 x v 7=some b:=by
 obtain⟨b,o⟩:=ai6 h m;unfold F28 F68;rw[anq h,o];cases b with
 |false=>grind
 |true=>
  obtain⟨c,z,H⟩:=bj0 h;obtain⟨d,G,I⟩:=sameA (s:=v.fld 1) m;have t:c=d:=Bool.eq_iff_iff.2 (H.trans I.symm);subst t;have J:((7:Int)==(5:Int))=false:=rfl;have M:((7:Int)==(6:Int))=false:=rfl;simp only[J,M,Af,Ad,Aa,bk6 h o,bba h o,z,G];cases c with
  |false=>grind
  |true=>simp only[Ad,bcp h m,ae0 h m o,Aa];grind
end Go.Ab
namespace Go.Ab
open Go
set_option maxRecDepth 100000
theorem aj4{C:Type}{g:PV->C->Option (Bool×C)}{c:C}{l:List PV}(m:l.length<=1048576)(p:PV->Bool)(h:∀x,x∈l->g x c=some (!p x,c)):cfF g l c=some (!(l.all p),c):=by rw[agb (by omega) (λx=>!p x) h,List.all_eq_not_any_not,Bool.not_not]
theorem bc4(p q:Nat->Bool):∀(k i:Nat),allF (λi=>p i&&q i) i k=(allF p i k&&allF q i k):=by
 intro k;induction k with
 |zero=>intro i;rfl
 |succ k m=>grind[allF]
theorem a4n(p:Nat->Bool):∀(k i:Nat),allF p (i+1) k=allF (λj=>p (j+1)) i k:=by
 intro k;induction k with
 |zero=>intro i;rfl
 |succ k m=>grind[allF]
theorem ai8(f:PV->Bool)(l:List PV):allF (λi=>f (l.getD i .bad)) 0 l.length=l.all f:=aub f .bad l
def limX(x:PV):Bool:=decide (((vsL x).length:Int)<=(32:Int))
theorem gt_le(n:Int):decide (n>(32:Int))=!decide (n<=(32:Int)):=by grind
theorem biw{r:PV}(h:RegOk r):F29 r=some (bif decide (((sbL r).length:Int)>(32:Int))then true else !((sbL r).all limX)):=by
 have t:=h.subs;have q:=abb (step:=(Y3 S29_5)) (λi=>((),((i:Nat):Int),r)) (sbL r).length (λi=>limX (sbA r i)) (.inl (true,r)) (.inr r) (λi m=>by
  simp only[Y3,S29_5,decL i _ m,Ad,aaa,Ah m,Ae,aal i (show i<=1000000000000 by omega),gt_le,limX];grind) (by
  simp only[Y3,S29_5,decN,Af]) _ 0 (Nat.zero_add _)
 rw[ai8 limX]at q;have o:aad 0 ((Y3 S29_5)) ((),(0:Int),r)=_:=q;unfold F29;rw[o];cases decide (((sbL r).length:Int)>(32:Int))with
 |true=>rfl
 |false=>cases(sbL r).all limX<;>rfl
def ordX(x:PV):Bool:=allF (λk=>!((((vsL x).getD k .bad).fld 0).asInt != IntKind.wrap .i64 ((k:Int)+1))) 0 (vsL x).length
theorem bix{r:PV}(h:RegOk r):F30 r=some (allF (λi=>!(upS r i)) 0 (sbL r).length&&(sbL r).all ordX):=by
 have J:=h.subs;have o:∀i,i<(sbL r).length->aad 0 ((Y4 S30_8)) ((),((i:Nat):Int),(0:Int),r)=some (bif ordX (sbA r i)then .inr ((),((i:Nat):Int),r)else .inl (false,r)):=λi m=>by
  have O:(vsL (sbA r i)).length<=1048576:=h.vers _ (aam m);have q:=abb (step:=(Y4 S30_8)) (λk=>((),((i:Nat):Int),((k:Nat):Int),r)) (vsL (sbA r i)).length (λk=>!((((vsL (sbA r i)).getD k .bad).fld 0).asInt != IntKind.wrap .i64 ((k:Int)+1))) (.inl (false,r)) (.inr ((),((i:Nat):Int),r)) (λk z=>by
   simp only[Y4,S30_8,aaa,Ah m,decL k _ z,Ad,Ah z,Ae];cases(((vsA r i k).fld 0).asInt != IntKind.wrap .i64 ((k:Int)+1))
   ·simp only[Af,Ao,Ad,aal k (show k<=1000000000000 by omega)]
   ·rfl) (by
   simp only[Y4,S30_8,aaa,Ah m,Ae,decN,Ad,Af]) _ 0 (Nat.zero_add _)
  exact q
 have q:=abb (step:=(Y3 S30_3)) (λi=>((),((i:Nat):Int),r)) (sbL r).length (λi=>!(upS r i)&&ordX (sbA r i)) (.inl (false,r)) (.inr r) (λi m=>by
  have G:imp (decide ((i:Int)>(0:Int))) (aab (IntKind.wrap .i64 ((i:Int)-1)) (sbL r).length)=true:=a2y m J;have t:(IntKind.wrap .i64 ((i:Int)-1)).toNat=i-1\/i=0:=by
   by_cases I:i=0
   ·exact Or.inr I
   ·left;rw[ain (by omega) (by omega)];rfl
  simp only[Y3,S30_3,decL i _ m,Ad,aaa,Ah m,Ae,au1,G,o i m];have H:(bif decide ((i:Int)>(0:Int))then(Op.bytesLess ((sbA r i).fld 0).asStr (((sbL r).getD (IntKind.wrap .i64 ((i:Int)-1)).toNat .bad).fld 0).asStr||((sbA r i).fld 0).asStr==(((sbL r).getD (IntKind.wrap .i64 ((i:Int)-1)).toNat .bad).fld 0).asStr)else false)=upS r i:=by unfold upS;rcases t with t|rfl;all_goals grind
  rw[H];cases upS r i with
  |true=>rfl
  |false=>
   simp only[Af,Aa,Ao,Bool.true_and];cases ordX (sbA r i)with
   |true=>simp only[Ad,aa6,aal i (show i<=1000000000000 by omega)]
   |false=>rfl) (by
  simp only[Y3,S30_3,decN,Af]) _ 0 (Nat.zero_add _)
 rw[bc4,ai8 ordX]at q;have M:aad 0 ((Y3 S30_3)) ((),(0:Int),r)=_:=q;unfold F30;rw[M,Aa];cases(allF (λi=>!(upS r i)) 0 (sbL r).length&&(sbL r).all ordX)<;>rfl
def ascS(l:List PV)(k:Nat):Bool:=Op.bytesLess ((l.getD k .bad).fld 0).asStr ((l.getD (k+1) .bad).fld 0).asStr
theorem blx(r:PV):∀n,allF (λi=>!(upS r i)) 0 n=allF (ascS (sbL r)) 0 (n-1)
 |0=>rfl
 |n+1=>by
  have e:allF (λi=>!(upS r i)) 0 (n+1)=allF (λi=>!(upS r i)) (0+1) n:=by have:upS r 0=false:=rfl;simp only[allF,this,Ao,Bool.true_and]
  rw[e,a4n,Nat.add_sub_cancel];refine a4l n 0 λj _ _=>?_;unfold upS ascS;rw[Ah (show(((j+1:Nat)):Int)>0 by omega),Ad,Nat.add_sub_cancel];grind[Go.Proofs.bytesLess_eq]
theorem bip{l:List PV}(t:l.length<=1048576):F21 l=some (allF (ascS l) 0 (l.length-1)):=by
 unfold F21;have q:aad 0 (Y2 S21_3) (l,(1:Int))=some (bif allF (ascS l) 0 (l.length-1)then .inr ()else .inl false):=by
  by_cases m:l.length=0
  ·rw[show l.length-1=0 by omega];refine aae (x:=(l,(1:Int))) ?_;grind[Y2,S21_3,allF]
  ·exact abb (step:=(Y2 S21_3)) (λk=>(l,((k+1:Nat):Int))) (l.length-1) (ascS l) (.inl false) (.inr ()) (λk o=>by
    have w:IntKind.wrap .i64 (((k+1:Nat):Int)-1)=((k:Nat):Int):=by rw[ain (by omega) (by omega)];rfl
    simp only[Y2,S21_3,decL (k+1) _ (show k+1<l.length by omega),Ad,w,aaa,Ah (show k<l.length by omega),Ah (show k+1<l.length by omega),Ae,aal (k+1) (show k+1<=1000000000000 by omega),ascS];grind) (by
    rw[show l.length-1+1=l.length by omega];simp only[Y2,S21_3,decN,Af]) _ 0 (Nat.zero_add _)
 rw[q];cases allF (ascS l) 0 (l.length-1)<;>rfl
theorem bir{x:PV}(t:(vsL x).length<=1048576):F22 x=some (ordX x):=by
 have q:=abb (step:=(Y4 S22_3)) (λk=>(vsL x,((vsL x).length:Int),((k:Nat):Int),x)) (vsL x).length (λk=>!((((vsL x).getD k .bad).fld 0).asInt != IntKind.wrap .i64 ((k:Int)+1))) (.inl (false,x)) (.inr x) (λk m=>by
  simp only[Y4,S22_3,decL k _ m,Ad,aaa,Ah m,Ae];cases((((vsL x).getD k .bad).fld 0).asInt != IntKind.wrap .i64 ((k:Int)+1))
  ·simp only[Af,Ao,Ad,aal k (show k<=1000000000000 by omega)]
  ·rfl) (by
  simp only[Y4,S22_3,decN,Af]) _ 0 (Nat.zero_add _)
 have o:aad 0 (Y4 S22_3) (vsL x,((vsL x).length:Int),(0:Int),x)=some (bif ordX x then .inr x else .inl (false,x)):=q;unfold F22;dsimp only;rw[o];cases ordX x<;>rfl
def namX(x:PV):Bool:=aes (x.fld 0).asStr&&aes (x.fld 1).asStr
theorem biq{x:PV}(m:(x.fld 0).asStr.length<=1048576)(o:(x.fld 1).asStr.length<=1048576):F23 x=some (namX x):=by grind[F23,aln,namX,aes]
def mdB(a:Int):Bool:=bif (bif (decide (a>=(0:Int)))then(decide (a<=(7:Int)))else false)then(a != (4:Int))else false
def fmB(a:Int):Bool:=bif (decide (a>=(1:Int)))then(decide (a<=(7:Int)))else false
def rgtB(x:PV):Bool:=(mdB (x.fld 2).asInt&&fmB (x.fld 3).asInt)&&allF (λk=>stB ((vsL x).getD k .bad)) 0 (vsL x).length
theorem biy{x:PV}(h:(vsL x).length<=1048576):F32 x=some (rgtB x):=by
 have q:=abb (step:=(Y3 S32_5)) (λi=>((),((i:Nat):Int),x)) (vsL x).length (λi=>stB ((vsL x).getD i .bad)) (.inl (false,x)) (.inr x) (λi m=>by
  simp only[Y3,S32_5,decL i _ m,Ad,aaa,Ah m,Ae,aal i (show i<=1000000000000 by omega),stB];grind) (by
  simp only[Y3,S32_5,decN,Af]) _ 0 (Nat.zero_add _)
 have z:aad 0 (Y3 S32_5) ((),(0:Int),x)=_:=q;have t:F66 (x.fld 2).asInt=some (mdB (x.fld 2).asInt):=rfl;have o:F67 (x.fld 3).asInt=some (fmB (x.fld 3).asInt):=rfl;unfold F32;rw[t,o,z,Aa];unfold rgtB;cases mdB (x.fld 2).asInt with
 |false=>rfl
 |true=>
  cases fmB (x.fld 3).asInt with
  |false=>rfl
  |true=>cases allF (λk=>stB ((vsL x).getD k .bad)) 0 (vsL x).length<;>rfl
theorem st_eq(s u:Int):(!(bif (bif (bif (decide (s<(1:Int)))then true else(decide (s>(3:Int))))then true else(!((s==(2:Int))==(decide (u>=(1:Int))))))then true else(bif (s != (2:Int))then(u != (0:Int))else false)))=
 !(bif (bif (bif (decide (s<(1:Int)))then true else(decide (s>(3:Int))))then true else(bif (s==(2:Int))then(decide (u<(1:Int)))else false))then true else(bif (s != (2:Int))then(u != (0:Int))else false)):=by
 grind
theorem md_eq(a:Int):F38 a=some (mdB a):=by
 by_cases h:0<=a/\a<=7
 ·rcases(show a=0\/a=1\/a=2\/a=3\/a=4\/a=5\/a=6\/a=7 by omega)with rfl|rfl|rfl|rfl|rfl|rfl|rfl|rfl<;>rfl
 grind[F38,mdB,decide_eq_true,decide_eq_false]
theorem bio{x:PV}(z:(vsL x).length<=1048576):F24 x=some (rgtB x):=by
 have q:=abb (step:=(Y5 S24_3)) (λk=>((),vsL x,((vsL x).length:Int),((k:Nat):Int),x)) (vsL x).length (λk=>stB ((vsL x).getD k .bad)) (.inl (false,x)) (.inr ((),x)) (λk m=>by
  have e:=st_eq (((vsL x).getD k .bad).fld 3).asInt (((vsL x).getD k .bad).fld 4).asInt;simp only[Y5,S24_3,decL k _ m,Ad,aaa,Ah m,Ae,aal k (show k<=1000000000000 by omega),stB];grind) (by
  simp only[Y5,S24_3,decN,Af]) _ 0 (Nat.zero_add _)
 have t:aad 0 (Y5 S24_3) ((),vsL x,((vsL x).length:Int),(0:Int),x)=_:=q;have o:F39 (x.fld 3).asInt=some (fmB (x.fld 3).asInt):=rfl;unfold F24;dsimp only;rw[t,Aa];unfold rgtB;cases allF (λk=>stB ((vsL x).getD k .bad)) 0 (vsL x).length with
 |false=>simp only[Af,Bool.and_false];rfl
 |true=>simp only[Ad,Bool.and_true,aa6,md_eq,o,Aa];grind
noncomputable def whB(n:Int)(x v:PV):Bool:=(F68 x v n).getD false
theorem awj{x v:PV}{n:Int}(h:SOk (v.fld 1))(m:aag (v.fld 1)<=1048576):F68 x v n=some (whB n x v):=by obtain⟨b,e,_⟩:=ay7 (x:=x) (n:=n) h m;grind[whB]
theorem bfh{s:PV}{nm:Bn}(J:(s.fld 0).asList.length<=1048576):∃y,F102 s nm=some y/\y.2=hasB s nm:=by
 generalize H:(PV.agg [(PV.str ([]:Bn)),(PV.slice []),(PV.slice []),(PV.slice []),(PV.slice [])])=z;have q:=aea (step:=(Y6 S102_3)) (λi=>(nm,(),(),((i:Nat):Int),s,z)) (s.fld 0).asList (λm=>bif (m.fld 0).asStr==nm then some m else none) (λm=>.inl ((),true,s,m)) (.inr ((),s,z)) (λi o=>by
  simp only[Y6,S102_3,decL i _ o,Ad,aaa,Ah o,Ae,aal i (show i<=1000000000000 by omega)];grind) (by
  simp only[Y6,S102_3,decN,Af]) _ 0 (Nat.zero_add _)
 rw[Ar]at q;have I:aad 0 (Y6 S102_3) (nm,(),(),(0:Int),s,z)=_:=q;unfold F102;rw[H,I,Aa];cases G:(s.fld 0).asList.findSome? (λm=>bif (m.fld 0).asStr==nm then some m else none)with
 |none=>refine⟨_,rfl,?_⟩;grind[List.findSome?_eq_none_iff,hasB,List.any_eq_false]
 |some m=>refine⟨_,rfl,?_⟩;obtain⟨a,t,M⟩:=List.exists_of_findSome?_eq_some G;symm;refine List.any_eq_true.2 ⟨a,t,?_⟩;grind
theorem bfa{x v:PV}(h:SOk (v.fld 1))(o:aag (v.fld 1)<=1048576):F26 x v=some (whB 5 x v):=by rw[<-awj h o];obtain⟨y,t,e⟩:=bfh (nm:=(x.fld 1).asStr) h.len.m;unfold F26 F68;rw[hasP h.len.m,t,Aa,<-e];rfl
theorem bis{x v:PV}(h:SOk (v.fld 1))(m:aag (v.fld 1)<=1048576):F27 x v=some (whB 6 x v):=by rw[<-awj h m];grind[F27,F68,a6m]
theorem be9{x v:PV}(h:SOk (v.fld 1))(m:aag (v.fld 1)<=1048576):F28 x v=some (whB 7 x v):=by obtain⟨b,o,t⟩:=az8 (x:=x) h m;grind[awj]
theorem biz{r:PV}{n:Int}(h:RegOk r):F33 r n=some ((sbL r).all λx=>(vsL x).all (whB n x)):=by
 have H:=h.subs;have o:∀i,i<(sbL r).length->aad 0 (Y5 S33_6) (n,(),((i:Nat):Int),(0:Int),r)=some (bif (vsL (sbA r i)).all (whB n (sbA r i))then .inr (n,(),((i:Nat):Int),r)else .inl (false,r)):=λi m=>by
  have G:(vsL (sbA r i)).length<=1048576:=h.vers _ (aam m);have q:=abb (step:=(Y5 S33_6)) (λk=>(n,(),((i:Nat):Int),((k:Nat):Int),r)) (vsL (sbA r i)).length (λk=>whB n (sbA r i) ((vsL (sbA r i)).getD k .bad)) (.inl (false,r)) (.inr (n,(),((i:Nat):Int),r)) (λk t=>by
   have e:F68 (sbA r i) (vsA r i k) n=some (whB n (sbA r i) (vsA r i k)):=awj (h.sok _ (aam m) _ (aam t)) (h.sbk _ (aam m) _ (aam t));simp only[Y5,S33_6,aaa,Ah m,decL k _ t,Ad,Ah t,Ae,aal k (show k<=1000000000000 by omega),e,Aa];grind) (by
   simp only[Y5,S33_6,aaa,Ah m,Ae,decN,Ad,Af]) _ 0 (Nat.zero_add _)
  rw[ai8 (whB n (sbA r i))]at q;exact q
 have q:=abb (step:=(Y4 S33_3)) (λi=>(n,(),((i:Nat):Int),r)) (sbL r).length (λi=>(vsL (sbA r i)).all (whB n (sbA r i))) (.inl (false,r)) (.inr r) (λi m=>by
  simp only[Y4,S33_3,decL i _ m,Ad,o i m,Aa];cases(vsL (sbA r i)).all (whB n (sbA r i))with
  |true=>simp only[Ad,aa6,aal i (show i<=1000000000000 by omega)]
  |false=>rfl) (by
  simp only[Y4,S33_3,decN,Af]) _ 0 (Nat.zero_add _)
 rw[ai8 (λx=>(vsL x).all (whB n x))]at q;have z:aad 0 (Y4 S33_3) (n,(),(0:Int),r)=_:=q;unfold F33;rw[z,Aa];cases(sbL r).all λx=>(vsL x).all (whB n x)<;>rfl
theorem bhf{r:PV}(h:RegOk r):F6 r=F7 r:=by
 have t:=h.subs;have M:F19_c20 r ()=some ((sbL r).all limX):=by have e:F59_c60 (sbL r) () ()=some (!((sbL r).all limX),()):=aj4 t limX λx m=>rfl;unfold F19_c20;grind
 have O:F19_c22 r ()=some ((sbL r).all ordX):=by
  have e:F59_c60_v1 (sbL r) () ()=some (!((sbL r).all ordX),()):=aj4 t ordX λx m=>by show F60_v1 x () ()=_;unfold F60_v1;rw[bir (h.vers x m)];rfl
  unfold F19_c22;grind
 have U:F19_c23 r ()=some ((sbL r).all namX):=by
  have e:F59_c60_v2 (sbL r) () ()=some (!((sbL r).all namX),()):=aj4 t namX λx m=>by show F60_v2 x () ()=_;unfold F60_v2;rw[biq (h.name x m) (h.root x m)];rfl
  unfold F19_c23;grind
 have V:F19_c24 r ()=some ((sbL r).all rgtB):=by
  have e:F59_c60_v3 (sbL r) () ()=some (!((sbL r).all rgtB),()):=aj4 t rgtB λx m=>by show F60_v3 x () ()=_;unfold F60_v3;rw[bio (h.vers x m)];rfl
  unfold F19_c24;grind
 have v1:∀x,x∈sbL r->F61 x () ()=some ((vsL x).all (whB 5 x),()):=λx m=>by
  have e:F62_c63 (vsL x) () () x=some (!((vsL x).all (whB 5 x)),(),x):=aj4 (h.vers x m) (whB 5 x) λv z=>by show F63 v () () () x=_;unfold F63;rw[bfa (h.sok x m v z) (h.sbk x m v z)];rfl
  unfold F61;grind
 have v2:∀x,x∈sbL r->F61_v1 x () ()=some ((vsL x).all (whB 6 x),()):=λx m=>by
  have e:F62_c63_v1 (vsL x) () () x=some (!((vsL x).all (whB 6 x)),(),x):=aj4 (h.vers x m) (whB 6 x) λv z=>by show F63_v1 v () () () x=_;unfold F63_v1;rw[bis (h.sok x m v z) (h.sbk x m v z)];rfl
  unfold F61_v1;grind
 have v3:∀x,x∈sbL r->F61_v2 x () ()=some ((vsL x).all (whB 7 x),()):=λx m=>by
  have e:F62_c63_v2 (vsL x) () () x=some (!((vsL x).all (whB 7 x)),(),x):=aj4 (h.vers x m) (whB 7 x) λv z=>by show F63_v2 v () () () x=_;unfold F63_v2;rw[be9 (h.sok x m v z) (h.sbk x m v z)];rfl
  unfold F61_v2;grind
 have W:F19_c61 r () ()=some ((sbL r).all (λx=>(vsL x).all (whB 5 x)),()):=by
  have e:F59_c60_v4 (sbL r) () () ()=some (!((sbL r).all λx=>(vsL x).all (whB 5 x)),(),()):=aj4 t (λx=>(vsL x).all (whB 5 x)) λx m=>by show F60_v4 x () () ()=_;grind[F60_v4]
  unfold F19_c61;grind
 have X:F19_c61_v1 r () ()=some ((sbL r).all (λx=>(vsL x).all (whB 6 x)),()):=by
  have e:F59_c60_v5 (sbL r) () () ()=some (!((sbL r).all λx=>(vsL x).all (whB 6 x)),(),()):=aj4 t (λx=>(vsL x).all (whB 6 x)) λx m=>by show F60_v5 x () () ()=_;grind[F60_v5]
  unfold F19_c61_v1;grind
 have Y:F19_c61_v2 r () ()=some ((sbL r).all (λx=>(vsL x).all (whB 7 x)),()):=by
  have e:F59_c60_v6 (sbL r) () () ()=some (!((sbL r).all λx=>(vsL x).all (whB 7 x)),(),()):=aj4 t (λx=>(vsL x).all (whB 7 x)) λx m=>by show F60_v6 x () () ()=_;grind[F60_v6]
  unfold F19_c61_v2;grind
 have J:=abb (step:=(Y3 S7_7)) (λi=>((),((i:Nat):Int),r)) (sbL r).length (λi=>namX (sbA r i)) (.inl ((8:Int),r)) (.inr ((),r)) (λi o=>by
  have e1:=ac8 _ (h.name _ (aam o));have e2:=ac8 _ (h.root _ (aam o));simp only[Y3,S7_7,decL i _ o,Ad,aaa,Ah o,Ae,au1,e1,e2,Aa,aal i (show i<=1000000000000 by omega),namX];grind) (by
  simp only[Y3,S7_7,decN,Af]) _ 0 (Nat.zero_add _)
 rw[ai8 namX]at J;have I:aad 0 (Y3 S7_7) ((),(0:Int),r)=_:=J;have G:=abb (step:=(Y3 S7_14)) (λi=>((),((i:Nat):Int),r)) (sbL r).length (λi=>rgtB (sbA r i)) (.inl ((1:Int),r)) (.inr ((),r)) (λi o=>by
  have e:F32 (sbA r i)=some (rgtB (sbA r i)):=biy (h.vers _ (aam o));simp only[Y3,S7_14,decL i _ o,Ad,aaa,Ah o,Ae,aal i (show i<=1000000000000 by omega),e,Aa];grind) (by
  simp only[Y3,S7_14,decN,Af]) _ 0 (Nat.zero_add _)
 rw[ai8 rgtB]at G;have H:aad 0 (Y3 S7_14) ((),(0:Int),r)=_:=G;have Z:F21 (r.fld 1).asList=some (allF (ascS (sbL r)) 0 ((sbL r).length-1)):=bip t;unfold F6 F7 F25_c26 F25_c27 F25_c28;simp only[biw h,bix h,blx,M,O,U,V,W,X,Y,Z,I,Aa];cases decide (((sbL r).length:Int)>(32:Int))with
 |true=>rfl
 |false=>
 cases(sbL r).all limX with
 |false=>rfl
 |true=>
 cases allF (ascS (sbL r)) 0 ((sbL r).length-1)with
 |false=>rfl
 |true=>
 cases(sbL r).all ordX with
 |false=>rfl
 |true=>
 cases(sbL r).all namX with
 |false=>rfl
 |true=>
 simp only[An,Ao,Bool.and_true,Ad,Af,Aa,aa6];cases decide ((r.fld 0).asInt<(0:Int))with
 |true=>rfl
 |false=>
 simp only[An,Ao,Ad,Af,Aa,H];cases(sbL r).all rgtB with
 |false=>rfl
 |true=>
 simp only[An,Ao,Ad,Af,Aa,aa6,biz h]
end Go.Ab
