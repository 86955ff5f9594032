/- Small registries: the guard ends; the law of chapter 39's examination. -/
import Derived.Test.YtofplaamkkpciaaGreatDoorPRg1R
set_option linter.unusedVariables false
set_option linter.unusedSimpArgs false
set_option linter.unnecessarySimpa false
namespace Go.Ab
open Go
set_option maxRecDepth 100000
theorem adi{t H:Type}{step:t->Option (t⊕H)}(st:Int->Nat->t)(Q:H->Prop)(n:Nat)(h:∀l i,i<=n->(∃r,step (st l i)=some (.inr r)/\Q r)\/(i<n/\∃o,step (st l i)=some (.inl (st o (i+1)))))(l:Int):∃r,aap step (st l 0)=some r/\Q r:=by
 have G:∀k i l,i+k=n->∃r,aap step (st l i)=some r/\Q r:=by
  intro k;induction k with
  |zero=>intro i l I;rcases h l i (by omega)with⟨r,m,z⟩|⟨m,_⟩;all_goals grind[aae]
  |succ k J=>
   intro i l I;rcases h l i (by omega)with⟨r,m,z⟩|⟨m,o,z⟩
   ·grind[aae]
   ·obtain⟨r,M,O⟩:=J (i+1) o (by omega);grind[aan]
 simp_all
theorem ajd{l:List PV}(z:l.length<=1048576)(left:Int):∃n,F34 l left=some n:=by
 obtain⟨r,o,_⟩:=adi (step:=(Y3 S34_3)) (λ(_:Int)i=>(l,left,((i:Nat):Int))) (λ_=>True) l.length (λ_ i t=>by
  rcases Nat.lt_or_ge i l.length with h|h
  ·simp only[Y3,S34_3,decL i _ h,Ad,aaa,Ah h,Ae,aal i (show i<=1000000000000 by omega)];cases decide ((i:Int)<=left)with
   |false=>grind
   |true=>
    simp only[Ad];generalize(bif (bif _ then true else _)then true else _)=c;cases c with
    |true=>grind
    |false=>simp_all
  ·obtain rfl:i=l.length:=by omega
   simp only[Y3,S34_3,decN,Af];grind) 0
 have m:aad 0 (Y3 S34_3) (l,left,(0:Int))=some r:=o;unfold F34;rw[m];cases r<;>exact⟨_,rfl⟩
theorem ahf{l:List PV}(z:l.length<=1048576)(left:Int):∃n,F35 l left=some n:=by
 obtain⟨r,o,_⟩:=adi (step:=(Y3 S35_3)) (λ(_:Int)i=>(l,left,((i:Nat):Int))) (λ_=>True) l.length (λ_ i t=>by
  rcases Nat.lt_or_ge i l.length with h|h
  ·simp only[Y3,S35_3,decL i _ h,Ad,aaa,Ah h,Ae,aal i (show i<=1000000000000 by omega)];cases decide ((i:Int)<=left)with
   |false=>grind
   |true=>
    simp only[Ad];cases decide (((l.getD i .bad).asStr.length:Int)>(300:Int))with
    |true=>grind
    |false=>simp_all
  ·obtain rfl:i=l.length:=by omega
   simp only[Y3,S35_3,decN,Af];grind) 0
 have m:aad 0 (Y3 S35_3) (l,left,(0:Int))=some r:=o;unfold F35;rw[m];cases r<;>exact⟨_,rfl⟩
theorem bca{s m:PV}(o:OkMsg m)(k left:Int):∃r,aad 0 (Y7 S8_11) ((),left,k,(),(0:Int),s,m)=some r/\∃l,r=((),l,k,s,m):=by
 have H:=o.fields;exact adi (step:=(Y7 S8_11)) (λleft i=>((),left,k,(),((i:Nat):Int),s,m)) (λr=>∃l,r=((),l,k,s,m)) (m.fld 1).asList.length (λleft i G=>by
  rcases Nat.lt_or_ge i (m.fld 1).asList.length with h|h
  ·simp only[Y7,S8_11,decL i _ h,Ad,aaa,Ah h,Ae,aal i (show i<=1000000000000 by omega)];cases decide (left>=0)with
   |false=>grind
   |true=>
    obtain⟨a,t⟩:=ajd (o.field _ (aam h)).notes left;obtain⟨b,z⟩:=ahf (l:=[(PV.str (((m.fld 1).asList.getD i .bad).fld 1).asStr),(PV.str ((((m.fld 1).asList.getD i .bad).fld 4).fld 1).asStr),(PV.str (((m.fld 1).asList.getD i .bad).fld 5).asStr)]) (by simp) left;simp only[Ad,t,z,Aa];cases decide ((((((m.fld 1).asList.getD i .bad).fld 7).fld 2).asStr.length:Int)>(300:Int))with
    |true=>grind
    |false=>grind
  ·obtain rfl:i=(m.fld 1).asList.length:=by omega
   simp only[Y7,S8_11,decN,Af];grind) left
theorem bcb{s m:PV}(o:OkEnum m)(k left:Int):∃r,aad 0 (Y7 S8_23) ((),left,k,(),(0:Int),s,m)=some r/\∃l,r=((),l,k,s,m):=by
 have H:=o.items;exact adi (step:=(Y7 S8_23)) (λleft i=>((),left,k,(),((i:Nat):Int),s,m)) (λr=>∃l,r=((),l,k,s,m)) (m.fld 2).asList.length (λleft i G=>by
  rcases Nat.lt_or_ge i (m.fld 2).asList.length with h|h
  ·simp only[Y7,S8_23,decL i _ h,Ad,aaa,Ah h,Ae,aal i (show i<=1000000000000 by omega)];cases decide (left>=0)with
   |false=>grind
   |true=>obtain⟨a,t⟩:=ajd (o.item _ (aam h)).notes left;obtain⟨b,z⟩:=ahf (l:=[(PV.str (((m.fld 2).asList.getD i .bad).fld 0).asStr)]) (by simp) left;simp_all
  ·obtain rfl:i=(m.fld 2).asList.length:=by omega
   simp only[Y7,S8_23,decN,Af];grind) left
theorem bcc{s m:PV}(o:OkSvc m)(k left:Int):∃r,aad 0 (Y7 S8_32) ((),left,k,(),(0:Int),s,m)=some r/\∃l,r=((),l,k,s,m):=by
 have H:=o.meths;exact adi (step:=(Y7 S8_32)) (λleft i=>((),left,k,(),((i:Nat):Int),s,m)) (λr=>∃l,r=((),l,k,s,m)) (m.fld 1).asList.length (λleft i G=>by
  rcases Nat.lt_or_ge i (m.fld 1).asList.length with h|h
  ·simp only[Y7,S8_32,decL i _ h,Ad,aaa,Ah h,Ae,aal i (show i<=1000000000000 by omega)];cases decide (left>=0)with
   |false=>grind
   |true=>obtain⟨a,t⟩:=ajd (o.meth _ (aam h)).notes left;obtain⟨b,z⟩:=ahf (l:=[(PV.str (((m.fld 1).asList.getD i .bad).fld 0).asStr),(PV.str (((m.fld 1).asList.getD i .bad).fld 1).asStr),(PV.str (((m.fld 1).asList.getD i .bad).fld 2).asStr)]) (by simp) left;simp_all
  ·obtain rfl:i=(m.fld 1).asList.length:=by omega
   simp only[Y7,S8_32,decN,Af];grind) left
theorem a1i{s:PV}(z:SOk s):∃b,F8 s=some b:=by
 have X:=z.len.m;have l1:=z.len.e;have l2:=z.len.v;have J:∀left,∃r,aad 0 (Y4 S8_6) ((),left,(0:Int),s)=some r/\∃l,r=((),l,s):=adi (step:=(Y4 S8_6)) (λleft i=>((),left,((i:Nat):Int),s)) (λr=>∃l,r=((),l,s)) (s.fld 0).asList.length (λleft i I=>by
  rcases Nat.lt_or_ge i (s.fld 0).asList.length with h|h
  ·have o:=z.msg _ (aam h);simp only[Y4,S8_6,decL i _ h,Ad,aaa,Ah h,Ae];cases decide (left>=0)with
   |false=>grind
   |true=>obtain⟨a,G⟩:=ajd o.notes left;obtain⟨b,V⟩:=ahf o.gone left;obtain⟨c,H⟩:=ahf (l:=[(PV.str (((s.fld 0).asList.getD i .bad).fld 0).asStr)]) (by simp) left;simp only[Ad,G,V,H,Aa];obtain⟨r,t,l,rfl⟩:=bca (s:=s) o ((i:Nat):Int) (IntKind.wrap .i64 ((IntKind.wrap .i64 ((IntKind.wrap .i64 ((IntKind.wrap .i64 (left-a))-((((s.fld 0).asList.getD i .bad).fld 2).asList.length:Int)))-b))-c));rw[t,Aa];simp only[aal i (show i<=1000000000000 by omega)];grind
  ·obtain rfl:i=(s.fld 0).asList.length:=by omega
   simp only[Y4,S8_6,decN,Af];grind)
 have M:∀left,∃r,aad 0 (Y4 S8_18) ((),left,(0:Int),s)=some r/\∃l,r=((),l,s):=adi (step:=(Y4 S8_18)) (λleft i=>((),left,((i:Nat):Int),s)) (λr=>∃l,r=((),l,s)) (s.fld 1).asList.length (λleft i I=>by
  rcases Nat.lt_or_ge i (s.fld 1).asList.length with h|h
  ·have o:=z.enum _ (aam h);simp only[Y4,S8_18,decL i _ h,Ad,aaa,Ah h,Ae];cases decide (left>=0)with
   |false=>grind
   |true=>obtain⟨a,G⟩:=ajd o.notes left;obtain⟨c,H⟩:=ahf (l:=[(PV.str (((s.fld 1).asList.getD i .bad).fld 0).asStr)]) (by simp) left;simp only[Ad,G,H,Aa];obtain⟨r,t,l,rfl⟩:=bcb (s:=s) o ((i:Nat):Int) (IntKind.wrap .i64 ((IntKind.wrap .i64 ((IntKind.wrap .i64 (left-a))-((((s.fld 1).asList.getD i .bad).fld 3).asList.length:Int)))-c));rw[t,Aa];simp only[aal i (show i<=1000000000000 by omega)];grind
  ·obtain rfl:i=(s.fld 1).asList.length:=by omega
   simp only[Y4,S8_18,decN,Af];grind)
 have O:∀left,∃r,aad 0 (Y4 S8_27) ((),left,(0:Int),s)=some r/\∃l,r=(l,s):=adi (step:=(Y4 S8_27)) (λleft i=>((),left,((i:Nat):Int),s)) (λr=>∃l,r=(l,s)) (s.fld 2).asList.length (λleft i I=>by
  rcases Nat.lt_or_ge i (s.fld 2).asList.length with h|h
  ·have o:=z.svc _ (aam h);simp only[Y4,S8_27,decL i _ h,Ad,aaa,Ah h,Ae];cases decide (left>=0)with
   |false=>grind
   |true=>obtain⟨a,G⟩:=ajd o.notes left;obtain⟨c,H⟩:=ahf (l:=[(PV.str (((s.fld 2).asList.getD i .bad).fld 0).asStr)]) (by simp) left;simp only[Ad,G,H,Aa];obtain⟨r,t,l,rfl⟩:=bcc (s:=s) o ((i:Nat):Int) (IntKind.wrap .i64 ((IntKind.wrap .i64 (left-a))-c));rw[t,Aa];simp only[aal i (show i<=1000000000000 by omega)];grind
  ·obtain rfl:i=(s.fld 2).asList.length:=by omega
   simp only[Y4,S8_27,decN,Af];grind)
 unfold F8;generalize(bif (bif (bif _ then true else _)then true else _)then true else _)=c;cases c with
 |true=>grind
 |false=>rw[Af];obtain⟨r1,t,l,rfl⟩:=J 400;rw[t,Aa];obtain⟨r2,U,l2,rfl⟩:=M l;dsimp only;rw[U,Aa];obtain⟨r3,W,l3,rfl⟩:=O l2;simp_all
theorem a1j{r:PV}(h:RegOk r):∃b,F4 r=some b:=by
 have W:=h.subs;have o:∀x,x∈sbL r->∀(left i:Int),∃z,aad 0 (Y7 S4_13) ((),left,i,(),(0:Int),r,x)=some z/\(z=.inl (false,r,x)\/z=.inr ((),left,i,r,x)):=λx M left i=>by
  have X:=h.vers x M;refine adi (step:=(Y7 S4_13)) (λ(_:Int)k=>((),left,i,(),((k:Nat):Int),r,x)) (λz=>z=.inl (false,r,x)\/z=.inr ((),left,i,r,x)) (vsL x).length (λ_ k V=>?_) 0;rcases Nat.lt_or_ge k (vsL x).length with m|J
  ·obtain⟨b,O⟩:=a1i (h.sok x M _ (aam m));have I:F8 (((x.fld 4).asList.getD k .bad).fld 1)=some b:=O;simp only[Y7,S4_13,decL k _ m,Ad,aaa,Ah m,Ae,aal k (show k<=1000000000000 by omega),I,Aa];cases b with
   |false=>grind
   |true=>simp_all
  ·obtain rfl:k=(vsL x).length:=by omega
   simp only[Y7,S4_13,decN,Af];grind
 obtain⟨z,t,H⟩:=adi (step:=(Y4 S4_6)) (λleft i=>((),left,((i:Nat):Int),r)) (λz=>(∃b,z=.inl (b,r))\/z=.inr r) (sbL r).length (λleft i U=>by
  rcases Nat.lt_or_ge i (sbL r).length with m|J
  ·simp only[Y4,S4_6,decL i _ m,Ad,aaa,Ah m,Ae];generalize(bif (bif _ then true else _)then true else _)=c;cases c with
   |true=>grind
   |false=>
    rw[Af];obtain⟨z,t,H⟩:=o _ (aam m) (IntKind.wrap .i64 (left-((((sbL r).getD i .bad).fld 4).asList.length:Int))) ((i:Nat):Int);rw[t,Aa];rcases H with rfl|rfl
    ·exact Or.inl ⟨_,rfl,Or.inl ⟨_,rfl⟩⟩
    ·simp only[aa6,aal i (show i<=1000000000000 by omega)];grind
  ·obtain rfl:i=(sbL r).length:=by omega
   simp only[Y4,S4_6,decN,Af];grind) 40
 have G:aad 0 (Y4 S4_6) ((),(40:Int),(0:Int),r)=some z:=t;unfold F4;cases decide (((sbL r).length:Int)>(40:Int))with
 |true=>grind
 |false=>rw[Af,G,Aa];rcases H with⟨b,rfl⟩|rfl<;>exact⟨_,rfl⟩
theorem aso{r:PV}(h:RegOk r):F3 r=some true:=by obtain⟨b,o⟩:=a1j h;obtain⟨e,t,_⟩:=a8l h;have m:at7 0=some true:=rfl;unfold F3;rw[o,bhf h,t,m];grind
end Go.Ab
