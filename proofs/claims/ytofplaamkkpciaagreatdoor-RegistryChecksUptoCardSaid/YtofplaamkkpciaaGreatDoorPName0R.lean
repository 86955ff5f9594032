/- Names: parts, full names, keywords; loops that look for the first. -/
import Derived.Test.YtofplaamkkpciaaGreatDoorPUtfR
set_option linter.unusedVariables false
set_option linter.unusedSimpArgs false
set_option linter.unnecessarySimpa false
namespace Go.Ab
open Go
theorem a4l{p q:Nat->Bool}:∀(k i:Nat),(∀j,i<=j->j<i+k->p j=q j)->allF p i k=allF q i k:=by
 intro k;induction k with
 |zero=>intro i _;rfl
 |succ k m=>intro i h;simp only[allF];rw[h i (Nat.le_refl _) (by omega),m (i+1) (λj o t=>h j (by omega) (by omega))]
theorem aws{α:Type}(f:α->Bool)(d:α):∀(xs m:List α),allF (λi=>f ((m++xs).getD i d)) m.length xs.length=xs.all f:=by
 intro xs;induction xs with
 |nil=>intro m;rfl
 |cons x r t=>
  intro m;simp only[Al,allF,Bb];have o:(m++x::r).getD m.length d=x:=by simp[List.getD]
  rw[o];have:=t (m++[x]);grind
theorem aub{α:Type}(f:α->Bool)(d:α)(xs:List α):allF (λi=>f (xs.getD i d)) 0 xs.length=xs.all f:=aws f d xs []
theorem a0o{z G:Type}{step:z->Option (z⊕G)}(st:Nat->z)(n:Nat)(p:Nat->Bool)(bad:Nat->G)(m:G)(o:∀i,i<n->step (st i)=some (bif p i then .inl (st (i+1))else .inr (bad i)))(t:step (st n)=some (.inr m)):
 ∀k i,i+k=n->∃r,aap step (st i)=some r/\(allF p i k=true->r=m)/\(allF p i k=false->∃j,i<=j/\j<n/\r=bad j):=by
 intro k
 induction k with
 |zero=>
  intro i O
  have:i=n:=by omega
  subst this
  exact⟨m,aae t,λ_=>rfl,λh=>by simp[allF]at h⟩
 |succ k U=>
  intro i O
  have h:=o i (by omega)
  simp only[allF]
  cases H:p i with
  |true=>
   rw[H]at h
   obtain⟨r,I,J,M⟩:=U (i+1) (by omega)
   refine⟨r,by rw[aan h,I],λh=>J (by simpa using h),λh=>?_⟩
   obtain⟨j,a,b,c⟩:=M (by simpa using h)
   exact⟨j,by omega,b,c⟩
  |false=>
   rw[H]at h
   exact⟨bad i,aae h,λh=>by simp at h,λ_=>⟨i,Nat.le_refl _,by omega,rfl⟩⟩
theorem aak{G J α o:Type}{step:G->Option (G⊕J)}(t:Nat->o->G)(m:o->J)(xs:List α)(d:α)(f:o->α->o)(I:Nat->o->Prop)
 (z:∀i b,i<xs.length->I i b->step (t i b)=some (.inl (t (i+1) (f b (xs.getD i d))))/\I (i+1) (f b (xs.getD i d))) (H:∀b,I xs.length b->step (t xs.length b)=some (.inr (m b))):
 ∀k i b,i+k=xs.length->I i b->aap step (t i b)=some (m ((xs.drop i).foldl f b))/\I xs.length ((xs.drop i).foldl f b):=by
 intro k
 induction k with
 |zero=>grind[List.drop_length,aae]
 |succ k V=>
  intro i b U O
  have M:i<xs.length:=by omega
  grind[aan,aa2]
def lowB(b:Nat):Bool:=decide (97<=b/\b<=122)
def capB(b:Nat):Bool:=decide (65<=b/\b<=90)
def digB(b:Nat):Bool:=decide (48<=b/\b<=57)
def letB(b:UInt8):Bool:=lowB b.toNat||capB b.toNat
def alnB(b:UInt8):Bool:=lowB b.toNat||capB b.toNat||digB b.toNat||decide (b.toNat=95)
theorem bid{b:UInt8}(h:letB b=true):alnB b=true:=by grind[letB,alnB]
def aeo(s:Bn):Bool:=
 match s with
 |[]=>false
 |c::r=>decide (r.length+1<=40)&&letB c&&r.all alnB
def aes(s:Bn):Bool:=decide (s.length<=120)&&(aa4 46 s).all aeo
def ajz(s:Bn):Bool:=
 match s with
 |[]=>aes []
 |c::r=>bif c==46 then aes r else aes (c::r)
theorem at1(c:UInt8)(b:Bn):∀a,aa4 c (a++c::b)=aa4 c a++aa4 c b:=by
 intro a;induction a with
 |nil=>simp[aa4]
 |cons x a m=>
  simp only[A2,aa4];cases h:(x==c)with
  |true=>grind
  |false=>simp only[Af,m];grind[aml,aa4,absurd]
theorem amm(c:UInt8):∀b,c∉b->aa4 c b=[b]:=by
 intro b;induction b with
 |nil=>intro _;rfl
 |cons x b o=>
  intro h;simp only[Bi,not_or]at h;have m:(x==c)=false:=by grind
  simp only[aa4,m,Af,o h.2]
def axk:Bn->Bn->Bool
 |part,[]=>aeo part
 |part,b::r=>bif b==46 then aeo part&&axk [] r else axk (part++[b]) r
def glue(m:Bn):List Bn->List Bn
 |[]=>[m]
 |x::q=>(m++x)::q
theorem bd6:∀(r m:Bn),axk m r=(glue m (aa4 46 r)).all aeo:=by
 intro r;induction r with
 |nil=>grind[axk,aa4,glue]
 |cons b r o=>
  intro m;simp only[axk,aa4];cases h:(b==46)with
  |true=>simp only[Ad,glue,List.append_nil,Bb,o];grind[aml,aa4,absurd,glue]
  |false=>simp only[Af,o];grind[aml,aa4,absurd,glue]
theorem a9p(r:Bn):axk [] r=(aa4 46 r).all aeo:=by
 rw[bd6];have:=aml 46 r;cases m:aa4 46 r with
 |nil=>grind
 |cons x q=>simp[glue]
end Go.Ab
namespace Go.Ab
open Go
set_option maxRecDepth 100000
theorem aas{α:Type}{l:List α}{i:Nat}(h:i<l.length)(d:α):l.getD i d∈l:=by grind
theorem abh{i:Nat}(h:i<=9223372036854775000):IntKind.wrap .i64 ((i:Int)+1)=((i+1:Nat):Int):=ar4 (by omega)
theorem geI(a b:Nat):decide ((a:Int)>=(b:Int))=decide (b<=a):=by grind
theorem leI(a b:Nat):decide ((a:Int)<=(b:Int))=decide (a<=b):=by grind
theorem neB(a b:Nat):((a:Int) != (b:Int))=!decide (a=b):=by grind
theorem eqB(a b:Nat):((a:Int)==(b:Int))=decide (a=b):=by grind
theorem bhc(b c:UInt8):decide (b.toNat=c.toNat)=(b==c):=by grind[UInt8.toNat_inj,decide_eq_false]
def clsN(b:Nat):Int:=bif lowB b then 1 else bif capB b then 2 else bif digB b then 3 else bif decide (b=95)then 4 else 0
theorem a2p(b:Nat):F105 (b:Int)=some (clsN b):=by unfold F105 clsN;rw[show(97:Int)=((97:Nat):Int)from rfl,show(122:Int)=((122:Nat):Int)from rfl,show(65:Int)=((65:Nat):Int)from rfl,show(90:Int)=((90:Nat):Int)from rfl,show(48:Int)=((48:Nat):Int)from rfl,show(57:Int)=((57:Nat):Int)from rfl,show(95:Int)=((95:Nat):Int)from rfl];grind[geI,leI,eqB,lowB,capB,digB,Bool.decide_and,decide]
theorem bdk{b:Nat}(h:128<=b):clsN b=0:=by have m:lowB b=false:=Av (by omega);have o:capB b=false:=Av (by omega);have t:digB b=false:=Av (by omega);have z:decide (b=95)=false:=Av (by omega);simp only[clsN,m,o,t,z,Af]
theorem cls0(b:UInt8):(clsN b.toNat==0)=!alnB b:=by grind[clsN,alnB,lowB,capB,digB,decide]
theorem bjy(b:UInt8):(bif (clsN b.toNat != 1)then(clsN b.toNat != 2)else false)=!letB b:=by grind[clsN,letB,lowB,capB,digB,decide]
def okAt(i:Nat)(b:UInt8):Bool:=alnB b&&(!decide (i=0)||letB b)
def att:Nat->Bn->Bool
 |_,[]=>true
 |i,b::r=>okAt i b&&att (i+1) r
theorem a6l:∀(r:Bn)(i:Nat),att (i+1) r=r.all alnB:=by
 intro r;induction r with
 |nil=>intro i;rfl
 |cons b r m=>grind[att,okAt,decide_eq_false]
theorem bbe(s:Bn):∀(m i:Nat),s.length-i<=m->i<=s.length->∃z,aap ((Y4 S70_3)) (s,(),s,(i:Int))=some (bif att i (s.drop i)then .inr (s,z)else .inl (false,z)):=by
 intro m;induction m with
 |zero=>
  intro i U O;have o:¬i<s.length:=by omega
  rw[Ba (by omega)];exact⟨_,aae (by simp only[Y4,S70_3,Ae,o,decide_false,Af];rfl)⟩
 |succ m W=>
  intro i U O;by_cases o:i<s.length
  ·have H:((i:Int)==(0:Int))=decide (i=0):=eqB i 0;rw[aa2 o 0,att];by_cases J:byteAt s i<128
   ·have I:=afq s i J;have G:F105 (byteAt s i:Int)=some (clsN (s.getD i 0).toNat):=a2p _;cases t:okAt i (s.getD i 0)with
    |true=>obtain⟨z,V⟩:=W (i+1) (by omega) (by omega);refine⟨z,?_⟩;rw[Bool.true_and,<-V];refine aan ?_;unfold okAt at t;simp only[Y4,S70_3,Ae,o,decide_true,Ad,aif,I,G,Aa,cls0,H];grind[alnB,decide,bjy]
    |false=>refine⟨(s,((i+1:Nat):Int)),aae ?_⟩;unfold okAt at t;simp only[Y4,S70_3,Ae,o,decide_true,Ad,aif,I,G,Aa,cls0,H,Bool.false_and,Af];grind[alnB,decide,bjy]
   ·have M:=apy s i (by omega);have G:=a2p (aao s i).1;rw[bdk M]at G;have t:okAt i (s.getD i 0)=false:=by
     unfold okAt alnB lowB capB digB;have:byteAt s i=(s.getD i 0).toNat:=rfl;grind
    refine⟨(s,((i+(aao s i).2:Nat):Int)),aae ?_⟩;rw[t];simp only[Y4,S70_3,Ae,o,decide_true,Ad,aif,G,Aa,Bool.false_and,Af];rfl
  grind
theorem axn(s:Bn):F70 s=some (aeo s):=by
 obtain⟨z,G⟩:=bbe s s.length 0 (by omega) (by omega);unfold F70;rw[aat,G,Ar];cases s with
 |nil=>rfl
 |cons c r=>
  rw[att,a6l];have m:decide (((c::r).length:Int)>=(1:Int))=true:=Ah (by grind);have o:decide (((c::r).length:Int)<=(40:Int))=decide (r.length+1<=40):=leI _ 40;have t:okAt 0 c=letB c:=by grind[okAt,letB,bid]
  rw[t,aeo];cases letB c<;>cases r.all alnB<;>simp only[Bool.and_false,Bool.and_true,Bool.false_and,Bool.true_and,Ad,Af,Aa,a4b,aa6,m,o]
theorem a3x(b:Nat):F100 (b:Int)=some (lowB b):=by unfold F100 lowB;rw[show(97:Int)=((97:Nat):Int)from rfl,show(122:Int)=((122:Nat):Int)from rfl];grind[geI,leI,Bool.decide_and,decide]
theorem ate(b:Nat):F101 (b:Int)=some (capB b):=by unfold F101 capB;rw[show(65:Int)=((65:Nat):Int)from rfl,show(90:Int)=((90:Nat):Int)from rfl];grind[geI,leI,Bool.decide_and,decide]
theorem ayl(s:Bn)(I:s.length<=9223372036854770000):∀k i,i+k=s.length->aap ((Y2 S65_5)) (s,(i:Int))=some (bif allF (λi=>alnB (s.getD i 0)) i k then .inr ()else .inl false):=
 abb (λi=>(s,(i:Int))) s.length (λi=>alnB (s.getD i 0)) (Sum.inl false:Bool⊕Unit) (Sum.inr ()) (λi H=>by
  have m:=a3x (s.getD i 0).toNat;have o:=ate (s.getD i 0).toNat;have t:(((s.getD i 0).toNat:Int) != (95:Int))=!decide ((s.getD i 0).toNat=95):=neB _ 95;have z:decide (((s.getD i 0).toNat:Int)<(48:Int))=!decide (48<=(s.getD i 0).toNat):=by grind
  have G:decide (((s.getD i 0).toNat:Int)>(57:Int))=!decide ((s.getD i 0).toNat<=57):=by grind
  simp only[Y2,S65_5,ah0,aaa,H,decide_true,Ae,m,o,t,z,G,Aa,abh (i:=i) (by omega),Ad];unfold alnB digB;rw[Bool.decide_and];cases lowB (s.getD i 0).toNat<;>cases capB (s.getD i 0).toNat<;>cases decide ((s.getD i 0).toNat=95)<;>cases decide (48<=(s.getD i 0).toNat)<;>cases decide ((s.getD i 0).toNat<=57)<;>rfl) (by
  simp only[Y2,S65_5,ah0,Nat.lt_irrefl,decide_false,Af])
theorem agx(s:Bn)(M:s.length<=9223372036854770000):F65 s=some (aeo s):=by
 unfold F65;cases s with
 |nil=>rfl
 |cons c r=>
  have m:=ayl (c::r) M r.length 1 (by grind);rw[show((1:Nat):Int)=(1:Int)from rfl]at m;have J:allF (λi=>alnB ((c::r).getD i 0)) 1 r.length=r.all alnB:=aws alnB 0 r [c];rw[J]at m;have o:(((c::r).length:Int)==(0:Int))=false:=Eq.trans (eqB (c::r).length 0) (by simp);have t:decide (((c::r).length:Int)>(40:Int))=!decide (r.length+1<=40):=by grind
  have z:aab (0:Int) (c::r).length=true:=by rw[show(0:Int)=((0:Nat):Int)from rfl,aaa];simp
  have H:=a3x c.toNat;have I:=ate c.toNat;have G:((((c::r).getD (0:Int).toNat 0).toNat:Nat):Int)=(c.toNat:Int):=rfl;rw[aeo,letB];simp only[o,t,z,G,H,I,Af,aat,m];cases decide (r.length+1<=40)<;>cases lowB c.toNat<;>cases capB c.toNat<;>cases r.all alnB<;>rfl
theorem a9q(s:Bn)(xs:List Bn)(t:xs.length<=9223372036854770000):aap ((Y4 S36_3)) (s,xs.map PV.str,((xs.map PV.str).length:Int),((0:Nat):Int))=some (bif xs.all aeo then .inr s else .inl false):=by
 have h:=abb (step:=(Y4 S36_3)) (λi=>(s,xs.map PV.str,((xs.map PV.str).length:Int),(i:Int))) (xs.map PV.str).length (λi=>aeo ((xs.map PV.str).getD i .bad).asStr) (Sum.inl false:Bool⊕Bn) (Sum.inr s) (λi m=>by
  have o:i<xs.length:=by simpa using m
  simp only[Y4,S36_3,ah0,aaa,m,decide_true,Ad,Ae,axn,Aa,abh (i:=i) (by omega)];grind) (by
  simp only[Y4,S36_3,ah0,Nat.lt_irrefl,decide_false,Af]) (xs.map PV.str).length 0 (by omega)
 rw[aub (λx:PV=>aeo x.asStr),List.all_map]at h;exact h
theorem at2(c:UInt8):∀s,(aa4 c s).length<=s.length+1:=by
 intro s;induction s with
 |nil=>simp[aa4]
 |cons b r m=>grind[aa4]
theorem ax0(s:Bn)(m:s.length<=1048576):ant 0 s ([46]:Bn)=some ((aa4 46 s).map PV.str):=by grind[ant,Nat.blt,Nat.blt_eq]
theorem aln(s:Bn)(m:s.length<=1048576):F36 s=some (aes s):=by have o:=at2 46 s;unfold F36 aes;have e:decide ((s.length:Int)<=(120:Int))=decide (s.length<=120):=leI _ 120;rw[ax0 s m,Aa,aat,show(0:Int)=((0:Nat):Int)from rfl,a9q s _ (by omega)];grind[aa4,aeo,sumE]
theorem ayi(s:Bn)(hs:s.length<=1048576):∀(m i:Nat)(o:Bn),s.length-i<=m->i<=s.length->o.length<=i->
 ∃y,aap ((Y3 S31_6)) (s,o,(i:Int))=some y/\sumE (λb=>some b) (λp=>some (aeo p)) y=some (axk o (s.drop i))/\∀p,y=.inr p->p.length<=s.length:=by
 intro m
 induction m with
 |zero=>
  intro i o Y X Z
  have t:¬i<s.length:=by omega
  rw[Ba (by omega)]
  exact⟨.inr o,aae (by simp only[Y3,S31_6,aai,t,decide_false,Af]),rfl,λp h=>by cases h;omega⟩
 |succ m W=>
  intro i o Y X Z
  by_cases t:i<s.length
  ·rw[aa2 t 0,axk];have z:(((s.getD i 0).toNat:Int) != (46:Int))=!(s.getD i 0==46):=by
    exact(neB (s.getD i 0).toNat 46).trans (congrArg (!·) (bhc (s.getD i 0) 46))
   cases V:(s.getD i 0==46)with
   |false=>
    obtain⟨y,H,U,I⟩:=W (i+1) (o++[s.getD i 0]) (by omega) (by omega) (by simp;omega);refine⟨y,?_,U,I⟩;rw[<-H];refine aan ?_;have J:decide ((0:Int)<=(i:Int)/\(i:Int)<=((i+1:Nat):Int)/\((i+1:Nat):Int)<=(s.length:Int))=true:=Ah (by omega);have O:(s.take (i+1)).drop i=[s.getD i 0]:=by grind[List.drop_take,aa2]
    have M:decide (o.length+[s.getD i 0].length<=aac)=true:=Ah (by grind[aac]);rw[V]at z;simp only[Y3,S31_6,aai,t,decide_true,Ad,aaa,Ae,z,Ao,abh (i:=i) (by omega),J,O,M]
   |true=>
    rw[V]at z;simp only[Ad];cases G:aeo o with
    |false=>refine⟨.inl false,aae ?_,rfl,λp h=>by cases h⟩;simp only[Y3,S31_6,aai,t,decide_true,Ad,aaa,Ae,z,An,Af,agx o (by omega),G,Aa,Ao]
    |true=>obtain⟨y,H,U,I⟩:=W (i+1) [] (by omega) (by omega) (by simp);refine⟨y,?_,by grind,I⟩;rw[<-H];refine aan ?_;simp only[Y3,S31_6,aai,t,decide_true,Ad,aaa,Ae,z,An,Af,agx o (by omega),G,Aa,abh (i:=i) (by omega)]
  grind
theorem ac8(s:Bn)(t:s.length<=1048576):F31 s=some (aes s):=by
 obtain⟨y,o,m,z⟩:=ayi s t s.length 0 [] (by omega) (by omega) (by simp);rw[Ar,a9p]at m;unfold F31 aes;have e:decide ((s.length:Int)>(120:Int))=!decide (s.length<=120):=by grind
 rw[aat,show(0:Int)=((0:Nat):Int)from rfl,o,e,Aa];cases decide (s.length<=120)with
 |false=>rfl
 |true=>
  rw[Bool.true_and,<-m];cases y with
  |inl b=>rfl
  |inr p=>simp only[An,Af,aa6];rw[agx p (by grind)];rfl
noncomputable def ah5(s:Bn):Bool:=(F346 s).getD false
theorem agy(s:Bn):F346 s=some (ah5 s):=by unfold ah5;simp only[F346,aos,Option.getD_some]
theorem bcx(s:Bn):F271 s=some (ah5 s):=by rw[<-agy];rfl
noncomputable def aeu(s:Bn):Bool:=aeo s&&!ah5 s
theorem agm(s:Bn):F289 s=some (aeu s):=by grind[F289,aeu,axn,bcx,aeo]
theorem ai1(s:Bn)(m:s.length<=9223372036854770000):F253 s=some (aeu s):=by grind[F253,aeu,agx,agy,aeo]
noncomputable def defP(s:Bn):Bool:=aes s&&(aa4 46 s).all λx=>!ah5 x
theorem azu(xs:List Bn)(m:xs.length<=1000000000000):F184_c271 (xs.map PV.str) ()=some (!xs.all λx=>!ah5 x):=by have e:F184_c271 (xs.map PV.str) ()=_:=bhe (l:=xs.map PV.str) (by simpa using m) (λx=>ah5 x.asStr) λx _=>bcx x.asStr;rw[e,List.any_map,List.any_eq_not_all_not];rfl
theorem alm(s:Bn)(m:s.length<=1048576):F284 s=some (defP s):=by
 have o:=at2 46 s;unfold F284 defP;rw[aln s m,Aa];cases aes s with
 |false=>rfl
 |true=>simp only[Ad,ax0 s m,Aa,azu _ (show(aa4 46 s).length<=_ by omega),Bool.not_not,Bool.true_and]
theorem avv(s:Bn)(Z:s.length<=1048576):∀(k:Nat),k<=s.length->(46:UInt8)∉s.drop k->
 ∃y,aap ((Y2 S345_3)) (s,(k:Int)-1)=some y/\((∃O m,y=.inl (O,m)/\s=O++46::m/\(46:UInt8)∉m)\/(y=.inr s/\(46:UInt8)∉s)):=by
 intro k
 induction k with
 |zero=>
  intro _ I
  refine⟨.inr s,aae ?_,Or.inr ⟨rfl,by simpa using I⟩⟩
  have:decide (((0:Nat):Int)-1>=(0:Int))=false:=Av (by omega)
  simp only[Y2,S345_3,this,Af]
 |succ k X=>
  intro Y I
  have e:((k+1:Nat):Int)-1=(k:Int):=by omega
  have o:k<s.length:=by omega
  have t:decide ((k:Int)>=(0:Int))=true:=Ah (by omega)
  have G:(((s.getD k 0).toNat:Int)==(46:Int))=(s.getD k 0==46):=by exact(eqB (s.getD k 0).toNat 46).trans (bhc (s.getD k 0) 46)
  rw[e]
  cases z:(s.getD k 0==46)with
  |true=>
   have H:s.getD k 0=46:=by simpa using z
   have J:decide ((0:Int)<=(0:Int)/\(0:Int)<=(k:Int)/\(k:Int)<=(s.length:Int))=true:=Ah (by omega)
   have M:decide ((0:Int)<=((k+1:Nat):Int)/\((k+1:Nat):Int)<=(s.length:Int)/\(s.length:Int)<=(s.length:Int))=true:=Ah (by omega)
   refine⟨.inl (s.take k,s.drop (k+1)),aae ?_,Or.inl ⟨_,_,rfl,?_,I⟩⟩
   ·rw[z]at G;simp only[Y2,S345_3,t,Ad,aaa,o,decide_true,Ae,G,J,abh (i:=k) (by omega),M,List.take_length];rfl
   grind[aa2,List.take_append_drop]
  |false=>
   have H:s.getD k 0≠46:=by simpa using z
   obtain⟨y,U,V⟩:=X (by omega) (by rw[aa2 o 0];grind)
   refine⟨y,?_,V⟩
   rw[<-U]
   refine aan ?_
   rw[z]at G
   have W:IntKind.wrap .i64 ((k:Int)-(1:Int))=(k:Int)-1:=a4g (by omega) (by omega)
   simp only[Y2,S345_3,t,Ad,aaa,o,decide_true,Ae,G,Af,W]
theorem ard(s:Bn)(H:s.length<=1048576):∃o m,F345 s=some (o,m)/\((s=o++46::m/\(46:UInt8)∉m)\/(o=[]/\m=s/\(46:UInt8)∉s)):=by
 obtain⟨y,G,t⟩:=avv s H s.length (by omega) (by simp);unfold F345;have I:IntKind.wrap .i64 ((s.length:Int)-(1:Int))=(s.length:Int)-1:=a4g (by omega) (by omega);rw[aat,I,G];rcases t with⟨o,m,rfl,t,z⟩|⟨rfl,z⟩
 ·exact⟨o,m,rfl,Or.inl ⟨t,z⟩⟩
 ·exact⟨[],s,rfl,Or.inr ⟨rfl,rfl,z⟩⟩
theorem axa:∀(m:Nat)(s:Bn),s.length<=m->s.length<=1048576->(s=[]\/∀p,p∈aa4 46 s->p≠[])->
 aap (S252_4step) s=some (bif s==[]||(aa4 46 s).all λx=>!ah5 x then .inr ()else .inl false):=by
 intro m
 induction m with
 |zero=>
  intro s hm _ _
  have:s=[]:=A5 (by omega)
  subst this
  exact aae rfl
 |succ m ih=>
  intro s hm hs hp
  cases s with
  |nil=>exact aae rfl
  |cons c r=>
   have G:((c::r)==([]:Bn))=false:=rfl
   obtain⟨I,t,Z,O⟩:=ard (c::r) hs
   have J:∀p,p∈aa4 46 (c::r)->p≠[]:=by
    rcases hp with h|h
    ·cases h
    ·exact h
   have o:S252_4step (c::r)=some (bif ah5 t then .inr (.inl false)else .inl I):=by simp only[S252_4step,S252_4,G,Ao,Ad,Z,Aa,agy];cases ah5 t<;>rfl
   rcases O with⟨O,U⟩|⟨rfl,rfl,U⟩
   ·have Y:I.length<(c::r).length:=by rw[O];simp
    have H:aa4 46 (c::r)=aa4 46 I++[t]:=by rw[O,at1,amm _ _ U]
    have W:I≠[]:=by intro e;exact J [] (by rw[H,e];simp[aa4]) rfl
    have M:(I==([]:Bn))=false:=by simpa using W
    have V:∀p,p∈aa4 46 I->p≠[]:=λp h=>J p (by rw[H];simp[h]);have X:=ih I (by omega) (by omega) (Or.inr V);rw[H,List.all_append,G];rw[M]at X;cases z:ah5 t with
    |true=>rw[z]at o;rw[aae o];simp[z]
    |false=>rw[z]at o;rw[aan o,X];simp[z]
   ·rw[amm _ _ U,G];cases z:ah5 (c::r)with
    |true=>rw[z]at o;rw[aae o];simp[z]
    |false=>rw[z]at o;rw[aan o,aae (y:=.inr ()) rfl];simp[z]
theorem a3r{s:Bn}(h:aeo s=true):s≠[]:=by grind[aeo]
theorem ajc(s:Bn)(z:s.length<=1048576):F252 s=some (defP s):=by
 unfold F252 defP;rw[ac8 s z,Aa];cases o:aes s with
 |false=>rfl
 |true=>
  have m:(aa4 46 s).all aeo=true:=by unfold aes at o;simp only[Ai]at o;exact o.2
  have G:s≠[]:=by intro e;subst e;simp[aa4,aeo]at m
  have t:(s==([]:Bn))=false:=by simpa using G
  have h:=axa s.length s (by omega) z (Or.inr λp H=>a3r (Bd.1 m p H));simp only[An,Af,aat];rw[h,t];cases(aa4 46 s).all λx=>!ah5 x<;>rfl
end Go.Ab
