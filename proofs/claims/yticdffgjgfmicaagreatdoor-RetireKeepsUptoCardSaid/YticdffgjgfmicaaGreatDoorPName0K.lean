/- Names: parts, full names, keywords; loops that look for the first. -/
import Derived.Test.YticdffgjgfmicaaGreatDoorPUtfK
set_option linter.unusedVariables false
set_option linter.unusedSimpArgs false
set_option linter.unnecessarySimpa false
namespace Go.Ab
open Go
theorem av0{α:Type}(f:α->Bool)(d:α):∀(xs m:List α),allF (λi=>f ((m++xs).getD i d)) m.length xs.length=xs.all f:=by
 intro xs;induction xs with
 |nil=>intro m;rfl
 |cons x r t=>
  intro m;simp only[Al,allF,Bb];have o:(m++x::r).getD m.length d=x:=by simp[List.getD]
  rw[o];have:=t (m++[x]);grind
theorem ayj{α:Type}(f:α->Bool)(d:α)(xs:List α):allF (λi=>f (xs.getD i d)) 0 xs.length=xs.all f:=av0 f d xs []
theorem azu{z G:Type}{step:z->Option (z⊕G)}(st:Nat->z)(n:Nat)(p:Nat->Bool)(bad:Nat->G)(m:G)(o:∀i,i<n->step (st i)=some (bif p i then .inl (st (i+1))else .inr (bad i)))(t:step (st n)=some (.inr m)):
 ∀k i,i+k=n->∃r,aan step (st i)=some r/\(allF p i k=true->r=m)/\(allF p i k=false->∃j,i<=j/\j<n/\r=bad j):=by
 intro k
 induction k with
 |zero=>
  intro i O
  have:i=n:=by omega
  subst this
  exact⟨m,aae t,λ_=>rfl,λh=>by simp[allF]at h⟩
 |succ k U=>
  intro i O
  have h:=o i (by omega)
  simp only[allF]
  cases H:p i with
  |true=>
   rw[H]at h
   obtain⟨r,I,J,M⟩:=U (i+1) (by omega)
   refine⟨r,by rw[aal h,I],λh=>J (by simpa using h),λh=>?_⟩
   obtain⟨j,a,b,c⟩:=M (by simpa using h)
   exact⟨j,by omega,b,c⟩
  |false=>
   rw[H]at h
   exact⟨bad i,aae h,λh=>by simp at h,λ_=>⟨i,Nat.le_refl _,by omega,rfl⟩⟩
theorem aak{G J α o:Type}{step:G->Option (G⊕J)}(t:Nat->o->G)(m:o->J)(xs:List α)(d:α)(f:o->α->o)(I:Nat->o->Prop)
 (z:∀i b,i<xs.length->I i b->step (t i b)=some (.inl (t (i+1) (f b (xs.getD i d))))/\I (i+1) (f b (xs.getD i d))) (H:∀b,I xs.length b->step (t xs.length b)=some (.inr (m b))):
 ∀k i b,i+k=xs.length->I i b->aan step (t i b)=some (m ((xs.drop i).foldl f b))/\I xs.length ((xs.drop i).foldl f b):=by
 intro k
 induction k with
 |zero=>grind[List.drop_length,aae]
 |succ k V=>
  intro i b U O
  have M:i<xs.length:=by omega
  grind[aal,aa1]
def lowB(b:Nat):Bool:=decide (97<=b/\b<=122)
def capB(b:Nat):Bool:=decide (65<=b/\b<=90)
def digB(b:Nat):Bool:=decide (48<=b/\b<=57)
def letB(b:UInt8):Bool:=lowB b.toNat||capB b.toNat
def alnB(b:UInt8):Bool:=lowB b.toNat||capB b.toNat||digB b.toNat||decide (b.toNat=95)
theorem bhi{b:UInt8}(h:letB b=true):alnB b=true:=by grind[letB,alnB]
def aej(s:Bn):Bool:=
 match s with
 |[]=>false
 |c::r=>decide (r.length+1<=40)&&letB c&&r.all alnB
def ae7(s:Bn):Bool:=decide (s.length<=120)&&(aa3 46 s).all aej
def ajp(s:Bn):Bool:=
 match s with
 |[]=>ae7 []
 |c::r=>bif c==46 then ae7 r else ae7 (c::r)
theorem as7(c:UInt8)(b:Bn):∀a,aa3 c (a++c::b)=aa3 c a++aa3 c b:=by
 intro a;induction a with
 |nil=>simp[aa3]
 |cons x a m=>
  simp only[A0,aa3];cases h:(x==c)with
  |true=>grind
  |false=>simp only[Af,m];grind[al5,aa3,absurd]
theorem al6(c:UInt8):∀b,c∉b->aa3 c b=[b]:=by
 intro b;induction b with
 |nil=>intro _;rfl
 |cons x b o=>
  intro h;simp only[Bi,not_or]at h;have m:(x==c)=false:=by grind
  simp only[aa3,m,Af,o h.2]
def awt:Bn->Bn->Bool
 |part,[]=>aej part
 |part,b::r=>bif b==46 then aej part&&awt [] r else awt (part++[b]) r
def glue(m:Bn):List Bn->List Bn
 |[]=>[m]
 |x::q=>(m++x)::q
theorem bda:∀(r m:Bn),awt m r=(glue m (aa3 46 r)).all aej:=by
 intro r;induction r with
 |nil=>grind[awt,aa3,glue]
 |cons b r o=>
  intro m;simp only[awt,aa3];cases h:(b==46)with
  |true=>simp only[Ad,glue,List.append_nil,Bb,o];grind[al5,aa3,absurd,glue]
  |false=>simp only[Af,o];grind[al5,aa3,absurd,glue]
theorem a8j(r:Bn):awt [] r=(aa3 46 r).all aej:=by
 rw[bda];have:=al5 46 r;cases m:aa3 46 r with
 |nil=>grind
 |cons x q=>simp[glue]
end Go.Ab
namespace Go.Ab
open Go
set_option maxRecDepth 100000
theorem aaq{α:Type}{l:List α}{i:Nat}(h:i<l.length)(d:α):l.getD i d∈l:=by grind
theorem abf{i:Nat}(h:i<=9223372036854775000):IntKind.wrap .i64 ((i:Int)+1)=((i+1:Nat):Int):=arj (by omega)
theorem geI(a b:Nat):decide ((a:Int)>=(b:Int))=decide (b<=a):=by grind
theorem leI(a b:Nat):decide ((a:Int)<=(b:Int))=decide (a<=b):=by grind
theorem neB(a b:Nat):((a:Int) != (b:Int))=!decide (a=b):=by grind
theorem eqB(a b:Nat):((a:Int)==(b:Int))=decide (a=b):=by grind
theorem bgi(b c:UInt8):decide (b.toNat=c.toNat)=(b==c):=by grind[UInt8.toNat_inj,decide_eq_false]
def clsN(b:Nat):Int:=bif lowB b then 1 else bif capB b then 2 else bif digB b then 3 else bif decide (b=95)then 4 else 0
theorem a1e(b:Nat):F91 (b:Int)=some (clsN b):=by unfold F91 clsN;rw[show(97:Int)=((97:Nat):Int)from rfl,show(122:Int)=((122:Nat):Int)from rfl,show(65:Int)=((65:Nat):Int)from rfl,show(90:Int)=((90:Nat):Int)from rfl,show(48:Int)=((48:Nat):Int)from rfl,show(57:Int)=((57:Nat):Int)from rfl,show(95:Int)=((95:Nat):Int)from rfl];grind[geI,leI,eqB,lowB,capB,digB,Bool.decide_and,decide]
theorem bcn{b:Nat}(h:128<=b):clsN b=0:=by have m:lowB b=false:=Au (by omega);have o:capB b=false:=Au (by omega);have t:digB b=false:=Au (by omega);have z:decide (b=95)=false:=Au (by omega);simp only[clsN,m,o,t,z,Af]
theorem cls0(b:UInt8):(clsN b.toNat==0)=!alnB b:=by grind[clsN,alnB,lowB,capB,digB,decide]
theorem bis(b:UInt8):(bif (clsN b.toNat != 1)then(clsN b.toNat != 2)else false)=!letB b:=by grind[clsN,letB,lowB,capB,digB,decide]
def okAt(i:Nat)(b:UInt8):Bool:=alnB b&&(!decide (i=0)||letB b)
def asy:Nat->Bn->Bool
 |_,[]=>true
 |i,b::r=>okAt i b&&asy (i+1) r
theorem a5g:∀(r:Bn)(i:Nat),asy (i+1) r=r.all alnB:=by
 intro r;induction r with
 |nil=>intro i;rfl
 |cons b r m=>grind[asy,okAt,decide_eq_false]
theorem baf(s:Bn):∀(m i:Nat),s.length-i<=m->i<=s.length->∃z,aan ((Y4 S61_3)) (s,(),s,(i:Int))=some (bif asy i (s.drop i)then .inr (s,z)else .inl (false,z)):=by
 intro m;induction m with
 |zero=>
  intro i U O;have o:¬i<s.length:=by omega
  rw[Ba (by omega)];exact⟨_,aae (by simp only[Y4,S61_3,Ae,o,decide_false,Af];rfl)⟩
 |succ m W=>
  intro i U O;by_cases o:i<s.length
  ·have H:((i:Int)==(0:Int))=decide (i=0):=eqB i 0;rw[aa1 o 0,asy];by_cases J:byteAt s i<128
   ·have I:=afl s i J;have G:F91 (byteAt s i:Int)=some (clsN (s.getD i 0).toNat):=a1e _;cases t:okAt i (s.getD i 0)with
    |true=>obtain⟨z,V⟩:=W (i+1) (by omega) (by omega);refine⟨z,?_⟩;rw[Bool.true_and,<-V];refine aal ?_;unfold okAt at t;simp only[Y4,S61_3,Ae,o,decide_true,Ad,ah8,I,G,Aa,cls0,H];grind[alnB,decide,bis]
    |false=>refine⟨(s,((i+1:Nat):Int)),aae ?_⟩;unfold okAt at t;simp only[Y4,S61_3,Ae,o,decide_true,Ad,ah8,I,G,Aa,cls0,H,Bool.false_and,Af];grind[alnB,decide,bis]
   ·have M:=apb s i (by omega);have G:=a1e (aam s i).1;rw[bcn M]at G;have t:okAt i (s.getD i 0)=false:=by
     unfold okAt alnB lowB capB digB;have:byteAt s i=(s.getD i 0).toNat:=rfl;grind
    refine⟨(s,((i+(aam s i).2:Nat):Int)),aae ?_⟩;rw[t];simp only[Y4,S61_3,Ae,o,decide_true,Ad,ah8,G,Aa,Bool.false_and,Af];rfl
  grind
theorem awx(s:Bn):F61 s=some (aej s):=by
 obtain⟨z,G⟩:=baf s s.length 0 (by omega) (by omega);unfold F61;rw[aas,G,Ar];cases s with
 |nil=>rfl
 |cons c r=>
  rw[asy,a5g];have m:decide (((c::r).length:Int)>=(1:Int))=true:=Ah (by grind);have o:decide (((c::r).length:Int)<=(40:Int))=decide (r.length+1<=40):=leI _ 40;have t:okAt 0 c=letB c:=by grind[okAt,letB,bhi]
  rw[t,aej];cases letB c<;>cases r.all alnB<;>simp only[Bool.and_false,Bool.and_true,Bool.false_and,Bool.true_and,Ad,Af,Aa,a2q,abg,m,o]
theorem a2m(b:Nat):F51 (b:Int)=some (lowB b):=by unfold F51 lowB;rw[show(97:Int)=((97:Nat):Int)from rfl,show(122:Int)=((122:Nat):Int)from rfl];grind[geI,leI,Bool.decide_and,decide]
theorem asn(b:Nat):F52 (b:Int)=some (capB b):=by unfold F52 capB;rw[show(65:Int)=((65:Nat):Int)from rfl,show(90:Int)=((90:Nat):Int)from rfl];grind[geI,leI,Bool.decide_and,decide]
theorem axv(s:Bn)(I:s.length<=9223372036854770000):∀k i,i+k=s.length->aan ((Y2 S31_5)) (s,(i:Int))=some (bif allF (λi=>alnB (s.getD i 0)) i k then .inr ()else .inl false):=
 acj (λi=>(s,(i:Int))) s.length (λi=>alnB (s.getD i 0)) (Sum.inl false:Bool⊕Unit) (Sum.inr ()) (λi H=>by
  have m:=a2m (s.getD i 0).toNat;have o:=asn (s.getD i 0).toNat;have t:(((s.getD i 0).toNat:Int) != (95:Int))=!decide ((s.getD i 0).toNat=95):=neB _ 95;have z:decide (((s.getD i 0).toNat:Int)<(48:Int))=!decide (48<=(s.getD i 0).toNat):=by grind
  have G:decide (((s.getD i 0).toNat:Int)>(57:Int))=!decide ((s.getD i 0).toNat<=57):=by grind
  simp only[Y2,S31_5,ajw,aaa,H,decide_true,Ae,m,o,t,z,G,Aa,abf (i:=i) (by omega),Ad];unfold alnB digB;rw[Bool.decide_and];cases lowB (s.getD i 0).toNat<;>cases capB (s.getD i 0).toNat<;>cases decide ((s.getD i 0).toNat=95)<;>cases decide (48<=(s.getD i 0).toNat)<;>cases decide ((s.getD i 0).toNat<=57)<;>rfl) (by
  simp only[Y2,S31_5,ajw,Nat.lt_irrefl,decide_false,Af])
theorem ags(s:Bn)(M:s.length<=9223372036854770000):F31 s=some (aej s):=by
 unfold F31;cases s with
 |nil=>rfl
 |cons c r=>
  have m:=axv (c::r) M r.length 1 (by grind);rw[show((1:Nat):Int)=(1:Int)from rfl]at m;have J:allF (λi=>alnB ((c::r).getD i 0)) 1 r.length=r.all alnB:=av0 alnB 0 r [c];rw[J]at m;have o:(((c::r).length:Int)==(0:Int))=false:=Eq.trans (eqB (c::r).length 0) (by simp);have t:decide (((c::r).length:Int)>(40:Int))=!decide (r.length+1<=40):=by grind
  have z:aab (0:Int) (c::r).length=true:=by rw[show(0:Int)=((0:Nat):Int)from rfl,aaa];simp
  have H:=a2m c.toNat;have I:=asn c.toNat;have G:((((c::r).getD (0:Int).toNat 0).toNat:Nat):Int)=(c.toNat:Int):=rfl;rw[aej,letB];simp only[o,t,z,G,H,I,Af,aas,m];cases decide (r.length+1<=40)<;>cases lowB c.toNat<;>cases capB c.toNat<;>cases r.all alnB<;>rfl
theorem a8k(s:Bn)(xs:List Bn)(t:xs.length<=9223372036854770000):aan ((Y4 S37_3)) (s,xs.map PV.str,((xs.map PV.str).length:Int),((0:Nat):Int))=some (bif xs.all aej then .inr s else .inl false):=by
 have h:=acj (step:=(Y4 S37_3)) (λi=>(s,xs.map PV.str,((xs.map PV.str).length:Int),(i:Int))) (xs.map PV.str).length (λi=>aej ((xs.map PV.str).getD i .bad).asStr) (Sum.inl false:Bool⊕Bn) (Sum.inr s) (λi m=>by
  have o:i<xs.length:=by simpa using m
  simp only[Y4,S37_3,ajw,aaa,m,decide_true,Ad,Ae,awx,Aa,abf (i:=i) (by omega)];grind) (by
  simp only[Y4,S37_3,ajw,Nat.lt_irrefl,decide_false,Af]) (xs.map PV.str).length 0 (by omega)
 rw[ayj (λx:PV=>aej x.asStr),List.all_map]at h;exact h
theorem as8(c:UInt8):∀s,(aa3 c s).length<=s.length+1:=by
 intro s;induction s with
 |nil=>simp[aa3]
 |cons b r m=>grind[aa3]
theorem axb(s:Bn)(m:s.length<=1048576):ana 0 s ([46]:Bn)=some ((aa3 46 s).map PV.str):=by grind[ana,Nat.blt,Nat.blt_eq]
theorem aig(s:Bn)(m:s.length<=1048576):F37 s=some (ae7 s):=by have o:=as8 46 s;unfold F37 ae7;have e:decide ((s.length:Int)<=(120:Int))=decide (s.length<=120):=leI _ 120;rw[axb s m,Aa,aas,show(0:Int)=((0:Nat):Int)from rfl,a8k s _ (by omega)];grind[aa3,aej,sumE]
theorem axs(s:Bn)(hs:s.length<=1048576):∀(m i:Nat)(o:Bn),s.length-i<=m->i<=s.length->o.length<=i->
 ∃y,aan ((Y3 S13_6)) (s,o,(i:Int))=some y/\sumE (λb=>some b) (λp=>some (aej p)) y=some (awt o (s.drop i))/\∀p,y=.inr p->p.length<=s.length:=by
 intro m
 induction m with
 |zero=>
  intro i o Y X Z
  have t:¬i<s.length:=by omega
  rw[Ba (by omega)]
  exact⟨.inr o,aae (by simp only[Y3,S13_6,aai,t,decide_false,Af]),rfl,λp h=>by cases h;omega⟩
 |succ m W=>
  intro i o Y X Z
  by_cases t:i<s.length
  ·rw[aa1 t 0,awt];have z:(((s.getD i 0).toNat:Int) != (46:Int))=!(s.getD i 0==46):=by
    exact(neB (s.getD i 0).toNat 46).trans (congrArg (!·) (bgi (s.getD i 0) 46))
   cases V:(s.getD i 0==46)with
   |false=>
    obtain⟨y,H,U,I⟩:=W (i+1) (o++[s.getD i 0]) (by omega) (by omega) (by simp;omega);refine⟨y,?_,U,I⟩;rw[<-H];refine aal ?_;have J:decide ((0:Int)<=(i:Int)/\(i:Int)<=((i+1:Nat):Int)/\((i+1:Nat):Int)<=(s.length:Int))=true:=Ah (by omega);have O:(s.take (i+1)).drop i=[s.getD i 0]:=by grind[List.drop_take,aa1]
    have M:decide (o.length+[s.getD i 0].length<=aac)=true:=Ah (by grind[aac]);rw[V]at z;simp only[Y3,S13_6,aai,t,decide_true,Ad,aaa,Ae,z,Aq,abf (i:=i) (by omega),J,O,M]
   |true=>
    rw[V]at z;simp only[Ad];cases G:aej o with
    |false=>refine⟨.inl false,aae ?_,rfl,λp h=>by cases h⟩;simp only[Y3,S13_6,aai,t,decide_true,Ad,aaa,Ae,z,An,Af,ags o (by omega),G,Aa,Aq]
    |true=>obtain⟨y,H,U,I⟩:=W (i+1) [] (by omega) (by omega) (by simp);refine⟨y,?_,by grind,I⟩;rw[<-H];refine aal ?_;simp only[Y3,S13_6,aai,t,decide_true,Ad,aaa,Ae,z,An,Af,ags o (by omega),G,Aa,abf (i:=i) (by omega)]
  grind
theorem ad6(s:Bn)(t:s.length<=1048576):F13 s=some (ae7 s):=by
 obtain⟨y,o,m,z⟩:=axs s t s.length 0 [] (by omega) (by omega) (by simp);rw[Ar,a8j]at m;unfold F13 ae7;have e:decide ((s.length:Int)>(120:Int))=!decide (s.length<=120):=by grind
 rw[aas,show(0:Int)=((0:Nat):Int)from rfl,o,e,Aa];cases decide (s.length<=120)with
 |false=>rfl
 |true=>
  rw[Bool.true_and,<-m];cases y with
  |inl b=>rfl
  |inr p=>simp only[An,Af,abg];rw[ags p (by grind)];rfl
noncomputable def ah0(s:Bn):Bool:=(F305 s).getD false
theorem agt(s:Bn):F305 s=some (ah0 s):=by unfold ah0;simp only[F305,aoc,Option.getD_some]
theorem bbw(s:Bn):F241 s=some (ah0 s):=by rw[<-agt];rfl
noncomputable def aeq(s:Bn):Bool:=aej s&&!ah0 s
theorem agi(s:Bn):F262 s=some (aeq s):=by grind[F262,aeq,awx,bbw,aej]
theorem ais(s:Bn)(m:s.length<=9223372036854770000):F314 s=some (aeq s):=by grind[F314,aeq,ags,agt,aej]
noncomputable def defP(s:Bn):Bool:=ae7 s&&(aa3 46 s).all λx=>!ah0 x
theorem ay1(xs:List Bn)(m:xs.length<=1000000000000):F144_c241 (xs.map PV.str) ()=some (!xs.all λx=>!ah0 x):=by have e:F144_c241 (xs.map PV.str) ()=_:=bgk (l:=xs.map PV.str) (by simpa using m) (λx=>ah0 x.asStr) λx _=>bbw x.asStr;rw[e,List.any_map,List.any_eq_not_all_not];rfl
theorem alc(s:Bn)(m:s.length<=1048576):F257 s=some (defP s):=by
 have o:=as8 46 s;unfold F257 defP;rw[aig s m,Aa];cases ae7 s with
 |false=>rfl
 |true=>simp only[Ad,axb s m,Aa,ay1 _ (show(aa3 46 s).length<=_ by omega),Bool.not_not,Bool.true_and]
theorem au6(s:Bn)(Z:s.length<=1048576):∀(k:Nat),k<=s.length->(46:UInt8)∉s.drop k->
 ∃y,aan ((Y2 S304_3)) (s,(k:Int)-1)=some y/\((∃O m,y=.inl (O,m)/\s=O++46::m/\(46:UInt8)∉m)\/(y=.inr s/\(46:UInt8)∉s)):=by
 intro k
 induction k with
 |zero=>
  intro _ I
  refine⟨.inr s,aae ?_,Or.inr ⟨rfl,by simpa using I⟩⟩
  have:decide (((0:Nat):Int)-1>=(0:Int))=false:=Au (by omega)
  simp only[Y2,S304_3,this,Af]
 |succ k X=>
  intro Y I
  have e:((k+1:Nat):Int)-1=(k:Int):=by omega
  have o:k<s.length:=by omega
  have t:decide ((k:Int)>=(0:Int))=true:=Ah (by omega)
  have G:(((s.getD k 0).toNat:Int)==(46:Int))=(s.getD k 0==46):=by exact(eqB (s.getD k 0).toNat 46).trans (bgi (s.getD k 0) 46)
  rw[e]
  cases z:(s.getD k 0==46)with
  |true=>
   have H:s.getD k 0=46:=by simpa using z
   have J:decide ((0:Int)<=(0:Int)/\(0:Int)<=(k:Int)/\(k:Int)<=(s.length:Int))=true:=Ah (by omega)
   have M:decide ((0:Int)<=((k+1:Nat):Int)/\((k+1:Nat):Int)<=(s.length:Int)/\(s.length:Int)<=(s.length:Int))=true:=Ah (by omega)
   refine⟨.inl (s.take k,s.drop (k+1)),aae ?_,Or.inl ⟨_,_,rfl,?_,I⟩⟩
   ·rw[z]at G;simp only[Y2,S304_3,t,Ad,aaa,o,decide_true,Ae,G,J,abf (i:=k) (by omega),M,List.take_length];rfl
   grind[aa1,List.take_append_drop]
  |false=>
   have H:s.getD k 0≠46:=by simpa using z
   obtain⟨y,U,V⟩:=X (by omega) (by rw[aa1 o 0];grind)
   refine⟨y,?_,V⟩
   rw[<-U]
   refine aal ?_
   rw[z]at G
   have W:IntKind.wrap .i64 ((k:Int)-(1:Int))=(k:Int)-1:=a2w (by omega) (by omega)
   simp only[Y2,S304_3,t,Ad,aaa,o,decide_true,Ae,G,Af,W]
theorem aqs(s:Bn)(H:s.length<=1048576):∃o m,F304 s=some (o,m)/\((s=o++46::m/\(46:UInt8)∉m)\/(o=[]/\m=s/\(46:UInt8)∉s)):=by
 obtain⟨y,G,t⟩:=au6 s H s.length (by omega) (by simp);unfold F304;have I:IntKind.wrap .i64 ((s.length:Int)-(1:Int))=(s.length:Int)-1:=a2w (by omega) (by omega);rw[aas,I,G];rcases t with⟨o,m,rfl,t,z⟩|⟨rfl,z⟩
 ·exact⟨o,m,rfl,Or.inl ⟨t,z⟩⟩
 ·exact⟨[],s,rfl,Or.inr ⟨rfl,rfl,z⟩⟩
theorem awj:∀(m:Nat)(s:Bn),s.length<=m->s.length<=1048576->(s=[]\/∀p,p∈aa3 46 s->p≠[])->
 aan (S313_4step) s=some (bif s==[]||(aa3 46 s).all λx=>!ah0 x then .inr ()else .inl false):=by
 intro m
 induction m with
 |zero=>
  intro s hm _ _
  have:s=[]:=A4 (by omega)
  subst this
  exact aae rfl
 |succ m ih=>
  intro s hm hs hp
  cases s with
  |nil=>exact aae rfl
  |cons c r=>
   have G:((c::r)==([]:Bn))=false:=rfl
   obtain⟨I,t,Z,O⟩:=aqs (c::r) hs
   have J:∀p,p∈aa3 46 (c::r)->p≠[]:=by
    rcases hp with h|h
    ·cases h
    ·exact h
   have o:S313_4step (c::r)=some (bif ah0 t then .inr (.inl false)else .inl I):=by simp only[S313_4step,S313_4,G,Aq,Ad,Z,Aa,agt];cases ah0 t<;>rfl
   rcases O with⟨O,U⟩|⟨rfl,rfl,U⟩
   ·have Y:I.length<(c::r).length:=by rw[O];simp
    have H:aa3 46 (c::r)=aa3 46 I++[t]:=by rw[O,as7,al6 _ _ U]
    have W:I≠[]:=by intro e;exact J [] (by rw[H,e];simp[aa3]) rfl
    have M:(I==([]:Bn))=false:=by simpa using W
    have V:∀p,p∈aa3 46 I->p≠[]:=λp h=>J p (by rw[H];simp[h]);have X:=ih I (by omega) (by omega) (Or.inr V);rw[H,List.all_append,G];rw[M]at X;cases z:ah0 t with
    |true=>rw[z]at o;rw[aae o];simp[z]
    |false=>rw[z]at o;rw[aal o,X];simp[z]
   ·rw[al6 _ _ U,G];cases z:ah0 (c::r)with
    |true=>rw[z]at o;rw[aae o];simp[z]
    |false=>rw[z]at o;rw[aal o,aae (y:=.inr ()) rfl];simp[z]
theorem a2e{s:Bn}(h:aej s=true):s≠[]:=by grind[aej]
theorem ai2(s:Bn)(z:s.length<=1048576):F313 s=some (defP s):=by
 unfold F313 defP;rw[ad6 s z,Aa];cases o:ae7 s with
 |false=>rfl
 |true=>
  have m:(aa3 46 s).all aej=true:=by unfold ae7 at o;simp only[Ai]at o;exact o.2
  have G:s≠[]:=by intro e;subst e;simp[aa3,aej]at m
  have t:(s==([]:Bn))=false:=by simpa using G
  have h:=awj s.length s (by omega) z (Or.inr λp H=>a2e (Be.1 m p H));simp only[An,Af,aas];rw[h,t];cases(aa3 46 s).all λx=>!ah0 x<;>rfl
end Go.Ab
