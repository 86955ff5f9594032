/- The numbers, texts, annotations and counts of a file: the same in the program and the specification. -/
import Derived.Test.YtofplaamkkpciaaGreatDoorPValsR
set_option linter.unusedVariables false
set_option linter.unusedSimpArgs false
set_option linter.unnecessarySimpa false
namespace Go.Ab
open Go
set_option maxRecDepth 100000
theorem axt(v:PV)(m:vLists v<=1048576):IntKind.wrap .i64 ((IntKind.wrap .i64 ((IntKind.wrap .i64 ((((v.fld 3).asList).length:Int)+(((v.fld 4).asList).length:Int)))+(((v.fld 5).asList).length:Int)))+(((v.fld 6).asList).length:Int))=((vLists v:Nat):Int):=by unfold vLists at m ⊢;have o:IntKind.wrap .i64 (((v.fld 3).asList.length:Int)+((v.fld 4).asList.length:Int))=(((v.fld 3).asList.length+(v.fld 4).asList.length:Nat):Int):=wadd (by omega);have t:IntKind.wrap .i64 ((((v.fld 3).asList.length+(v.fld 4).asList.length:Nat):Int)+((v.fld 5).asList.length:Int))=(((v.fld 3).asList.length+(v.fld 4).asList.length+(v.fld 5).asList.length:Nat):Int):=wadd (by omega);have z:IntKind.wrap .i64 ((((v.fld 3).asList.length+(v.fld 4).asList.length+(v.fld 5).asList.length:Nat):Int)+((v.fld 6).asList.length:Int))=(((v.fld 3).asList.length+(v.fld 4).asList.length+(v.fld 5).asList.length+(v.fld 6).asList.length:Nat):Int):=wadd (by omega);rw[o,t,z]
theorem bau(a b c d:List PV):(bif (bif (bif ((a.length:Int)==(([]:List PV).length:Int))then((b.length:Int)==(([]:List PV).length:Int))else false)then((c.length:Int)==(([]:List PV).length:Int))else false)then((d.length:Int)==(([]:List PV).length:Int))else false)=decide (a.length+b.length+c.length+d.length=0):=by cases a<;>cases b<;>cases c<;>cases d<;>simp<;>omega
def isV(k b:Int)(s:Bn)(v:PV):Bool:=(aa0 v==k)&&(abk v==b)&&(acv v==s)&&decide (vLists v=0)
theorem a3v(v:PV)(k b:Int)(s:Bn):F421 v (PV.agg [(PV.int k),(PV.int b),(PV.str s),(PV.slice []),(PV.slice []),(PV.slice []),(PV.slice [])])=some (isV k b s v):=by unfold F421 isV vLists aa0 abk acv;rw[<-bau];show some (bif (bif (bif (bif (bif (bif ((v.fld 0).asInt==k)then((v.fld 1).asInt==b)else false)then((v.fld 2).asStr==s)else false)then _ else false)then _ else false)then _ else false)then _ else false)=_;generalize((v.fld 0).asInt==k)=q1;generalize((v.fld 1).asInt==b)=q2;generalize((v.fld 2).asStr==s)=q3;cases q1<;>cases q2<;>cases q3<;>rfl
theorem bac(v:PV)(m:acp v):F436 v=some (isV 0 0 [] v):=by have e:(((vLists v:Nat):Int)==(0:Int))=decide (vLists v=0):=nbeq _ 0;unfold F436 isV;rw[axt v m.1,e];have o:(v.fld 0).asInt=aa0 v:=rfl;have t:(v.fld 1).asInt=abk v:=rfl;have z:(v.fld 2).asStr=acv v:=rfl;grind
noncomputable def au5(v:PV):Bool:=(aa0 v==9)&&aeu (acv v)&&(abk v==0)&&decide (vLists v=0)
theorem a3m(v:PV)(z:acp v):F437 v=some (au5 v):=by have e:(((vLists v:Nat):Int)==(0:Int))=decide (vLists v=0):=nbeq _ 0;have m:(v.fld 0).asInt=aa0 v:=rfl;have o:(v.fld 1).asInt=abk v:=rfl;have t:(v.fld 2).asStr=acv v:=rfl;unfold F437 au5;simp only[axt v z.1,e,m,o,t,agm];grind
theorem a3a(v:PV)(t:acp v):F422 v=some (au5 v):=by have m:(v.fld 0).asInt=aa0 v:=rfl;have o:(v.fld 2).asStr=acv v:=rfl;unfold F422 au5;simp only[m,o,ai1 (acv v) (by have:=t.2.1;omega),a3v];unfold isV;grind
def aon(v:PV):Int:=bif (aa0 v==6)&&(agc (abk v).toNat==0)then 9221120237041090560 else abk v
theorem auf{v:PV}(o:acp v):∃u:Nat,abk v=(u:Int)/\u<18446744073709551616:=by obtain⟨_,_,m,t⟩:=o;exact⟨(abk v).toNat,(Int.toNat_of_nonneg m).symm,by omega⟩
theorem ba8(v:PV)(z:acp v):∃w,F371 v=some w/\(w.fld 1).asInt=aon v:=by
 obtain⟨u,G,m⟩:=auf z;have o:(v.fld 0).asInt=aa0 v:=rfl;have t:(v.fld 1).asInt=abk v:=rfl;unfold F371 aon;simp only[o,t,G,aw2 u m,Ae];cases(aa0 v==(6:Int))with
 |false=>grind
 |true=>
  cases h:agc u==(0:Int)with
  |false=>grind
  |true=>exact⟨_,by simp[h];rfl,rfl⟩
theorem a6r(v:PV)(H:acp v):∃w,F350 v=some w/\F421 v w=some (aon v==abk v):=by
 obtain⟨u,z,G⟩:=auf H;have o:(v.fld 0).asInt=aa0 v:=rfl;have t:(v.fld 1).asInt=abk v:=rfl;have m:F421 v v=some true:=by unfold F421;simp
 unfold F350 aon;simp only[o,t,z,akv u,Ae];cases(aa0 v==(6:Int))with
 |false=>exact⟨v,rfl,by rw[m];simp⟩
 |true=>
  cases h:agc u==(0:Int)with
  |false=>exact⟨v,by simp[h],by rw[m];simp⟩
  |true=>refine⟨_,by simp[h];rfl,?_⟩;unfold F421;show some (bif (bif (bif (bif (bif (bif ((v.fld 0).asInt==aa0 v)then((v.fld 1).asInt==(9221120237041090560:Int))else false)then((v.fld 2).asStr==(v.fld 2).asStr)else false)then(((v.fld 3).asList.length:Int)==((v.fld 3).asList.length:Int))else false)then(((v.fld 4).asList.length:Int)==((v.fld 4).asList.length:Int))else false)then(((v.fld 5).asList.length:Int)==((v.fld 5).asList.length:Int))else false)then(((v.fld 6).asList.length:Int)==((v.fld 6).asList.length:Int))else false)=_;simp only[o,t,z,Az,Ad,Bool.and_self];rw[beqC (u:Int) _];cases((9221120237041090560:Int)==(u:Int))<;>rfl
noncomputable def arm(x:PV):Bool:=
 bif !(x.fld 6).asBool then isV 0 0 [] (x.fld 7)else bif (x.fld 2).asInt==5 then false else bif ((x.fld 4).fld 0).asInt==0 then au5 (x.fld 7)else ad2 ((x.fld 4).fld 0).asInt (x.fld 7)&&(aon (x.fld 7)==abk (x.fld 7))
theorem bb0(x:PV)(h:OkFld x):F389 x=some (arm x):=by obtain⟨w,o,t⟩:=ba8 _ h.dflt;have m:((x.fld 7).fld 1).asInt=abk (x.fld 7):=rfl;unfold F389 arm;simp only[bac _ h.dflt,a3m _ h.dflt,o,ahg _ _ h.dflt,Aa,t,m];grind
theorem aym(x:PV)(h:OkFld x):F354 x=some (arm x):=by obtain⟨w,m,o⟩:=a6r _ h.dflt;unfold F354 arm;simp only[a3v,a3a _ h.dflt,m,adu _ _ h.dflt,Aa];cases(x.fld 6).asBool<;>cases((x.fld 2).asInt==(5:Int))<;>cases(((x.fld 4).fld 0).asInt==(0:Int))<;>cases ad2 ((x.fld 4).fld 0).asInt (x.fld 7)<;>first|rfl|simp[o]
def keyF(c k:Int):Bool:=bif c != 5 then k==0 else(decide (1<=k/\k<=5)||k==7)
theorem bh7(c k:Int):F388 c k=some (keyF c k):=by
 unfold F388 keyF;cases(c != (5:Int))with
 |true=>rfl
 |false=>
  have e:(bif (bif (decide (k>=(1:Int)))then(decide (k<=(7:Int)))else false)then(k != (6:Int))else false)=(decide (1<=k/\k<=5)||k==7):=by grind
  grind
theorem beo(x:PV):F353 x=some (keyF (x.fld 2).asInt (x.fld 3).asInt):=by
 unfold F353 keyF;cases((x.fld 2).asInt != (5:Int))with
 |true=>rfl
 |false=>
  have e:(bif (decide ((x.fld 3).asInt>=(1:Int)))then(decide ((x.fld 3).asInt<=(5:Int)))else false)=decide (1<=(x.fld 3).asInt/\(x.fld 3).asInt<=5):=by rw[Bool.decide_and];cases decide ((x.fld 3).asInt<=(5:Int))<;>simp
  simp only[Af,e];cases decide (1<=(x.fld 3).asInt/\(x.fld 3).asInt<=5)<;>rfl
def atu(x:PV):Bool:=decide (0<=(x.fld 0).asInt/\(x.fld 0).asInt<=65535/\1<=(x.fld 2).asInt/\(x.fld 2).asInt<=5/\0<=((x.fld 4).fld 0).asInt/\((x.fld 4).fld 0).asInt<=8)
def bct(x:PV):Bool:=((x.fld 5).asStr==[])||(((x.fld 2).asInt==2)&&!(x.fld 6).asBool)
noncomputable def aj0(x:PV):Bool:=atu x&&keyF (x.fld 2).asInt (x.fld 3).asInt&&bct x&&arm x
theorem a9g(x:PV)(h:OkFld x):F301 x=some (aj0 x):=by
 have e:(bif (bif (bif (decide ((x.fld 0).asInt>=(0:Int)))then(decide ((x.fld 0).asInt<=(65535:Int)))else false)then(decide ((x.fld 2).asInt>=(1:Int)))else false)then(decide ((x.fld 2).asInt<=(5:Int)))else false)=decide (0<=(x.fld 0).asInt/\(x.fld 0).asInt<=65535/\1<=(x.fld 2).asInt/\(x.fld 2).asInt<=5):=by grind
 have m:((((x.fld 4).fld 0).asInt==(0:Int))||agu ((x.fld 4).fld 0).asInt)=decide (0<=((x.fld 4).fld 0).asInt/\((x.fld 4).fld 0).asInt<=8):=by unfold agu;grind
 unfold F301 aj0 atu;simp only[e,bh7,avo,bb0 x h];rw[show decide (0<=(x.fld 0).asInt/\(x.fld 0).asInt<=65535/\1<=(x.fld 2).asInt/\(x.fld 2).asInt<=5/\0<=((x.fld 4).fld 0).asInt/\((x.fld 4).fld 0).asInt<=8)=(decide (0<=(x.fld 0).asInt/\(x.fld 0).asInt<=65535/\1<=(x.fld 2).asInt/\(x.fld 2).asInt<=5)&&decide (0<=((x.fld 4).fld 0).asInt/\((x.fld 4).fld 0).asInt<=8)) by grind,<-m];unfold bct;generalize decide (0<=(x.fld 0).asInt/\(x.fld 0).asInt<=65535/\1<=(x.fld 2).asInt/\(x.fld 2).asInt<=5)=o;generalize keyF (x.fld 2).asInt (x.fld 3).asInt=t;generalize(((x.fld 4).fld 0).asInt==(0:Int))=z;generalize agu ((x.fld 4).fld 0).asInt=G;generalize((x.fld 5).asStr==([]:Bn))=H;generalize((x.fld 2).asInt==(2:Int))=I;generalize(x.fld 6).asBool=J;generalize arm x=M;cases o<;>cases t<;>cases z<;>cases G<;>cases H<;>cases I<;>cases J<;>cases M<;>rfl
theorem ayh(x:PV)(h:OkFld x):F258 x=some (aj0 x):=by
 have e:(bif (bif (bif (bif (bif (decide ((x.fld 0).asInt<(0:Int)))then true else(decide ((x.fld 0).asInt>(65535:Int))))then true else(decide ((x.fld 2).asInt<(1:Int))))then true else(decide ((x.fld 2).asInt>(5:Int))))then true else(decide (((x.fld 4).fld 0).asInt<(0:Int))))then true else(decide (((x.fld 4).fld 0).asInt>(8:Int))))=!atu x:=by unfold atu;simp only[atg];simp only[<-Bool.decide_or,<-decide_not,decide_eq_decide];omega
 unfold F258 aj0;rw[e];simp only[beo,aym x h,Aa];unfold bct;generalize atu x=m;generalize keyF (x.fld 2).asInt (x.fld 3).asInt=o;generalize((x.fld 5).asStr==([]:Bn))=t;generalize((x.fld 2).asInt==(2:Int))=z;generalize(x.fld 6).asBool=G;generalize arm x=H;cases m<;>cases o<;>cases t<;>cases z<;>cases G<;>cases H<;>rfl
def un(l:List PV)(i:Nat):Bn:=((l.getD i .bad).fld 5).asStr
def apart(l:List PV)(i k:Nat):Bool:=(un l k==un l i)&&!(un l i==[])&&!(un l (i-1)==un l i)
def adjP(l:List PV):Bool:=allF (λi=>allF (λk=>!apart l i k) 0 i) 0 l.length
theorem bjl(l:List PV)(I:l.length<=1048576)(i:Nat)(t:i<l.length):aap ((Y6 S302_6)) (l,(i:Int),(l.length:Int),(i:Int),(i:Int),(0:Int))=some (bif allF (λk=>!apart l i k) 0 i then .inr (l,(l.length:Int),(i:Int))else .inl false):=
 abb (step:=(Y6 S302_6)) (λk=>(l,(i:Int),(l.length:Int),(i:Int),(i:Int),(k:Int))) i (λk=>!apart l i k) (Sum.inl false:Bool⊕(List PV×Int×Int)) (Sum.inr (l,(l.length:Int),(i:Int))) (λk z=>by
  have o:k<l.length:=by omega
  have G:IntKind.wrap .i64 ((i:Int)-(1:Int))=((i-1:Nat):Int):=by grind[abf]
  have m:i-1<l.length:=by omega
  have H:((l.getD k .bad).fld 5).asStr=un l k:=rfl;have u2:((l.getD i .bad).fld 5).asStr=un l i:=rfl;have u3:((l.getD (i-1) .bad).fld 5).asStr=un l (i-1):=rfl;simp only[Y6,S302_6,aai,z,aaa,o,t,m,G,decide_true,Ad,Ae,H,u2,u3,abh (i:=k) (by omega)];grind[apart,imp,un]) (by
  simp only[Y6,S302_6,aai,Nat.lt_irrefl,decide_false,Af]) i 0 (by omega)
theorem azb(l:List PV)(o:l.length<=1048576):F302 l=some (adjP l):=by
 have h:=abb (step:=(Y3 S302_3)) (λi=>(l,(l.length:Int),(i:Int))) l.length (λi=>allF (λk=>!apart l i k) 0 i) (Sum.inl false:Bool⊕Unit) (Sum.inr ()) (λi m=>by
  simp only[Y3,S302_3,aai,m,decide_true,Ad,aat,bjl l o i m,Aa];cases allF (λk=>!apart l i k) 0 i with
  |false=>rfl
  |true=>simp only[Ad,aa6,abh (i:=i) (by omega)]) (by
  simp only[Y3,S302_3,aai,Nat.lt_irrefl,decide_false,Af]) l.length 0 (by omega)
 unfold F302 adjP;rw[aat,show(0:Int)=((0:Nat):Int)from rfl,h];cases allF (λi=>allF (λk=>!apart l i k) 0 i) 0 l.length<;>rfl
theorem bbk(l:List PV)(I:l.length<=1048576)(i:Nat)(t:i<l.length):aap ((Y3 S256_6)) (l,(i:Int),(0:Int))=some (bif allF (λk=>!apart l i k) 0 i then .inr (l,(i:Int))else .inl false):=
 abb (step:=(Y3 S256_6)) (λk=>(l,(i:Int),(k:Int))) i (λk=>!apart l i k) (Sum.inl false:Bool⊕(List PV×Int)) (Sum.inr (l,(i:Int))) (λk z=>by
  have o:k<l.length:=by omega
  have G:IntKind.wrap .i64 ((i:Int)-(1:Int))=((i-1:Nat):Int):=by rw[show(i:Int)-1=((i-1:Nat):Int) by omega];exact abf (by omega)
  have m:i-1<l.length:=by omega
  have H:((l.getD k .bad).fld 5).asStr=un l k:=rfl;have u2:((l.getD i .bad).fld 5).asStr=un l i:=rfl;have u3:((l.getD (i-1) .bad).fld 5).asStr=un l (i-1):=rfl;simp only[Y3,S256_6,aai,z,aaa,o,t,m,G,decide_true,Ad,Ae,H,u2,u3,abh (i:=k) (by omega),beqC (un l i) (un l k)];unfold apart imp;cases(un l k==un l i)<;>cases(un l i==([]:Bn))<;>cases(un l (i-1)==un l i)<;>rfl) (by
  simp only[Y3,S256_6,aai,Nat.lt_irrefl,decide_false,Af]) i 0 (by omega)
theorem asp(l:List PV)(o:l.length<=1048576):F256 l=some (adjP l):=by
 have h:=abb (step:=(Y2 S256_3)) (λi=>(l,(i:Int))) l.length (λi=>allF (λk=>!apart l i k) 0 i) (Sum.inl false:Bool⊕Unit) (Sum.inr ()) (λi m=>by
  simp only[Y2,S256_3,aai,m,decide_true,Ad,aat,bbk l o i m,Aa];cases allF (λk=>!apart l i k) 0 i with
  |false=>rfl
  |true=>simp only[Ad,aa6,abh (i:=i) (by omega)]) (by
  simp only[Y2,S256_3,aai,Nat.lt_irrefl,decide_false,Af]) l.length 0 (by omega)
 unfold F256 adjP;rw[aat,show(0:Int)=((0:Nat):Int)from rfl,h];cases allF (λi=>allF (λk=>!apart l i k) 0 i) 0 l.length<;>rfl
def ah3(m:Int)(x:PV):Bool:=decide (0<=(x.fld 0).asInt/\(x.fld 0).asInt<=m/\0<=(x.fld 1).asInt/\(x.fld 1).asInt<=m)
theorem a3y(l:List PV)(t:l.length<=1048576)(m:Int):F303 l m=some (l.all (ah3 m)):=by
 have o:∀x,F438 x () () m=some (!(ah3 m x),(),m):=λx=>by
  unfold F438 F391 ah3;generalize(x.fld 0).asInt=a;generalize(x.fld 1).asInt=b;have e:(bif (decide ((if b<a then b else a)>=(0:Int)))then(decide ((if b>a then b else a)<=m))else false)=decide (0<=a/\a<=m/\0<=b/\b<=m):=by grind
  grind
 have e:F282_c438 l () () m=_:=agb (c:=((),m)) (show l.length<=1000000000000 by omega) (λx=>!ah3 m x) λx _=>o x;unfold F303 F390_c391;rw[e,List.all_eq_not_any_not];rfl
theorem arb(l:List PV)(t:l.length<=1048576)(m:Int):F257 l m=some (l.all (ah3 m)):=by
 have h:=abb (step:=(Y3 S257_3)) (λi=>(l,m,(i:Int))) l.length (λi=>ah3 m (l.getD i .bad)) (Sum.inl false:Bool⊕Unit) (Sum.inr ()) (λi o=>by
  simp only[Y3,S257_3,aai,aaa,o,decide_true,Ad,Ae,abh (i:=i) (by omega),imp];have e:∀a b:Int,(bif (bif (bif decide (a<(0:Int))then true else decide (a>m))then true else decide (b<(0:Int)))then true else decide (b>m))=!decide (0<=a/\a<=m/\0<=b/\b<=m):=λa b=>by simp only[atg];simp only[<-Bool.decide_or,<-decide_not,decide_eq_decide];omega
  rw[e];show _=some (bif decide (0<=((l.getD i .bad).fld 0).asInt/\((l.getD i .bad).fld 0).asInt<=m/\0<=((l.getD i .bad).fld 1).asInt/\((l.getD i .bad).fld 1).asInt<=m)then _ else _);cases decide (0<=((l.getD i .bad).fld 0).asInt/\((l.getD i .bad).fld 0).asInt<=m/\0<=((l.getD i .bad).fld 1).asInt/\((l.getD i .bad).fld 1).asInt<=m)<;>rfl) (by
  simp only[Y3,S257_3,aai,Nat.lt_irrefl,decide_false,Af]) l.length 0 (by omega)
 rw[aub]at h;unfold F257;rw[aat,show(0:Int)=((0:Nat):Int)from rfl,h];cases l.all (ah3 m)<;>rfl
noncomputable def anx(m:PV):Bool:=(m.fld 1).asList.all aj0&&adjP (m.fld 1).asList&&(m.fld 2).asList.all (ah3 65535)
def akh(x:PV):Bool:=decide ((x.fld 1).asInt>=0)&&decide ((x.fld 1).asInt<=2147483647)
def akg(m:PV):Bool:=(m.fld 3).asList.all (ah3 2147483647)&&(m.fld 2).asList.all akh
def amv(x:PV):Bool:=decide ((x.fld 3).asInt>=1)&&decide ((x.fld 3).asInt<=4)
def as6(m:PV):Bool:=(m.fld 1).asList.all amv
noncomputable def afy(f:PV):Bool:=(f.fld 3).asList.all anx&&(f.fld 4).asList.all akg&&(f.fld 5).asList.all as6
theorem a7z(m:PV)(h:OkMsg m):F300 m=some (anx m):=by unfold F300 anx;simp only[ev_af _ aj0 h.fields λx o=>a9g x (h.field x o),azb _ h.fields,a3y _ h.spans,Aa];grind
theorem a4p(m:PV)(h:OkEnum m):F304 m=some (akg m):=by unfold F304 akg;simp only[ev_ai _ akh h.items λx o=>by unfold F305 akh;rw[ahb],a3y _ h.spans,Aa];grind
theorem a8a(m:PV)(h:OkSvc m):F306 m=some (as6 m):=by unfold F306 as6;simp only[ev_ad _ amv h.meths λx o=>by unfold F307 amv;rw[ahb],Aa]
theorem a6k(f:PV)(h:OkFile f):F201 f=some (afy f):=by unfold F201 afy;simp only[Aa,ev_am _ anx h.msgs λx m=>a7z x (h.msg x m),ev_ae _ akg h.enums λx m=>a4p x (h.enum x m),ev_as _ as6 h.svcs λx m=>a8a x (h.svc x m)];grind
theorem af3(f m:PV)(i:Int)(h:∀x,x∈(m.fld 1).asList->OkFld x)(z:(m.fld 1).asList.length<=1048576)(b:Bool):
 aap ((Y7 S174_9)) ((),b,i,(),(0:Int),f,m)=some ((),b&&(m.fld 1).asList.all aj0,i,f,m):=
 abx (step:=(Y7 S174_9)) (λk b=>((),b,i,(),(k:Int),f,m)) (λb=>((),b,i,f,m)) (m.fld 1).asList .bad aj0 (λk b o=>by
  have t:=h _ (aas o .bad);simp only[Y7,S174_9,aai,aaa,o,decide_true,Ad,Ae,ayh _ t,Aa,abh (i:=k) (by omega),imp];cases b<;>rfl) (λb=>by
  simp only[Y7,S174_9,aai,Nat.lt_irrefl,decide_false,Af]) b
theorem asq(f:PV)(h:OkFile f)(b:Bool):aap ((Y4 S174_4)) ((),b,(0:Int),f)=some ((),b&&(f.fld 3).asList.all anx,f):=
 abx (step:=(Y4 S174_4)) (λk b=>((),b,(k:Int),f)) (λb=>((),b,f)) (f.fld 3).asList .bad anx (λk b o=>by
  have m:=h.msg _ (aas o .bad);have t:=h.msgs;simp only[Y4,S174_4,aai,aaa,o,decide_true,Ad,Ae,asp _ m.fields,arb _ m.spans,Aa];unfold anx;cases b with
  |false=>simp only[Af,Aa,aat,af3 f _ _ m.field m.fields,abh (i:=k) (by omega),Bool.false_and]
  |true=>
   cases adjP (((f.fld 3).asList.getD k .bad).fld 1).asList with
   |false=>simp only[Ad,Af,Aa,aat,af3 f _ _ m.field m.fields,abh (i:=k) (by omega),Bool.false_and,Bool.and_false]
   |true=>simp only[Ad,Aa,aat,af3 f _ _ m.field m.fields,abh (i:=k) (by omega),Bool.true_and,Bool.and_true];rw[Bool.and_comm]) (λb=>by
  simp only[Y4,S174_4,aai,Nat.lt_irrefl,decide_false,Af]) b
theorem aiv(f:PV)(i:Nat)(m:i<(f.fld 4).asList.length)(h:OkEnum ((f.fld 4).asList.getD i .bad))(b:Bool):
 aap ((Y5 S174_17)) ((),b,(i:Int),(0:Int),f)=some ((),b&&(((f.fld 4).asList.getD i .bad).fld 2).asList.all akh,(i:Int),f):=
 abx (step:=(Y5 S174_17)) (λk b=>((),b,(i:Int),(k:Int),f)) (λb=>((),b,(i:Int),f)) (((f.fld 4).asList.getD i .bad).fld 2).asList .bad akh (λk b o=>by
  have t:=h.items;simp only[Y5,S174_17,aai,aaa,m,o,decide_true,Ad,Ae,Aa,abh (i:=k) (by omega),ahb];unfold akh;rw[Bool.and_assoc]) (λb=>by
  simp only[Y5,S174_17,aai,aaa,m,decide_true,Ad,Ae,Nat.lt_irrefl,decide_false,Af]) b
theorem aq5(f:PV)(h:OkFile f)(b:Bool):aap ((Y4 S174_13)) ((),b,(0:Int),f)=some ((),b&&(f.fld 4).asList.all akg,f):=
 abx (step:=(Y4 S174_13)) (λk b=>((),b,(k:Int),f)) (λb=>((),b,f)) (f.fld 4).asList .bad akg (λk b m=>by
  have o:=h.enum _ (aas m .bad);have t:=h.enums;simp only[Y4,S174_13,aai,aaa,m,decide_true,Ad,Ae,arb _ o.spans,Aa,imp];cases b with
  |false=>simp only[Af,Ao,Ad,Aa,aat,aiv f k m o,abh (i:=k) (by omega),Bool.false_and]
  |true=>simp only[Ad,Aa,aat,aiv f k m o,abh (i:=k) (by omega),Bool.true_and];rfl) (λb=>by
  simp only[Y4,S174_13,aai,Nat.lt_irrefl,decide_false,Af]) b
theorem aq6(f:PV)(i:Nat)(m:i<(f.fld 5).asList.length)(h:OkSvc ((f.fld 5).asList.getD i .bad))(b:Bool):
 aap ((Y5 S174_25)) ((),b,(i:Int),(0:Int),f)=some ((),b&&(((f.fld 5).asList.getD i .bad).fld 1).asList.all amv,(i:Int),f):=
 abx (step:=(Y5 S174_25)) (λk b=>((),b,(i:Int),(k:Int),f)) (λb=>((),b,(i:Int),f)) (((f.fld 5).asList.getD i .bad).fld 1).asList .bad amv (λk b o=>by
  have t:=h.meths;simp only[Y5,S174_25,aai,aaa,m,o,decide_true,Ad,Ae,Aa,abh (i:=k) (by omega),ahb];unfold amv;rw[Bool.and_assoc]) (λb=>by
  simp only[Y5,S174_25,aai,aaa,m,decide_true,Ad,Ae,Nat.lt_irrefl,decide_false,Af]) b
theorem asr(f:PV)(h:OkFile f)(b:Bool):aap ((Y4 S174_22)) ((),b,(0:Int),f)=some (b&&(f.fld 5).asList.all as6,f):=
 abx (step:=(Y4 S174_22)) (λk b=>((),b,(k:Int),f)) (λb=>(b,f)) (f.fld 5).asList .bad as6 (λk b m=>by
  have o:=h.svc _ (aas m .bad);have t:=h.svcs;simp only[Y4,S174_22,aai,m,decide_true,Ad,aat,aq6 f k m o,abh (i:=k) (by omega),Aa];rfl) (λb=>by
  simp only[Y4,S174_22,aai,Nat.lt_irrefl,decide_false,Af]) b
theorem aq7(f:PV)(h:OkFile f):F174 f=some (afy f):=by unfold F174 afy;simp only[aat,asq f h,aq5 f h,asr f h,Aa,Bool.true_and]
end Go.Ab
namespace Go.Ab
open Go
set_option maxRecDepth 100000
theorem amq(s:Bn)(m:s.length<=1048576):F242 s=some (aeu s):=by
 unfold F242 aeu;rw[agx s (by omega)];cases aeo s with
 |true=>simp only[Aa,Ad,agy,Bool.true_and]
 |false=>grind
theorem bd7{s:Bn}(h:aes s=true):s.length<=120:=by grind[aes]
theorem ay6:∀(m i:Nat)(s:Bn),s.length<=m->s.length+i<=120->(s=[]\/∀p,p∈aa4 46 s->p≠[])->
 aap ((Y2 S241_5)) (s,(i:Int))=some (bif s==[]||(aa4 46 s).all λx=>!ah5 x then .inr ()else .inl false):=by
 intro m
 induction m with
 |zero=>grind[List.eq_nil_of_length_eq_zero,aae,Y2,S241_5,decide]
 |succ m ih=>
  intro i s hm hs hp
  cases s with
  |nil=>grind
  |cons c r=>
   have G:((c::r)==([]:Bn))=false:=rfl
   have U:decide ((i:Int)<120)=true:=Ah (by grind)
   obtain⟨z,t,Y,I⟩:=ard (c::r) (by omega)
   have H:∀p,p∈aa4 46 (c::r)->p≠[]:=by grind
   have o:(Y2 S241_5) (c::r,(i:Int))=some (bif ah5 t then .inr (.inl false)else .inl (z,((i+1:Nat):Int))):=by simp only[Y2,S241_5,G,U,Ao,Ad,Y,Aa,agy,abh (show i<=9223372036854775000 by omega)];grind
   rcases I with⟨I,O⟩|⟨rfl,rfl,O⟩
   ·have V:z.length<(c::r).length:=by rw[I];simp
    have Z:aa4 46 (c::r)=aa4 46 z++[t]:=by grind[at1,amm]
    have M:z≠[]:=by intro e;exact H [] (by grind[aa4]) rfl
    have W:(z==([]:Bn))=false:=by simpa using M
    have J:∀p,p∈aa4 46 z->p≠[]:=λp h=>H p (by grind);have U:=ih (i+1) z (by omega) (by omega) (Or.inr J);grind[ah5,aae,aan]
   ·rw[amm _ _ O,G];cases X:ah5 (c::r)with
    |true=>grind[aae]
    |false=>rw[X]at o;rw[aan o,aae (y:=.inr ()) (by grind[Y2,S241_5,decide])];simp[X]
theorem anp(s:Bn)(H:s.length<=1048576):F241 s=some (defP s):=by
 unfold F241 defP;rw[ac8 s H,Aa];cases t:aes s with
 |false=>rfl
 |true=>
  have m:(aa4 46 s).all aeo=true:=by unfold aes at t;grind
  have z:s≠[]:=by grind[aa4,aeo]
  have o:(s==([]:Bn))=false:=by simpa using z
  have h:=ay6 s.length 0 s (by omega) (bd7 t) (Or.inr λp G=>a3r (Bd.1 m p G));simp only[An,Af,aat];rw[show(0:Int)=((0:Nat):Int)from rfl,h,o];cases(aa4 46 s).all λx=>!ah5 x<;>rfl
end Go.Ab
