/- The numbers, texts, annotations and counts of a file: the same in the program and the specification. -/
import Derived.Test.YticdffgjgfmicaaGreatDoorPValsK
set_option linter.unusedVariables false
set_option linter.unusedSimpArgs false
set_option linter.unnecessarySimpa false
namespace Go.Ab
open Go
set_option maxRecDepth 100000
theorem aw3(v:PV)(m:vLists v<=1048576):IntKind.wrap .i64 ((IntKind.wrap .i64 ((IntKind.wrap .i64 ((((v.fld 3).asList).length:Int)+(((v.fld 4).asList).length:Int)))+(((v.fld 5).asList).length:Int)))+(((v.fld 6).asList).length:Int))=((vLists v:Nat):Int):=by unfold vLists at m ⊢;have o:IntKind.wrap .i64 (((v.fld 3).asList.length:Int)+((v.fld 4).asList.length:Int))=(((v.fld 3).asList.length+(v.fld 4).asList.length:Nat):Int):=wadd (by omega);have t:IntKind.wrap .i64 ((((v.fld 3).asList.length+(v.fld 4).asList.length:Nat):Int)+((v.fld 5).asList.length:Int))=(((v.fld 3).asList.length+(v.fld 4).asList.length+(v.fld 5).asList.length:Nat):Int):=wadd (by omega);have z:IntKind.wrap .i64 ((((v.fld 3).asList.length+(v.fld 4).asList.length+(v.fld 5).asList.length:Nat):Int)+((v.fld 6).asList.length:Int))=(((v.fld 3).asList.length+(v.fld 4).asList.length+(v.fld 5).asList.length+(v.fld 6).asList.length:Nat):Int):=wadd (by omega);rw[o,t,z]
theorem a9n(a b c d:List PV):(bif (bif (bif ((a.length:Int)==(([]:List PV).length:Int))then((b.length:Int)==(([]:List PV).length:Int))else false)then((c.length:Int)==(([]:List PV).length:Int))else false)then((d.length:Int)==(([]:List PV).length:Int))else false)=decide (a.length+b.length+c.length+d.length=0):=by cases a<;>cases b<;>cases c<;>cases d<;>simp<;>omega
def isV(k b:Int)(s:Bn)(v:PV):Bool:=(aa0 v==k)&&(abj v==b)&&(acu v==s)&&decide (vLists v=0)
theorem a2k(v:PV)(k b:Int)(s:Bn):F415 v (PV.agg [(PV.int k),(PV.int b),(PV.str s),(PV.slice []),(PV.slice []),(PV.slice []),(PV.slice [])])=some (isV k b s v):=by unfold F415 isV vLists aa0 abj acu;rw[<-a9n];show some (bif (bif (bif (bif (bif (bif ((v.fld 0).asInt==k)then((v.fld 1).asInt==b)else false)then((v.fld 2).asStr==s)else false)then _ else false)then _ else false)then _ else false)then _ else false)=_;generalize((v.fld 0).asInt==k)=q1;generalize((v.fld 1).asInt==b)=q2;generalize((v.fld 2).asStr==s)=q3;cases q1<;>cases q2<;>cases q3<;>rfl
theorem a8x(v:PV)(m:acn v):F404 v=some (isV 0 0 [] v):=by have e:(((vLists v:Nat):Int)==(0:Int))=decide (vLists v=0):=nbeq _ 0;unfold F404 isV;rw[aw3 v m.1,e];have o:(v.fld 0).asInt=aa0 v:=rfl;have t:(v.fld 1).asInt=abj v:=rfl;have z:(v.fld 2).asStr=acu v:=rfl;grind
noncomputable def aug(v:PV):Bool:=(aa0 v==9)&&aeq (acu v)&&(abj v==0)&&decide (vLists v=0)
theorem a1z(v:PV)(z:acn v):F405 v=some (aug v):=by have e:(((vLists v:Nat):Int)==(0:Int))=decide (vLists v=0):=nbeq _ 0;have m:(v.fld 0).asInt=aa0 v:=rfl;have o:(v.fld 1).asInt=abj v:=rfl;have t:(v.fld 2).asStr=acu v:=rfl;unfold F405 aug;simp only[aw3 v z.1,e,m,o,t,agi];grind
theorem a1n(v:PV)(t:acn v):F416 v=some (aug v):=by have m:(v.fld 0).asInt=aa0 v:=rfl;have o:(v.fld 2).asStr=acu v:=rfl;unfold F416 aug;simp only[m,o,ais (acu v) (by have:=t.2.1;omega),a2k];unfold isV;grind
def an8(v:PV):Int:=bif (aa0 v==6)&&(af9 (abj v).toNat==0)then 9221120237041090560 else abj v
theorem atr{v:PV}(o:acn v):∃u:Nat,abj v=(u:Int)/\u<18446744073709551616:=by obtain⟨_,_,m,t⟩:=o;exact⟨(abj v).toNat,(Int.toNat_of_nonneg m).symm,by omega⟩
theorem a9z(v:PV)(z:acn v):∃w,F340 v=some w/\(w.fld 1).asInt=an8 v:=by
 obtain⟨u,G,m⟩:=atr z;have o:(v.fld 0).asInt=aa0 v:=rfl;have t:(v.fld 1).asInt=abj v:=rfl;unfold F340 an8;simp only[o,t,G,awb u m,Ae];cases(aa0 v==(6:Int))with
 |false=>grind
 |true=>
  cases h:af9 u==(0:Int)with
  |false=>grind
  |true=>exact⟨_,by simp[h];rfl,rfl⟩
theorem a5m(v:PV)(H:acn v):∃w,F309 v=some w/\F415 v w=some (an8 v==abj v):=by
 obtain⟨u,z,G⟩:=atr H;have o:(v.fld 0).asInt=aa0 v:=rfl;have t:(v.fld 1).asInt=abj v:=rfl;have m:F415 v v=some true:=by unfold F415;simp
 unfold F309 an8;simp only[o,t,z,ako u,Ae];cases(aa0 v==(6:Int))with
 |false=>exact⟨v,rfl,by rw[m];simp⟩
 |true=>
  cases h:af9 u==(0:Int)with
  |false=>exact⟨v,by simp[h],by rw[m];simp⟩
  |true=>refine⟨_,by simp[h];rfl,?_⟩;unfold F415;show some (bif (bif (bif (bif (bif (bif ((v.fld 0).asInt==aa0 v)then((v.fld 1).asInt==(9221120237041090560:Int))else false)then((v.fld 2).asStr==(v.fld 2).asStr)else false)then(((v.fld 3).asList.length:Int)==((v.fld 3).asList.length:Int))else false)then(((v.fld 4).asList.length:Int)==((v.fld 4).asList.length:Int))else false)then(((v.fld 5).asList.length:Int)==((v.fld 5).asList.length:Int))else false)then(((v.fld 6).asList.length:Int)==((v.fld 6).asList.length:Int))else false)=_;simp only[o,t,z,A1,Ad,Bool.and_self];rw[beqC (u:Int) _];cases((9221120237041090560:Int)==(u:Int))<;>rfl
noncomputable def aqz(x:PV):Bool:=
 bif !(x.fld 6).asBool then isV 0 0 [] (x.fld 7)else bif (x.fld 2).asInt==5 then false else bif ((x.fld 4).fld 0).asInt==0 then aug (x.fld 7)else ady ((x.fld 4).fld 0).asInt (x.fld 7)&&(an8 (x.fld 7)==abj (x.fld 7))
theorem ba2(x:PV)(h:OkFld x):F358 x=some (aqz x):=by obtain⟨w,o,t⟩:=a9z _ h.dflt;have m:((x.fld 7).fld 1).asInt=abj (x.fld 7):=rfl;unfold F358 aqz;simp only[a8x _ h.dflt,a1z _ h.dflt,o,ahb _ _ h.dflt,Aa,t,m];grind
theorem axw(x:PV)(h:OkFld x):F384 x=some (aqz x):=by obtain⟨w,m,o⟩:=a5m _ h.dflt;unfold F384 aqz;simp only[a2k,a1n _ h.dflt,m,ado _ _ h.dflt,Aa];cases(x.fld 6).asBool<;>cases((x.fld 2).asInt==(5:Int))<;>cases(((x.fld 4).fld 0).asInt==(0:Int))<;>cases ady ((x.fld 4).fld 0).asInt (x.fld 7)<;>first|rfl|simp[o]
def keyF(c k:Int):Bool:=bif c != 5 then k==0 else(decide (1<=k/\k<=5)||k==7)
theorem bhc(c k:Int):F357 c k=some (keyF c k):=by
 unfold F357 keyF;cases(c != (5:Int))with
 |true=>rfl
 |false=>
  have e:(bif (bif (decide (k>=(1:Int)))then(decide (k<=(7:Int)))else false)then(k != (6:Int))else false)=(decide (1<=k/\k<=5)||k==7):=by grind
  grind
theorem bdr(x:PV):F383 x=some (keyF (x.fld 2).asInt (x.fld 3).asInt):=by
 unfold F383 keyF;cases((x.fld 2).asInt != (5:Int))with
 |true=>rfl
 |false=>
  have e:(bif (decide ((x.fld 3).asInt>=(1:Int)))then(decide ((x.fld 3).asInt<=(5:Int)))else false)=decide (1<=(x.fld 3).asInt/\(x.fld 3).asInt<=5):=by rw[Bool.decide_and];cases decide ((x.fld 3).asInt<=(5:Int))<;>simp
  simp only[Af,e];cases decide (1<=(x.fld 3).asInt/\(x.fld 3).asInt<=5)<;>rfl
def asz(x:PV):Bool:=decide (0<=(x.fld 0).asInt/\(x.fld 0).asInt<=65535/\1<=(x.fld 2).asInt/\(x.fld 2).asInt<=5/\0<=((x.fld 4).fld 0).asInt/\((x.fld 4).fld 0).asInt<=8)
def bbr(x:PV):Bool:=((x.fld 5).asStr==[])||(((x.fld 2).asInt==2)&&!(x.fld 6).asBool)
noncomputable def ajq(x:PV):Bool:=asz x&&keyF (x.fld 2).asInt (x.fld 3).asInt&&bbr x&&aqz x
theorem a8a(x:PV)(h:OkFld x):F274 x=some (ajq x):=by
 have e:(bif (bif (bif (decide ((x.fld 0).asInt>=(0:Int)))then(decide ((x.fld 0).asInt<=(65535:Int)))else false)then(decide ((x.fld 2).asInt>=(1:Int)))else false)then(decide ((x.fld 2).asInt<=(5:Int)))else false)=decide (0<=(x.fld 0).asInt/\(x.fld 0).asInt<=65535/\1<=(x.fld 2).asInt/\(x.fld 2).asInt<=5):=by grind
 have m:((((x.fld 4).fld 0).asInt==(0:Int))||agq ((x.fld 4).fld 0).asInt)=decide (0<=((x.fld 4).fld 0).asInt/\((x.fld 4).fld 0).asInt<=8):=by unfold agq;grind
 unfold F274 ajq asz;simp only[e,bhc,au0,ba2 x h];rw[show decide (0<=(x.fld 0).asInt/\(x.fld 0).asInt<=65535/\1<=(x.fld 2).asInt/\(x.fld 2).asInt<=5/\0<=((x.fld 4).fld 0).asInt/\((x.fld 4).fld 0).asInt<=8)=(decide (0<=(x.fld 0).asInt/\(x.fld 0).asInt<=65535/\1<=(x.fld 2).asInt/\(x.fld 2).asInt<=5)&&decide (0<=((x.fld 4).fld 0).asInt/\((x.fld 4).fld 0).asInt<=8)) by grind,<-m];unfold bbr;generalize decide (0<=(x.fld 0).asInt/\(x.fld 0).asInt<=65535/\1<=(x.fld 2).asInt/\(x.fld 2).asInt<=5)=o;generalize keyF (x.fld 2).asInt (x.fld 3).asInt=t;generalize(((x.fld 4).fld 0).asInt==(0:Int))=z;generalize agq ((x.fld 4).fld 0).asInt=G;generalize((x.fld 5).asStr==([]:Bn))=H;generalize((x.fld 2).asInt==(2:Int))=I;generalize(x.fld 6).asBool=J;generalize aqz x=M;cases o<;>cases t<;>cases z<;>cases G<;>cases H<;>cases I<;>cases J<;>cases M<;>rfl
theorem axr(x:PV)(h:OkFld x):F319 x=some (ajq x):=by
 have e:(bif (bif (bif (bif (bif (decide ((x.fld 0).asInt<(0:Int)))then true else(decide ((x.fld 0).asInt>(65535:Int))))then true else(decide ((x.fld 2).asInt<(1:Int))))then true else(decide ((x.fld 2).asInt>(5:Int))))then true else(decide (((x.fld 4).fld 0).asInt<(0:Int))))then true else(decide (((x.fld 4).fld 0).asInt>(8:Int))))=!asz x:=by unfold asz;simp only[aso];simp only[<-Bool.decide_or,<-decide_not,decide_eq_decide];omega
 unfold F319 ajq;rw[e];simp only[bdr,axw x h,Aa];unfold bbr;generalize asz x=m;generalize keyF (x.fld 2).asInt (x.fld 3).asInt=o;generalize((x.fld 5).asStr==([]:Bn))=t;generalize((x.fld 2).asInt==(2:Int))=z;generalize(x.fld 6).asBool=G;generalize aqz x=H;cases m<;>cases o<;>cases t<;>cases z<;>cases G<;>cases H<;>rfl
def un(l:List PV)(i:Nat):Bn:=((l.getD i .bad).fld 5).asStr
def apart(l:List PV)(i k:Nat):Bool:=(un l k==un l i)&&!(un l i==[])&&!(un l (i-1)==un l i)
def adjP(l:List PV):Bool:=allF (λi=>allF (λk=>!apart l i k) 0 i) 0 l.length
theorem bie(l:List PV)(I:l.length<=1048576)(i:Nat)(t:i<l.length):aan ((Y6 S275_6)) (l,(i:Int),(l.length:Int),(i:Int),(i:Int),(0:Int))=some (bif allF (λk=>!apart l i k) 0 i then .inr (l,(l.length:Int),(i:Int))else .inl false):=
 acj (step:=(Y6 S275_6)) (λk=>(l,(i:Int),(l.length:Int),(i:Int),(i:Int),(k:Int))) i (λk=>!apart l i k) (Sum.inl false:Bool⊕(List PV×Int×Int)) (Sum.inr (l,(l.length:Int),(i:Int))) (λk z=>by
  have o:k<l.length:=by omega
  have G:IntKind.wrap .i64 ((i:Int)-(1:Int))=((i-1:Nat):Int):=by grind[abd]
  have m:i-1<l.length:=by omega
  have H:((l.getD k .bad).fld 5).asStr=un l k:=rfl;have u2:((l.getD i .bad).fld 5).asStr=un l i:=rfl;have u3:((l.getD (i-1) .bad).fld 5).asStr=un l (i-1):=rfl;simp only[Y6,S275_6,aai,z,aaa,o,t,m,G,decide_true,Ad,Ae,H,u2,u3,abf (i:=k) (by omega)];grind[apart,imp,un]) (by
  simp only[Y6,S275_6,aai,Nat.lt_irrefl,decide_false,Af]) i 0 (by omega)
theorem ayi(l:List PV)(o:l.length<=1048576):F275 l=some (adjP l):=by
 have h:=acj (step:=(Y3 S275_3)) (λi=>(l,(l.length:Int),(i:Int))) l.length (λi=>allF (λk=>!apart l i k) 0 i) (Sum.inl false:Bool⊕Unit) (Sum.inr ()) (λi m=>by
  simp only[Y3,S275_3,aai,m,decide_true,Ad,aas,bie l o i m,Aa];cases allF (λk=>!apart l i k) 0 i with
  |false=>rfl
  |true=>simp only[Ad,abg,abf (i:=i) (by omega)]) (by
  simp only[Y3,S275_3,aai,Nat.lt_irrefl,decide_false,Af]) l.length 0 (by omega)
 unfold F275 adjP;rw[aas,show(0:Int)=((0:Nat):Int)from rfl,h];cases allF (λi=>allF (λk=>!apart l i k) 0 i) 0 l.length<;>rfl
theorem bal(l:List PV)(I:l.length<=1048576)(i:Nat)(t:i<l.length):aan ((Y3 S317_6)) (l,(i:Int),(0:Int))=some (bif allF (λk=>!apart l i k) 0 i then .inr (l,(i:Int))else .inl false):=
 acj (step:=(Y3 S317_6)) (λk=>(l,(i:Int),(k:Int))) i (λk=>!apart l i k) (Sum.inl false:Bool⊕(List PV×Int)) (Sum.inr (l,(i:Int))) (λk z=>by
  have o:k<l.length:=by omega
  have G:IntKind.wrap .i64 ((i:Int)-(1:Int))=((i-1:Nat):Int):=by rw[show(i:Int)-1=((i-1:Nat):Int) by omega];exact abd (by omega)
  have m:i-1<l.length:=by omega
  have H:((l.getD k .bad).fld 5).asStr=un l k:=rfl;have u2:((l.getD i .bad).fld 5).asStr=un l i:=rfl;have u3:((l.getD (i-1) .bad).fld 5).asStr=un l (i-1):=rfl;simp only[Y3,S317_6,aai,z,aaa,o,t,m,G,decide_true,Ad,Ae,H,u2,u3,abf (i:=k) (by omega),beqC (un l i) (un l k)];unfold apart imp;cases(un l k==un l i)<;>cases(un l i==([]:Bn))<;>cases(un l (i-1)==un l i)<;>rfl) (by
  simp only[Y3,S317_6,aai,Nat.lt_irrefl,decide_false,Af]) i 0 (by omega)
theorem ar1(l:List PV)(o:l.length<=1048576):F317 l=some (adjP l):=by
 have h:=acj (step:=(Y2 S317_3)) (λi=>(l,(i:Int))) l.length (λi=>allF (λk=>!apart l i k) 0 i) (Sum.inl false:Bool⊕Unit) (Sum.inr ()) (λi m=>by
  simp only[Y2,S317_3,aai,m,decide_true,Ad,aas,bal l o i m,Aa];cases allF (λk=>!apart l i k) 0 i with
  |false=>rfl
  |true=>simp only[Ad,abg,abf (i:=i) (by omega)]) (by
  simp only[Y2,S317_3,aai,Nat.lt_irrefl,decide_false,Af]) l.length 0 (by omega)
 unfold F317 adjP;rw[aas,show(0:Int)=((0:Nat):Int)from rfl,h];cases allF (λi=>allF (λk=>!apart l i k) 0 i) 0 l.length<;>rfl
def ahy(m:Int)(x:PV):Bool:=decide (0<=(x.fld 0).asInt/\(x.fld 0).asInt<=m/\0<=(x.fld 1).asInt/\(x.fld 1).asInt<=m)
theorem a2n(l:List PV)(t:l.length<=1048576)(m:Int):F276 l m=some (l.all (ahy m)):=by
 have o:∀x,F406 x () () m=some (!(ahy m x),(),m):=λx=>by
  unfold F406 F360 ahy;generalize(x.fld 0).asInt=a;generalize(x.fld 1).asInt=b;have e:(bif (decide ((if b<a then b else a)>=(0:Int)))then(decide ((if b>a then b else a)<=m))else false)=decide (0<=a/\a<=m/\0<=b/\b<=m):=by grind
  grind
 have e:F252_c406 l () () m=_:=af8 (c:=((),m)) (show l.length<=1000000000000 by omega) (λx=>!ahy m x) λx _=>o x;unfold F276 F359_c360;rw[e,List.all_eq_not_any_not];rfl
theorem aqq(l:List PV)(t:l.length<=1048576)(m:Int):F318 l m=some (l.all (ahy m)):=by
 have h:=acj (step:=(Y3 S318_3)) (λi=>(l,m,(i:Int))) l.length (λi=>ahy m (l.getD i .bad)) (Sum.inl false:Bool⊕Unit) (Sum.inr ()) (λi o=>by
  simp only[Y3,S318_3,aai,aaa,o,decide_true,Ad,Ae,abf (i:=i) (by omega),imp];have e:∀a b:Int,(bif (bif (bif decide (a<(0:Int))then true else decide (a>m))then true else decide (b<(0:Int)))then true else decide (b>m))=!decide (0<=a/\a<=m/\0<=b/\b<=m):=λa b=>by simp only[aso];simp only[<-Bool.decide_or,<-decide_not,decide_eq_decide];omega
  rw[e];show _=some (bif decide (0<=((l.getD i .bad).fld 0).asInt/\((l.getD i .bad).fld 0).asInt<=m/\0<=((l.getD i .bad).fld 1).asInt/\((l.getD i .bad).fld 1).asInt<=m)then _ else _);cases decide (0<=((l.getD i .bad).fld 0).asInt/\((l.getD i .bad).fld 0).asInt<=m/\0<=((l.getD i .bad).fld 1).asInt/\((l.getD i .bad).fld 1).asInt<=m)<;>rfl) (by
  simp only[Y3,S318_3,aai,Nat.lt_irrefl,decide_false,Af]) l.length 0 (by omega)
 rw[ayj]at h;unfold F318;rw[aas,show(0:Int)=((0:Nat):Int)from rfl,h];cases l.all (ahy m)<;>rfl
noncomputable def ani(m:PV):Bool:=(m.fld 1).asList.all ajq&&adjP (m.fld 1).asList&&(m.fld 2).asList.all (ahy 65535)
def aj9(x:PV):Bool:=decide ((x.fld 1).asInt>=0)&&decide ((x.fld 1).asInt<=2147483647)
def aj8(m:PV):Bool:=(m.fld 3).asList.all (ahy 2147483647)&&(m.fld 2).asList.all aj9
def amf(x:PV):Bool:=decide ((x.fld 3).asInt>=1)&&decide ((x.fld 3).asInt<=4)
def asd(m:PV):Bool:=(m.fld 1).asList.all amf
noncomputable def aft(f:PV):Bool:=(f.fld 3).asList.all ani&&(f.fld 4).asList.all aj8&&(f.fld 5).asList.all asd
theorem a6t(m:PV)(h:OkMsg m):F273 m=some (ani m):=by unfold F273 ani;simp only[ev_af _ ajq h.fields λx o=>a8a x (h.field x o),ayi _ h.fields,a2n _ h.spans,Aa];grind
theorem a3d(m:PV)(h:OkEnum m):F277 m=some (aj8 m):=by unfold F277 aj8;simp only[ev_ai _ aj9 h.items λx o=>by unfold F278 aj9;rw[ag6],a2n _ h.spans,Aa];grind
theorem a6u(m:PV)(h:OkSvc m):F279 m=some (asd m):=by unfold F279 asd;simp only[ev_ad _ amf h.meths λx o=>by unfold F280 amf;rw[ag6],Aa]
theorem a5f(f:PV)(h:OkFile f):F170 f=some (aft f):=by unfold F170 aft;simp only[Aa,ev_am _ ani h.msgs λx m=>a6t x (h.msg x m),ev_ae _ aj8 h.enums λx m=>a3d x (h.enum x m),ev_as _ asd h.svcs λx m=>a6u x (h.svc x m)];grind
theorem afy(f m:PV)(i:Int)(h:∀x,x∈(m.fld 1).asList->OkFld x)(z:(m.fld 1).asList.length<=1048576)(b:Bool):
 aan ((Y7 S225_9)) ((),b,i,(),(0:Int),f,m)=some ((),b&&(m.fld 1).asList.all ajq,i,f,m):=
 abv (step:=(Y7 S225_9)) (λk b=>((),b,i,(),(k:Int),f,m)) (λb=>((),b,i,f,m)) (m.fld 1).asList .bad ajq (λk b o=>by
  have t:=h _ (aaq o .bad);simp only[Y7,S225_9,aai,aaa,o,decide_true,Ad,Ae,axr _ t,Aa,abf (i:=k) (by omega),imp];cases b<;>rfl) (λb=>by
  simp only[Y7,S225_9,aai,Nat.lt_irrefl,decide_false,Af]) b
theorem ar2(f:PV)(h:OkFile f)(b:Bool):aan ((Y4 S225_4)) ((),b,(0:Int),f)=some ((),b&&(f.fld 3).asList.all ani,f):=
 abv (step:=(Y4 S225_4)) (λk b=>((),b,(k:Int),f)) (λb=>((),b,f)) (f.fld 3).asList .bad ani (λk b o=>by
  have m:=h.msg _ (aaq o .bad);have t:=h.msgs;simp only[Y4,S225_4,aai,aaa,o,decide_true,Ad,Ae,ar1 _ m.fields,aqq _ m.spans,Aa];unfold ani;cases b with
  |false=>simp only[Af,Aa,aas,afy f _ _ m.field m.fields,abf (i:=k) (by omega),Bool.false_and]
  |true=>
   cases adjP (((f.fld 3).asList.getD k .bad).fld 1).asList with
   |false=>simp only[Ad,Af,Aa,aas,afy f _ _ m.field m.fields,abf (i:=k) (by omega),Bool.false_and,Bool.and_false]
   |true=>simp only[Ad,Aa,aas,afy f _ _ m.field m.fields,abf (i:=k) (by omega),Bool.true_and,Bool.and_true];rw[Bool.and_comm]) (λb=>by
  simp only[Y4,S225_4,aai,Nat.lt_irrefl,decide_false,Af]) b
theorem ain(f:PV)(i:Nat)(m:i<(f.fld 4).asList.length)(h:OkEnum ((f.fld 4).asList.getD i .bad))(b:Bool):
 aan ((Y5 S225_17)) ((),b,(i:Int),(0:Int),f)=some ((),b&&(((f.fld 4).asList.getD i .bad).fld 2).asList.all aj9,(i:Int),f):=
 abv (step:=(Y5 S225_17)) (λk b=>((),b,(i:Int),(k:Int),f)) (λb=>((),b,(i:Int),f)) (((f.fld 4).asList.getD i .bad).fld 2).asList .bad aj9 (λk b o=>by
  have t:=h.items;simp only[Y5,S225_17,aai,aaa,m,o,decide_true,Ad,Ae,Aa,abf (i:=k) (by omega),ag6];unfold aj9;rw[Bool.and_assoc]) (λb=>by
  simp only[Y5,S225_17,aai,aaa,m,decide_true,Ad,Ae,Nat.lt_irrefl,decide_false,Af]) b
theorem aqk(f:PV)(h:OkFile f)(b:Bool):aan ((Y4 S225_13)) ((),b,(0:Int),f)=some ((),b&&(f.fld 4).asList.all aj8,f):=
 abv (step:=(Y4 S225_13)) (λk b=>((),b,(k:Int),f)) (λb=>((),b,f)) (f.fld 4).asList .bad aj8 (λk b m=>by
  have o:=h.enum _ (aaq m .bad);have t:=h.enums;simp only[Y4,S225_13,aai,aaa,m,decide_true,Ad,Ae,aqq _ o.spans,Aa,imp];cases b with
  |false=>simp only[Af,Aq,Ad,Aa,aas,ain f k m o,abf (i:=k) (by omega),Bool.false_and]
  |true=>simp only[Ad,Aa,aas,ain f k m o,abf (i:=k) (by omega),Bool.true_and];rfl) (λb=>by
  simp only[Y4,S225_13,aai,Nat.lt_irrefl,decide_false,Af]) b
theorem aql(f:PV)(i:Nat)(m:i<(f.fld 5).asList.length)(h:OkSvc ((f.fld 5).asList.getD i .bad))(b:Bool):
 aan ((Y5 S225_25)) ((),b,(i:Int),(0:Int),f)=some ((),b&&(((f.fld 5).asList.getD i .bad).fld 1).asList.all amf,(i:Int),f):=
 abv (step:=(Y5 S225_25)) (λk b=>((),b,(i:Int),(k:Int),f)) (λb=>((),b,(i:Int),f)) (((f.fld 5).asList.getD i .bad).fld 1).asList .bad amf (λk b o=>by
  have t:=h.meths;simp only[Y5,S225_25,aai,aaa,m,o,decide_true,Ad,Ae,Aa,abf (i:=k) (by omega),ag6];unfold amf;rw[Bool.and_assoc]) (λb=>by
  simp only[Y5,S225_25,aai,aaa,m,decide_true,Ad,Ae,Nat.lt_irrefl,decide_false,Af]) b
theorem ar3(f:PV)(h:OkFile f)(b:Bool):aan ((Y4 S225_22)) ((),b,(0:Int),f)=some (b&&(f.fld 5).asList.all asd,f):=
 abv (step:=(Y4 S225_22)) (λk b=>((),b,(k:Int),f)) (λb=>(b,f)) (f.fld 5).asList .bad asd (λk b m=>by
  have o:=h.svc _ (aaq m .bad);have t:=h.svcs;simp only[Y4,S225_22,aai,m,decide_true,Ad,aas,aql f k m o,abf (i:=k) (by omega),Aa];rfl) (λb=>by
  simp only[Y4,S225_22,aai,Nat.lt_irrefl,decide_false,Af]) b
theorem aqm(f:PV)(h:OkFile f):F225 f=some (aft f):=by unfold F225 aft;simp only[aas,ar2 f h,aqk f h,ar3 f h,Aa,Bool.true_and]
end Go.Ab
namespace Go.Ab
open Go
set_option maxRecDepth 100000
theorem ama(s:Bn)(m:s.length<=1048576):F210 s=some (aeq s):=by
 unfold F210 aeq;rw[ags s (by omega)];cases aej s with
 |true=>simp only[Aa,Ad,agt,Bool.true_and]
 |false=>grind
theorem bdb{s:Bn}(h:ae7 s=true):s.length<=120:=by grind[ae7]
theorem aye:∀(m i:Nat)(s:Bn),s.length<=m->s.length+i<=120->(s=[]\/∀p,p∈aa3 46 s->p≠[])->
 aan ((Y2 S209_5)) (s,(i:Int))=some (bif s==[]||(aa3 46 s).all λx=>!ah0 x then .inr ()else .inl false):=by
 intro m
 induction m with
 |zero=>grind[List.eq_nil_of_length_eq_zero,aae,Y2,S209_5,decide]
 |succ m ih=>
  intro i s hm hs hp
  cases s with
  |nil=>grind
  |cons c r=>
   have G:((c::r)==([]:Bn))=false:=rfl
   have U:decide ((i:Int)<120)=true:=Ah (by grind)
   obtain⟨z,t,Y,I⟩:=aqs (c::r) (by omega)
   have H:∀p,p∈aa3 46 (c::r)->p≠[]:=by grind
   have o:(Y2 S209_5) (c::r,(i:Int))=some (bif ah0 t then .inr (.inl false)else .inl (z,((i+1:Nat):Int))):=by simp only[Y2,S209_5,G,U,Aq,Ad,Y,Aa,agt,abf (show i<=9223372036854775000 by omega)];grind
   rcases I with⟨I,O⟩|⟨rfl,rfl,O⟩
   ·have V:z.length<(c::r).length:=by rw[I];simp
    have Z:aa3 46 (c::r)=aa3 46 z++[t]:=by grind[as7,al6]
    have M:z≠[]:=by intro e;exact H [] (by grind[aa3]) rfl
    have W:(z==([]:Bn))=false:=by simpa using M
    have J:∀p,p∈aa3 46 z->p≠[]:=λp h=>H p (by grind);have U:=ih (i+1) z (by omega) (by omega) (Or.inr J);grind[ah0,aae,aal]
   ·rw[al6 _ _ O,G];cases X:ah0 (c::r)with
    |true=>grind[aae]
    |false=>rw[X]at o;rw[aal o,aae (y:=.inr ()) (by grind[Y2,S209_5,decide])];simp[X]
theorem am5(s:Bn)(H:s.length<=1048576):F209 s=some (defP s):=by
 unfold F209 defP;rw[ad6 s H,Aa];cases t:ae7 s with
 |false=>rfl
 |true=>
  have m:(aa3 46 s).all aej=true:=by unfold ae7 at t;grind
  have z:s≠[]:=by grind[aa3,aej]
  have o:(s==([]:Bn))=false:=by simpa using z
  have h:=aye s.length 0 s (by omega) (bdb t) (Or.inr λp G=>a2e (Be.1 m p G));simp only[An,Af,aas];rw[show(0:Int)=((0:Nat):Int)from rfl,h,o];cases(aa3 46 s).all λx=>!ah0 x<;>rfl
end Go.Ab
