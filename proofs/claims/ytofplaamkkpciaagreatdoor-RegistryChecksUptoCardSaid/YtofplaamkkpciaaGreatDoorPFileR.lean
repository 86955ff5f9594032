/- Enums, services, files: the same text in the program and the specification. -/
import Derived.Test.YtofplaamkkpciaaGreatDoorPRowR
set_option linter.unusedVariables false
set_option linter.unusedSimpArgs false
set_option linter.unnecessarySimpa false
namespace Go.Ab
open Go
set_option maxRecDepth 100000
theorem ajh(g:PV->Bn):∀(l:List PV)(b:Bn),l.foldl (λb x=>b++g x) b=b++l.flatMap g:=by
 intro l;induction l with
 |nil=>intro b;simp
 |cons x r m=>grind
theorem auv(g:PV->Bn)(B:Nat):∀l:List PV,(∀x,x∈l->(g x).length<=B)->(l.flatMap g).length<=B*l.length:=by
 intro l;induction l with
 |nil=>intro _;simp
 |cons x r m=>grind[List.length_append,List.length_cons,Nat.mul_add]
structure EnumOk(m:PV):Prop where
 ok:OkEnum m
 items:(m.fld 2).asList.length<=64
 num:∀x,x∈(m.fld 2).asList->0<=(x.fld 1).asInt/\(x.fld 1).asInt<=2147483647
 ifew:∀x,x∈(m.fld 2).asList->(x.fld 2).asList.length<=40
 spans:(m.fld 3).asList.length<=16
 span:∀x,x∈(m.fld 3).asList->ah3 2147483647 x=true
 few:(m.fld 4).asList.length<=40
noncomputable def aqd(x:PV):Bn:=[32,32]++((x.fld 0).asStr++([32,61,32]++(numT (x.fld 1).asInt++(ael (x.fld 2).asList++[59,10]))))
theorem aqe(x:PV)(h:OkItem x)(m:(x.fld 2).asList.length<=40):(aqd x).length<=202000000:=by have o:=ab7 _ m h.note;have t:=ad4 (x.fld 1).asInt;have z:=h.name;grind[aqd,List.length_append,List.length_cons,List.length_nil]
noncomputable def ajy(m:PV):Bn:=
 (bif (m.fld 1).asBool then[111,112,101,110,32]else[])++([101,110,117,109,32]++((m.fld 0).asStr++(ael (m.fld 4).asList++([32,123,10]++((m.fld 2).asList.flatMap aqd++(resT spT (m.fld 3).asList++[125,10]))))))
theorem akl(m:PV)(h:EnumOk m):(ael (m.fld 4).asList).length<=200000201/\((m.fld 2).asList.flatMap aqd).length<=12928000000/\(resT spT (m.fld 3).asList).length<=1000:=by have t:=ab7 _ h.few h.ok.note;have z:=auv aqd 202000000 (m.fld 2).asList λx o=>aqe x (h.ok.item x o) (h.ifew x o);have G:=avy spT 43 (m.fld 3).asList λx _=>anm x;have H:202000000*(m.fld 2).asList.length<=202000000*64:=Nat.mul_le_mul (by omega) h.items;have I:(43+2)*(m.fld 3).asList.length<=45*16:=Nat.mul_le_mul (by omega) h.spans;grind
theorem ap0(m:PV)(h:EnumOk m):(ajy m).length<=20000000000:=by obtain⟨o,t,z⟩:=akl m h;have G:=h.ok.name;unfold ajy;cases(m.fld 1).asBool<;>simp only[Ad,Af,Ak,Al,Am]<;>omega
theorem a5w(m:PV)(h:EnumOk m)(b:Bn)(X:b.length<=20000000000000):
 aap ((Y7 S211_7)) ((),(),(m.fld 2).asList,((m.fld 2).asList.length:Int),(0:Int),b,m)=some ((),(),b++(m.fld 2).asList.flatMap aqd,m):=by
 have Y:=h.items
 have q:=aak (step:=(Y7 S211_7)) (λk(b:Bn)=>((),(),(m.fld 2).asList,((m.fld 2).asList.length:Int),(k:Int),b,m)) (λb=>((),(),b,m)) (m.fld 2).asList .bad (λb x=>b++aqd x) (λk b=>b.length<=20000000000000+202000000*k) (λk b G W=>by
  have z:=aas G .bad;have o:=h.ok.item _ z;have t:=h.ifew _ z;have H:=h.num _ z;have J:=aqe _ o t;have M:=o.name;have O:=ab7 _ t o.note;have U:=ad4 (((m.fld 2).asList.getD k .bad).fld 1).asInt;have I:=af8 _ t o.note;have V:202000000*k<=202000000*64:=Nat.mul_le_mul (by omega) (by omega);refine⟨?_,by grind⟩;simp only[Y7,S211_7,aai,aaa,G,decide_true,Ad,Ae,I,aow H.1 H.2,Aa,abh (i:=k) (by omega)];simp(disch:=(first|omega|(simp only[Ak,Al,Am];omega))) only[adh,a0j,Aa];simp only[aqd,Aq,A2,Aw]) (λb _=>by
  simp only[Y7,S211_7,aai,Nat.lt_irrefl,decide_false,Af]) (m.fld 2).asList.length 0 b (by omega) (by omega)
 grind[ajh]
theorem avr(m:PV)(h:EnumOk m)(b:Bn)(X:b.length<=20000000000000):
 aap ((Y4 S181_6)) ((),b,(0:Int),m)=some ((),b++(m.fld 2).asList.flatMap aqd,m):=by
 have Y:=h.items
 have q:=aak (step:=(Y4 S181_6)) (λk(b:Bn)=>((),b,(k:Int),m)) (λb=>((),b,m)) (m.fld 2).asList .bad (λb x=>b++aqd x) (λk b=>b.length<=20000000000000+202000000*k) (λk b G W=>by
  have z:=aas G .bad;have o:=h.ok.item _ z;have t:=h.ifew _ z;have H:=h.num _ z;have J:=aqe _ o t;have M:=o.name;have O:=ab7 _ t o.note;have U:=ad4 (((m.fld 2).asList.getD k .bad).fld 1).asInt;have I:=ajp _ t o.note;have V:202000000*k<=202000000*64:=Nat.mul_le_mul (by omega) (by omega);refine⟨?_,by simp only[Ak,Nat.mul_add];omega⟩;simp only[Y4,S181_6,aai,aaa,G,decide_true,Ad,Ae,I,ahc H.1 H.2,Aa,abh (i:=k) (by omega)];simp(disch:=(first|omega|(simp only[Ak,Al,Am];omega))) only[adh,Aa];simp only[aqd,Aq,A2,Aw]) (λb _=>by
  simp only[Y4,S181_6,aai,Nat.lt_irrefl,decide_false,Af]) (m.fld 2).asList.length 0 b (by omega) (by omega)
 rw[Ar,ajh]at q
 exact q.1
theorem bhl(m:PV)(h:EnumOk m)(bs:Bn)(O:bs.length<=10000000000000):F211 () m bs=some (bs++ajy m):=by obtain⟨H,I,J⟩:=akl m h;have M:=h.ok.name;have t:=af8 _ h.few h.ok.note;have z:∀c:Bn,c.length<=20000000000000->_:=λc o=>a5w m h c o;have G:∀c:Bn,c.length<=50000000000000->_:=λc o=>ayb _ h.spans h.span c o;unfold F211 ajy;simp only[t,Aa,aat];cases(m.fld 1).asBool<;>simp(disch:=(first|omega|(simp only[Ak,Al,Am];omega))) only[Ad,Af,adh,a0i,z,G,Aa,Aq,Aw,A2]
theorem a6p(m:PV)(h:EnumOk m):F181 m=some (ajy m):=by obtain⟨H,I,J⟩:=akl m h;have M:=h.ok.name;have t:=ajp _ h.few h.ok.note;have z:∀c:Bn,c.length<=20000000000000->_:=λc G=>avr m h c G;have o:=ark _ h.spans h.span;unfold F181 ajy;simp only[t,o,Aa,aat];cases(m.fld 1).asBool<;>simp(disch:=(first|omega|(simp only[Ak,Al,Am];omega))) only[Ad,Af,adh,z,o,Aa,Aq,Aw,A2]
structure SvcOk(m:PV):Prop where
 ok:OkSvc m
 meths:(m.fld 1).asList.length<=64
 mfew:∀x,x∈(m.fld 1).asList->(x.fld 4).asList.length<=40
 few:(m.fld 2).asList.length<=40
def bb8(b:Bool)(s:Bn):Bn:=bif b then[115,116,114,101,97,109,32]++s else s
noncomputable def aqo(x:PV):Bn:=
 [32,32,114,112,99,32]++((x.fld 0).asStr++([40]++(bb8 (((x.fld 3).asInt==3)||((x.fld 3).asInt==4)) (x.fld 1).asStr++([41,32,114,101,116,117,114,110,115,32,40]++(bb8 (((x.fld 3).asInt==2)||((x.fld 3).asInt==4)) (x.fld 2).asStr++([41]++(ael (x.fld 4).asList++[59,10])))))))
theorem aqp(x:PV)(h:OkMeth x)(m:(x.fld 4).asList.length<=40):(aqo x).length<=205000000:=by have o:=ab7 _ m h.note;have t:=h.inn;have z:=h.out;have G:=h.name;unfold aqo bb8;cases(((x.fld 3).asInt==3)||((x.fld 3).asInt==4))<;>cases(((x.fld 3).asInt==2)||((x.fld 3).asInt==4))<;>simp only[Ad,Af,Ak,Al,Am]<;>omega
noncomputable def svcT(m:PV):Bn:=
 [115,101,114,118,105,99,101,32]++((m.fld 0).asStr++(ael (m.fld 2).asList++([32,123,10]++((m.fld 1).asList.flatMap aqo++[125,10]))))
theorem ann(m:PV)(h:SvcOk m):(ael (m.fld 2).asList).length<=200000201/\((m.fld 1).asList.flatMap aqo).length<=13120000000:=by have t:=ab7 _ h.few h.ok.note;have z:=auv aqo 205000000 (m.fld 1).asList λx o=>aqp x (h.ok.meth x o) (h.mfew x o);have G:205000000*(m.fld 1).asList.length<=205000000*64:=Nat.mul_le_mul (by omega) h.meths;grind
theorem a4c(m:PV)(h:SvcOk m):(svcT m).length<=20000000000:=by obtain⟨o,t⟩:=ann m h;have z:=h.ok.name;grind[svcT,List.length_append,List.length_cons,List.length_nil]
theorem a6e(m:PV)(h:SvcOk m)(b:Bn)(X:b.length<=20000000000000):
 aap ((Y6 S213_4)) ((),(m.fld 1).asList,((m.fld 1).asList.length:Int),(0:Int),b,m)=some ((),b++(m.fld 1).asList.flatMap aqo,m):=by
 have Y:=h.meths
 have q:=aak (step:=(Y6 S213_4)) (λk(b:Bn)=>((),(m.fld 1).asList,((m.fld 1).asList.length:Int),(k:Int),b,m)) (λb=>((),b,m)) (m.fld 1).asList .bad (λb x=>b++aqo x) (λk b=>b.length<=20000000000000+205000000*k) (λk b z W=>by
  have G:=aas z .bad;have o:=h.ok.meth _ G;have t:=h.mfew _ G;have I:=aqp _ o t;have J:=o.name;have M:=ab7 _ t o.note;have O:=o.inn;have V:=o.out;have H:=af8 _ t o.note;have U:205000000*k<=205000000*64:=Nat.mul_le_mul (by omega) (by omega);refine⟨?_,by grind⟩;simp only[Y6,S213_4,aai,aaa,z,decide_true,Ad,Ae,H,Aa,abh (i:=k) (by omega),atg];unfold aqo bb8;cases(((((m.fld 1).asList.getD k .bad).fld 3).asInt==(3:Int))||((((m.fld 1).asList.getD k .bad).fld 3).asInt==(4:Int)))<;>cases(((((m.fld 1).asList.getD k .bad).fld 3).asInt==(2:Int))||((((m.fld 1).asList.getD k .bad).fld 3).asInt==(4:Int)))<;>simp(disch:=(first|omega|(simp only[Ak,Al,Am];omega))) only[Ad,Af,adh,a0j,Aa,Aq,A2,Aw]) (λb _=>by
  simp only[Y6,S213_4,aai,Nat.lt_irrefl,decide_false,Af]) (m.fld 1).asList.length 0 b (by omega) (by omega)
 grind[ajh]
theorem avs(m:PV)(h:SvcOk m)(b:Bn)(X:b.length<=20000000000000):
 aap ((Y4 S182_4)) ((),b,(0:Int),m)=some (b++(m.fld 1).asList.flatMap aqo,m):=by
 have Y:=h.meths
 have q:=aak (step:=(Y4 S182_4)) (λk(b:Bn)=>((),b,(k:Int),m)) (λb=>(b,m)) (m.fld 1).asList .bad (λb x=>b++aqo x) (λk b=>b.length<=20000000000000+205000000*k) (λk b z W=>by
  have G:=aas z .bad;have o:=h.ok.meth _ G;have t:=h.mfew _ G;have I:=aqp _ o t;have J:=o.name;have M:=ab7 _ t o.note;have O:=o.inn;have V:=o.out;have H:=ajp _ t o.note;have U:205000000*k<=205000000*64:=Nat.mul_le_mul (by omega) (by omega);refine⟨?_,by simp only[Ak,Nat.mul_add];omega⟩;simp only[Y4,S182_4,aai,aaa,z,decide_true,Ad,Ae,H,Aa,abh (i:=k) (by omega),atg];unfold aqo bb8;cases(((((m.fld 1).asList.getD k .bad).fld 3).asInt==(3:Int))||((((m.fld 1).asList.getD k .bad).fld 3).asInt==(4:Int)))<;>cases(((((m.fld 1).asList.getD k .bad).fld 3).asInt==(2:Int))||((((m.fld 1).asList.getD k .bad).fld 3).asInt==(4:Int)))<;>simp(disch:=(first|omega|(simp only[Ak,Al,Am];omega))) only[Ad,Af,adh,Aa,Aq,A2,Aw]) (λb _=>by
  simp only[Y4,S182_4,aai,Nat.lt_irrefl,decide_false,Af]) (m.fld 1).asList.length 0 b (by omega) (by omega)
 rw[Ar,ajh]at q
 exact q.1
theorem bll(m:PV)(h:SvcOk m)(bs:Bn)(J:bs.length<=10000000000000):F213 () m bs=some (bs++svcT m):=by obtain⟨G,H⟩:=ann m h;have I:=h.ok.name;have o:=af8 _ h.few h.ok.note;have t:∀c:Bn,c.length<=20000000000000->_:=λc z=>a6e m h c z;unfold F213 svcT;simp only[o,Aa,aat];simp(disch:=(first|omega|(simp only[Ak,Al,Am];omega))) only[adh,a0i,t,Aa,Aq,Aw,A2]
theorem bbs(m:PV)(h:SvcOk m):F182 m=some (svcT m):=by obtain⟨G,H⟩:=ann m h;have I:=h.ok.name;have o:=ajp _ h.few h.ok.note;have t:∀c:Bn,c.length<=20000000000000->_:=λc z=>avs m h c z;unfold F182 svcT;simp only[o,Aa,aat];simp(disch:=(first|omega|(simp only[Ak,Al,Am];omega))) only[adh,t,Aa,Aq,Aw,A2]
def defG(g:PV->Bn)(b:Bn)(x:PV):Bn:=(bif b==[]then b else b++[10])++g x
theorem a2r(g:PV->Bn):∀(l:List PV)(b:Bn),(∀x,x∈l->(g x).length<=20000000000)->(l.foldl (defG g) b).length<=b.length+20000000001*l.length:=by
 intro l;induction l with
 |nil=>intro b _;simp
 |cons x r m=>grind[defG]
theorem lenB(b:Bn):decide ((b.length:Int)>(0:Int))=!(b==([]:Bn)):=by
 cases b with
 |nil=>rfl
 |cons x r=>grind
theorem amw(b d:Bn)(m:b.length+d.length<=100000000000000):F179 b d=some ((bif b==[]then b else b++[10])++d):=by
 unfold F179;cases h:(b==([]:Bn))with
 |true=>
  have:b=[]:=by simpa using h
  subst this;rfl
 |false=>simp(disch:=(first|omega|(simp only[Ak,Al,Am];omega))) only[Af,adh]
theorem bdq(l:List PV)(M:l.length<=64)(h:∀x,x∈l->MsgOk x)(b:Bn)(J:b.length<=3000000000000):F208_c209 () l () b=some (l.foldl (defG msgT) b):=by
 have q:=aak (step:=(Y6 S208_c209_2)) (λk(b:Bn)=>((),(),l,(l.length:Int),(k:Int),b)) (λb=>b) l .bad (defG msgT) (λk b=>b.length<=3000000000000+20000000001*k) (λk b m I=>by
  have o:=h _ (aas m .bad);have G:=avf _ o;have t:∀c:Bn,c.length<=10000000000000->_:=λc z=>bku _ o c z;have H:20000000001*k<=20000000001*64:=Nat.mul_le_mul (by omega) (by omega);refine⟨?_,?_⟩
  ·simp only[Y6,S208_c209_2,aai,aaa,m,decide_true,Ad,Ae,awq,Aa,abh (i:=k) (by omega),lenB];unfold defG;cases O:(b==([]:Bn))<;>simp(disch:=(first|omega|(simp only[Ak,Al,Am];omega))) only[An,Ao,Ad,Af,wrOk,t,Aa]
  ·unfold defG;grind) (λb _=>by
  simp only[Y6,S208_c209_2,aai,Nat.lt_irrefl,decide_false,Af]) l.length 0 b (by omega) (by omega)
 rw[Ar]at q;unfold F208_c209;rw[aat,show(0:Int)=((0:Nat):Int)from rfl,q.1];rfl
theorem a04(f:PV)(I:(f.fld 3).asList.length<=64)(h:∀x,x∈(f.fld 3).asList->MsgOk x)(b:Bn)(H:b.length<=3000000000000):aap ((Y4 S125_10)) ((),b,(0:Int),f)=some ((),(f.fld 3).asList.foldl (defG msgT) b,f):=by
 have q:=aak (step:=(Y4 S125_10)) (λk(b:Bn)=>((),b,(k:Int),f)) (λb=>((),b,f)) (f.fld 3).asList .bad (defG msgT) (λk b=>b.length<=3000000000000+20000000001*k) (λk b m G=>by
  have o:=h _ (aas m .bad);have t:=avf _ o;have z:20000000001*k<=20000000001*64:=Nat.mul_le_mul (by omega) (by omega);refine⟨?_,?_⟩
  ·simp only[Y4,S125_10,aai,aaa,m,decide_true,Ad,Ae,bbo _ o,Aa,abh (i:=k) (by omega),amw b _ (show b.length+(msgT ((f.fld 3).asList.getD k .bad)).length<=100000000000000 by omega)];rfl
  ·unfold defG;cases(b==([]:Bn))<;>simp only[Ad,Af,Ak,Al,Am,Nat.mul_add]<;>omega) (λb _=>by
  simp only[Y4,S125_10,aai,Nat.lt_irrefl,decide_false,Af]) (f.fld 3).asList.length 0 b (by omega) (by omega)
 rw[Ar]at q;exact q.1
theorem a8t(l:List PV)(M:l.length<=64)(h:∀x,x∈l->EnumOk x)(b:Bn)(J:b.length<=3000000000000):F210_c211 () l () b=some (l.foldl (defG ajy) b):=by
 have q:=aak (step:=(Y6 S210_c211_2)) (λk(b:Bn)=>((),(),l,(l.length:Int),(k:Int),b)) (λb=>b) l .bad (defG ajy) (λk b=>b.length<=3000000000000+20000000001*k) (λk b m I=>by
  have o:=h _ (aas m .bad);have G:=ap0 _ o;have t:∀c:Bn,c.length<=10000000000000->_:=λc z=>bhl _ o c z;have H:20000000001*k<=20000000001*64:=Nat.mul_le_mul (by omega) (by omega);refine⟨?_,?_⟩
  ·simp only[Y6,S210_c211_2,aai,aaa,m,decide_true,Ad,Ae,awq,Aa,abh (i:=k) (by omega),lenB];unfold defG;cases O:(b==([]:Bn))<;>simp(disch:=(first|omega|(simp only[Ak,Al,Am];omega))) only[An,Ao,Ad,Af,wrOk,t,Aa]
  ·unfold defG;grind) (λb _=>by
  simp only[Y6,S210_c211_2,aai,Nat.lt_irrefl,decide_false,Af]) l.length 0 b (by omega) (by omega)
 rw[Ar]at q;unfold F210_c211;rw[aat,show(0:Int)=((0:Nat):Int)from rfl,q.1];rfl
theorem ayg(f:PV)(I:(f.fld 4).asList.length<=64)(h:∀x,x∈(f.fld 4).asList->EnumOk x)(b:Bn)(H:b.length<=3000000000000):aap ((Y4 S125_14)) ((),b,(0:Int),f)=some ((),(f.fld 4).asList.foldl (defG ajy) b,f):=by
 have q:=aak (step:=(Y4 S125_14)) (λk(b:Bn)=>((),b,(k:Int),f)) (λb=>((),b,f)) (f.fld 4).asList .bad (defG ajy) (λk b=>b.length<=3000000000000+20000000001*k) (λk b m G=>by
  have o:=h _ (aas m .bad);have t:=ap0 _ o;have z:20000000001*k<=20000000001*64:=Nat.mul_le_mul (by omega) (by omega);refine⟨?_,?_⟩
  ·simp only[Y4,S125_14,aai,aaa,m,decide_true,Ad,Ae,a6p _ o,Aa,abh (i:=k) (by omega),amw b _ (show b.length+(ajy ((f.fld 4).asList.getD k .bad)).length<=100000000000000 by omega)];rfl
  ·unfold defG;cases(b==([]:Bn))<;>simp only[Ad,Af,Ak,Al,Am,Nat.mul_add]<;>omega) (λb _=>by
  simp only[Y4,S125_14,aai,Nat.lt_irrefl,decide_false,Af]) (f.fld 4).asList.length 0 b (by omega) (by omega)
 rw[Ar]at q;exact q.1
theorem bdr(l:List PV)(M:l.length<=64)(h:∀x,x∈l->SvcOk x)(b:Bn)(J:b.length<=3000000000000):F212_c213 () l () b=some (l.foldl (defG svcT) b):=by
 have q:=aak (step:=(Y6 S212_c213_2)) (λk(b:Bn)=>((),(),l,(l.length:Int),(k:Int),b)) (λb=>b) l .bad (defG svcT) (λk b=>b.length<=3000000000000+20000000001*k) (λk b m I=>by
  have o:=h _ (aas m .bad);have G:=a4c _ o;have t:∀c:Bn,c.length<=10000000000000->_:=λc z=>bll _ o c z;have H:20000000001*k<=20000000001*64:=Nat.mul_le_mul (by omega) (by omega);refine⟨?_,?_⟩
  ·simp only[Y6,S212_c213_2,aai,aaa,m,decide_true,Ad,Ae,awq,Aa,abh (i:=k) (by omega),lenB];unfold defG;cases O:(b==([]:Bn))<;>simp(disch:=(first|omega|(simp only[Ak,Al,Am];omega))) only[An,Ao,Ad,Af,wrOk,t,Aa]
  ·unfold defG;grind) (λb _=>by
  simp only[Y6,S212_c213_2,aai,Nat.lt_irrefl,decide_false,Af]) l.length 0 b (by omega) (by omega)
 rw[Ar]at q;unfold F212_c213;rw[aat,show(0:Int)=((0:Nat):Int)from rfl,q.1];rfl
theorem a05(f:PV)(I:(f.fld 5).asList.length<=64)(h:∀x,x∈(f.fld 5).asList->SvcOk x)(b:Bn)(H:b.length<=3000000000000):aap ((Y4 S125_18)) ((),b,(0:Int),f)=some ((f.fld 5).asList.foldl (defG svcT) b,f):=by
 have q:=aak (step:=(Y4 S125_18)) (λk(b:Bn)=>((),b,(k:Int),f)) (λb=>(b,f)) (f.fld 5).asList .bad (defG svcT) (λk b=>b.length<=3000000000000+20000000001*k) (λk b m G=>by
  have o:=h _ (aas m .bad);have t:=a4c _ o;have z:20000000001*k<=20000000001*64:=Nat.mul_le_mul (by omega) (by omega);refine⟨?_,?_⟩
  ·simp only[Y4,S125_18,aai,aaa,m,decide_true,Ad,Ae,bbs _ o,Aa,abh (i:=k) (by omega),amw b _ (show b.length+(svcT ((f.fld 5).asList.getD k .bad)).length<=100000000000000 by omega)];rfl
  ·unfold defG;cases(b==([]:Bn))<;>simp only[Ad,Af,Ak,Al,Am,Nat.mul_add]<;>omega) (λb _=>by
  simp only[Y4,S125_18,aai,Nat.lt_irrefl,decide_false,Af]) (f.fld 5).asList.length 0 b (by omega) (by omega)
 rw[Ar]at q;exact q.1
structure FileOk(f:PV):Prop where
 ok:OkFile f
 imports:(f.fld 2).asList.length<=16
 msgs:(f.fld 3).asList.length<=64
 msg:∀x,x∈(f.fld 3).asList->MsgOk x
 enums:(f.fld 4).asList.length<=64
 enum:∀x,x∈(f.fld 4).asList->EnumOk x
 svcs:(f.fld 5).asList.length<=64
 svc:∀x,x∈(f.fld 5).asList->SvcOk x
def impT(x:PV):Bn:=[105,109,112,111,114,116,32]++(akt x.asStr++[59,10])
theorem au0(x:PV)(h:x.asStr.length<=1048576):(impT x).length<=4194400:=by grind[adj,impT,List.length_append,List.length_cons,List.length_nil]
theorem axm(f:PV)(h:FileOk f)(b:Bn)(I:b.length<=10000000):
 aap ((Y7 S140_6)) ((),(),(f.fld 2).asList,((f.fld 2).asList.length:Int),(0:Int),f,b)=some ((),(),f,b++(f.fld 2).asList.flatMap impT):=by
 have J:=h.imports
 have q:=aak (step:=(Y7 S140_6)) (λk(b:Bn)=>((),(),(f.fld 2).asList,((f.fld 2).asList.length:Int),(k:Int),f,b)) (λb=>((),(),f,b)) (f.fld 2).asList .bad (λb x=>b++impT x) (λk b=>b.length<=10000000+4194400*k) (λk b m H=>by
  have o:=h.ok.importS _ (aas m .bad);have t:=au0 _ o;have z:=adj ((f.fld 2).asList.getD k .bad).asStr;have G:4194400*k<=4194400*16:=Nat.mul_le_mul (by omega) (by omega);refine⟨?_,by grind⟩;simp only[Y7,S140_6,aai,aaa,m,decide_true,Ad,Ae,al9 _ o,Aa,abh (i:=k) (by omega)];simp(disch:=(first|omega|(simp only[Ak,Al,Am];omega))) only[adh,a0i,Aa];simp only[impT,Aq,A2,Aw]) (λb _=>by
  simp only[Y7,S140_6,aai,Nat.lt_irrefl,decide_false,Af]) (f.fld 2).asList.length 0 b (by omega) (by omega)
 grind[ajh]
theorem aq9(f:PV)(h:FileOk f)(b:Bn)(I:b.length<=10000000):
 aap ((Y4 S125_6)) ((),b,(0:Int),f)=some ((),b++(f.fld 2).asList.flatMap impT,f):=by
 have J:=h.imports
 have q:=aak (step:=(Y4 S125_6)) (λk(b:Bn)=>((),b,(k:Int),f)) (λb=>((),b,f)) (f.fld 2).asList .bad (λb x=>b++impT x) (λk b=>b.length<=10000000+4194400*k) (λk b m H=>by
  have o:=h.ok.importS _ (aas m .bad);have t:=au0 _ o;have z:=adj ((f.fld 2).asList.getD k .bad).asStr;have G:4194400*k<=4194400*16:=Nat.mul_le_mul (by omega) (by omega);refine⟨?_,by simp only[Ak,Nat.mul_add];omega⟩;simp only[Y4,S125_6,aai,aaa,m,decide_true,Ad,Ae,afj _ o,Aa,abh (i:=k) (by omega)];simp(disch:=(first|omega|(simp only[Ak,Al,Am];omega))) only[adh,Aa];simp only[impT,Aq,A2,Aw]) (λb _=>by
  simp only[Y4,S125_6,aai,Nat.lt_irrefl,decide_false,Af]) (f.fld 2).asList.length 0 b (by omega) (by omega)
 rw[Ar,ajh]at q
 exact q.1
def topT(f:PV):Bn:=(bif (f.fld 1).asStr==[]then[]else[115,112,97,99,101,32]++((f.fld 1).asStr++[59,10]))++(f.fld 2).asList.flatMap impT
theorem bf8(f:PV)(h:FileOk f):(topT f).length<=100000000:=by have o:=auv impT 4194400 (f.fld 2).asList λx m=>au0 x (h.ok.importS x m);have t:=h.ok.space;have z:4194400*(f.fld 2).asList.length<=4194400*16:=Nat.mul_le_mul (by omega) h.imports;unfold topT;cases((f.fld 1).asStr==([]:Bn))<;>simp only[Ad,Af,Ak,Al,Am]<;>omega
noncomputable def aok(f:PV):Bn:=(f.fld 5).asList.foldl (defG svcT) ((f.fld 4).asList.foldl (defG ajy) ((f.fld 3).asList.foldl (defG msgT) (topT f)))
theorem ap4(f:PV)(h:FileOk f):(topT f).length<=100000000/\((f.fld 3).asList.foldl (defG msgT) (topT f)).length<=1300000000000/\((f.fld 4).asList.foldl (defG ajy) ((f.fld 3).asList.foldl (defG msgT) (topT f))).length<=2600000000000:=by have o:=bf8 f h;have t:=a2r msgT (f.fld 3).asList (topT f) λx m=>avf x (h.msg x m);have z:=a2r ajy (f.fld 4).asList ((f.fld 3).asList.foldl (defG msgT) (topT f)) λx m=>ap0 x (h.enum x m);have G:20000000001*(f.fld 3).asList.length<=20000000001*64:=Nat.mul_le_mul (by omega) h.msgs;have H:20000000001*(f.fld 4).asList.length<=20000000001*64:=Nat.mul_le_mul (by omega) h.enums;grind
theorem a4e(f:PV)(h:FileOk f):F140 f=some (aok f):=by
 obtain⟨J,M,O⟩:=ap4 f h;have U:=h.ok.space;have o:∀c:Bn,c.length<=10000000->_:=λc I=>axm f h c I;have t:F208_c209 () (f.fld 3).asList () (topT f)=_:=bdq _ h.msgs h.msg (topT f) (by omega);have z:=a8t _ h.enums h.enum ((f.fld 3).asList.foldl (defG msgT) (topT f)) (by omega);have G:=bdr _ h.svcs h.svc ((f.fld 4).asList.foldl (defG ajy) ((f.fld 3).asList.foldl (defG msgT) (topT f))) (by omega);have m:topT f=(bif (f.fld 1).asStr==[]then[]else[115,112,97,99,101,32]++((f.fld 1).asStr++[59,10]))++(f.fld 2).asList.flatMap impT:=rfl;unfold F140 aok;cases H:((f.fld 1).asStr==([]:Bn))with
 |true=>rw[H]at m;simp only[Ad,Aw]at m;simp(disch:=(first|omega|(simp only[Ak,Al,Am];omega))) only[An,Af,aat,o,Aw,Aa,<-m,t,z,G,ah7]
 |false=>rw[H]at m;simp only[Af,Aq,A2,Aw]at m;simp(disch:=(first|omega|(simp only[Ak,Al,Am];omega))) only[Ao,Ad,adh,a0i,aat,o,Aa,Aq,A2,Aw,<-m,t,z,G,ah7]
theorem arh(f:PV)(h:FileOk f):F125 f=some (aok f):=by
 obtain⟨J,M,O⟩:=ap4 f h;have U:=h.ok.space;have o:∀c:Bn,c.length<=10000000->_:=λc I=>aq9 f h c I;have t:=a04 f h.msgs h.msg (topT f) (by omega);have z:=ayg f h.enums h.enum ((f.fld 3).asList.foldl (defG msgT) (topT f)) (by omega);have G:=a05 f h.svcs h.svc ((f.fld 4).asList.foldl (defG ajy) ((f.fld 3).asList.foldl (defG msgT) (topT f))) (by omega);have m:topT f=(bif (f.fld 1).asStr==[]then[]else[115,112,97,99,101,32]++((f.fld 1).asStr++[59,10]))++(f.fld 2).asList.flatMap impT:=rfl;unfold F125 aok;cases H:((f.fld 1).asStr==([]:Bn))with
 |true=>rw[H]at m;simp only[Ad,Aw]at m;simp(disch:=(first|omega|(simp only[Ak,Al,Am];omega))) only[An,Af,aat,o,Aw,Aa,<-m,t,z,G]
 |false=>rw[H]at m;simp only[Af,Aq,A2,Aw]at m;simp(disch:=(first|omega|(simp only[Ak,Al,Am];omega))) only[Ao,Ad,adh,aat,o,Aa,Aq,A2,Aw,<-m,t,z,G]
end Go.Ab
