/- Enums, services, files: the same text in the program and the specification. -/
import Derived.Test.YticdffgjgfmicaaGreatDoorPRowK
set_option linter.unusedVariables false
set_option linter.unusedSimpArgs false
set_option linter.unnecessarySimpa false
namespace Go.Ab
open Go
set_option maxRecDepth 100000
theorem ai6(g:PV->Bn):∀(l:List PV)(b:Bn),l.foldl (λb x=>b++g x) b=b++l.flatMap g:=by
 intro l;induction l with
 |nil=>intro b;simp
 |cons x r m=>grind
theorem at7(g:PV->Bn)(B:Nat):∀l:List PV,(∀x,x∈l->(g x).length<=B)->(l.flatMap g).length<=B*l.length:=by
 intro l;induction l with
 |nil=>intro _;simp
 |cons x r m=>grind[List.length_append,List.length_cons,Nat.mul_add]
structure EnumOk(m:PV):Prop where
 ok:OkEnum m
 items:(m.fld 2).asList.length<=64
 num:∀x,x∈(m.fld 2).asList->0<=(x.fld 1).asInt/\(x.fld 1).asInt<=2147483647
 ifew:∀x,x∈(m.fld 2).asList->(x.fld 2).asList.length<=40
 spans:(m.fld 3).asList.length<=16
 span:∀x,x∈(m.fld 3).asList->ahy 2147483647 x=true
 few:(m.fld 4).asList.length<=40
noncomputable def aps(x:PV):Bn:=[32,32]++((x.fld 0).asStr++([32,61,32]++(numT (x.fld 1).asInt++(aeg (x.fld 2).asList++[59,10]))))
theorem apt(x:PV)(h:OkItem x)(m:(x.fld 2).asList.length<=40):(aps x).length<=202000000:=by have o:=ab3 _ m h.note;have t:=ad1 (x.fld 1).asInt;have z:=h.name;grind[aps,List.length_append,List.length_cons,List.length_nil]
noncomputable def ajo(m:PV):Bn:=
 (bif (m.fld 1).asBool then[111,112,101,110,32]else[])++([101,110,117,109,32]++((m.fld 0).asStr++(aeg (m.fld 4).asList++([32,123,10]++((m.fld 2).asList.flatMap aps++(resT spT (m.fld 3).asList++[125,10]))))))
theorem akd(m:PV)(h:EnumOk m):(aeg (m.fld 4).asList).length<=200000201/\((m.fld 2).asList.flatMap aps).length<=12928000000/\(resT spT (m.fld 3).asList).length<=1000:=by have t:=ab3 _ h.few h.ok.note;have z:=at7 aps 202000000 (m.fld 2).asList λx o=>apt x (h.ok.item x o) (h.ifew x o);have G:=au9 spT 43 (m.fld 3).asList λx _=>am3 x;have H:202000000*(m.fld 2).asList.length<=202000000*64:=Nat.mul_le_mul (by omega) h.items;have I:(43+2)*(m.fld 3).asList.length<=45*16:=Nat.mul_le_mul (by omega) h.spans;grind
theorem apd(m:PV)(h:EnumOk m):(ajo m).length<=20000000000:=by obtain⟨o,t,z⟩:=akd m h;have G:=h.ok.name;unfold ajo;cases(m.fld 1).asBool<;>simp only[Ad,Af,Ak,Al,Am]<;>omega
theorem a4m(m:PV)(h:EnumOk m)(b:Bn)(X:b.length<=20000000000000):
 aan ((Y7 S180_7)) ((),(),(m.fld 2).asList,((m.fld 2).asList.length:Int),(0:Int),b,m)=some ((),(),b++(m.fld 2).asList.flatMap aps,m):=by
 have Y:=h.items
 have q:=aak (step:=(Y7 S180_7)) (λk(b:Bn)=>((),(),(m.fld 2).asList,((m.fld 2).asList.length:Int),(k:Int),b,m)) (λb=>((),(),b,m)) (m.fld 2).asList .bad (λb x=>b++aps x) (λk b=>b.length<=20000000000000+202000000*k) (λk b G W=>by
  have z:=aaq G .bad;have o:=h.ok.item _ z;have t:=h.ifew _ z;have H:=h.num _ z;have J:=apt _ o t;have M:=o.name;have O:=ab3 _ t o.note;have U:=ad1 (((m.fld 2).asList.getD k .bad).fld 1).asInt;have I:=af4 _ t o.note;have V:202000000*k<=202000000*64:=Nat.mul_le_mul (by omega) (by omega);refine⟨?_,by grind⟩;simp only[Y7,S180_7,aai,aaa,G,decide_true,Ad,Ae,I,aog H.1 H.2,Aa,abf (i:=k) (by omega)];simp(disch:=(first|omega|(simp only[Ak,Al,Am];omega))) only[adc,azp,Aa];simp only[aps,Ap,A0,Aw]) (λb _=>by
  simp only[Y7,S180_7,aai,Nat.lt_irrefl,decide_false,Af]) (m.fld 2).asList.length 0 b (by omega) (by omega)
 grind[ai6]
theorem au2(m:PV)(h:EnumOk m)(b:Bn)(X:b.length<=20000000000000):
 aan ((Y4 S232_6)) ((),b,(0:Int),m)=some ((),b++(m.fld 2).asList.flatMap aps,m):=by
 have Y:=h.items
 have q:=aak (step:=(Y4 S232_6)) (λk(b:Bn)=>((),b,(k:Int),m)) (λb=>((),b,m)) (m.fld 2).asList .bad (λb x=>b++aps x) (λk b=>b.length<=20000000000000+202000000*k) (λk b G W=>by
  have z:=aaq G .bad;have o:=h.ok.item _ z;have t:=h.ifew _ z;have H:=h.num _ z;have J:=apt _ o t;have M:=o.name;have O:=ab3 _ t o.note;have U:=ad1 (((m.fld 2).asList.getD k .bad).fld 1).asInt;have I:=ajf _ t o.note;have V:202000000*k<=202000000*64:=Nat.mul_le_mul (by omega) (by omega);refine⟨?_,by simp only[Ak,Nat.mul_add];omega⟩;simp only[Y4,S232_6,aai,aaa,G,decide_true,Ad,Ae,I,ag7 H.1 H.2,Aa,abf (i:=k) (by omega)];simp(disch:=(first|omega|(simp only[Ak,Al,Am];omega))) only[adc,Aa];simp only[aps,Ap,A0,Aw]) (λb _=>by
  simp only[Y4,S232_6,aai,Nat.lt_irrefl,decide_false,Af]) (m.fld 2).asList.length 0 b (by omega) (by omega)
 rw[Ar,ai6]at q
 exact q.1
theorem bgs(m:PV)(h:EnumOk m)(bs:Bn)(O:bs.length<=10000000000000):F180 () m bs=some (bs++ajo m):=by obtain⟨H,I,J⟩:=akd m h;have M:=h.ok.name;have t:=af4 _ h.few h.ok.note;have z:∀c:Bn,c.length<=20000000000000->_:=λc o=>a4m m h c o;have G:∀c:Bn,c.length<=50000000000000->_:=λc o=>axl _ h.spans h.span c o;unfold F180 ajo;simp only[t,Aa,aas];cases(m.fld 1).asBool<;>simp(disch:=(first|omega|(simp only[Ak,Al,Am];omega))) only[Ad,Af,adc,azo,z,G,Aa,Ap,Aw,A0]
theorem a5k(m:PV)(h:EnumOk m):F232 m=some (ajo m):=by obtain⟨H,I,J⟩:=akd m h;have M:=h.ok.name;have t:=ajf _ h.few h.ok.note;have z:∀c:Bn,c.length<=20000000000000->_:=λc G=>au2 m h c G;have o:=aqx _ h.spans h.span;unfold F232 ajo;simp only[t,o,Aa,aas];cases(m.fld 1).asBool<;>simp(disch:=(first|omega|(simp only[Ak,Al,Am];omega))) only[Ad,Af,adc,z,o,Aa,Ap,Aw,A0]
structure SvcOk(m:PV):Prop where
 ok:OkSvc m
 meths:(m.fld 1).asList.length<=64
 mfew:∀x,x∈(m.fld 1).asList->(x.fld 4).asList.length<=40
 few:(m.fld 2).asList.length<=40
def ba9(b:Bool)(s:Bn):Bn:=bif b then[115,116,114,101,97,109,32]++s else s
noncomputable def ap3(x:PV):Bn:=
 [32,32,114,112,99,32]++((x.fld 0).asStr++([40]++(ba9 (((x.fld 3).asInt==3)||((x.fld 3).asInt==4)) (x.fld 1).asStr++([41,32,114,101,116,117,114,110,115,32,40]++(ba9 (((x.fld 3).asInt==2)||((x.fld 3).asInt==4)) (x.fld 2).asStr++([41]++(aeg (x.fld 4).asList++[59,10])))))))
theorem ap4(x:PV)(h:OkMeth x)(m:(x.fld 4).asList.length<=40):(ap3 x).length<=205000000:=by have o:=ab3 _ m h.note;have t:=h.inn;have z:=h.out;have G:=h.name;unfold ap3 ba9;cases(((x.fld 3).asInt==3)||((x.fld 3).asInt==4))<;>cases(((x.fld 3).asInt==2)||((x.fld 3).asInt==4))<;>simp only[Ad,Af,Ak,Al,Am]<;>omega
noncomputable def svcT(m:PV):Bn:=
 [115,101,114,118,105,99,101,32]++((m.fld 0).asStr++(aeg (m.fld 2).asList++([32,123,10]++((m.fld 1).asList.flatMap ap3++[125,10]))))
theorem am4(m:PV)(h:SvcOk m):(aeg (m.fld 2).asList).length<=200000201/\((m.fld 1).asList.flatMap ap3).length<=13120000000:=by have t:=ab3 _ h.few h.ok.note;have z:=at7 ap3 205000000 (m.fld 1).asList λx o=>ap4 x (h.ok.meth x o) (h.mfew x o);have G:205000000*(m.fld 1).asList.length<=205000000*64:=Nat.mul_le_mul (by omega) h.meths;grind
theorem a2r(m:PV)(h:SvcOk m):(svcT m).length<=20000000000:=by obtain⟨o,t⟩:=am4 m h;have z:=h.ok.name;grind[svcT,List.length_append,List.length_cons,List.length_nil]
theorem a4w(m:PV)(h:SvcOk m)(b:Bn)(X:b.length<=20000000000000):
 aan ((Y6 S182_4)) ((),(m.fld 1).asList,((m.fld 1).asList.length:Int),(0:Int),b,m)=some ((),b++(m.fld 1).asList.flatMap ap3,m):=by
 have Y:=h.meths
 have q:=aak (step:=(Y6 S182_4)) (λk(b:Bn)=>((),(m.fld 1).asList,((m.fld 1).asList.length:Int),(k:Int),b,m)) (λb=>((),b,m)) (m.fld 1).asList .bad (λb x=>b++ap3 x) (λk b=>b.length<=20000000000000+205000000*k) (λk b z W=>by
  have G:=aaq z .bad;have o:=h.ok.meth _ G;have t:=h.mfew _ G;have I:=ap4 _ o t;have J:=o.name;have M:=ab3 _ t o.note;have O:=o.inn;have V:=o.out;have H:=af4 _ t o.note;have U:205000000*k<=205000000*64:=Nat.mul_le_mul (by omega) (by omega);refine⟨?_,by grind⟩;simp only[Y6,S182_4,aai,aaa,z,decide_true,Ad,Ae,H,Aa,abf (i:=k) (by omega),aso];unfold ap3 ba9;cases(((((m.fld 1).asList.getD k .bad).fld 3).asInt==(3:Int))||((((m.fld 1).asList.getD k .bad).fld 3).asInt==(4:Int)))<;>cases(((((m.fld 1).asList.getD k .bad).fld 3).asInt==(2:Int))||((((m.fld 1).asList.getD k .bad).fld 3).asInt==(4:Int)))<;>simp(disch:=(first|omega|(simp only[Ak,Al,Am];omega))) only[Ad,Af,adc,azp,Aa,Ap,A0,Aw]) (λb _=>by
  simp only[Y6,S182_4,aai,Nat.lt_irrefl,decide_false,Af]) (m.fld 1).asList.length 0 b (by omega) (by omega)
 grind[ai6]
theorem au3(m:PV)(h:SvcOk m)(b:Bn)(X:b.length<=20000000000000):
 aan ((Y4 S233_4)) ((),b,(0:Int),m)=some (b++(m.fld 1).asList.flatMap ap3,m):=by
 have Y:=h.meths
 have q:=aak (step:=(Y4 S233_4)) (λk(b:Bn)=>((),b,(k:Int),m)) (λb=>(b,m)) (m.fld 1).asList .bad (λb x=>b++ap3 x) (λk b=>b.length<=20000000000000+205000000*k) (λk b z W=>by
  have G:=aaq z .bad;have o:=h.ok.meth _ G;have t:=h.mfew _ G;have I:=ap4 _ o t;have J:=o.name;have M:=ab3 _ t o.note;have O:=o.inn;have V:=o.out;have H:=ajf _ t o.note;have U:205000000*k<=205000000*64:=Nat.mul_le_mul (by omega) (by omega);refine⟨?_,by simp only[Ak,Nat.mul_add];omega⟩;simp only[Y4,S233_4,aai,aaa,z,decide_true,Ad,Ae,H,Aa,abf (i:=k) (by omega),aso];unfold ap3 ba9;cases(((((m.fld 1).asList.getD k .bad).fld 3).asInt==(3:Int))||((((m.fld 1).asList.getD k .bad).fld 3).asInt==(4:Int)))<;>cases(((((m.fld 1).asList.getD k .bad).fld 3).asInt==(2:Int))||((((m.fld 1).asList.getD k .bad).fld 3).asInt==(4:Int)))<;>simp(disch:=(first|omega|(simp only[Ak,Al,Am];omega))) only[Ad,Af,adc,Aa,Ap,A0,Aw]) (λb _=>by
  simp only[Y4,S233_4,aai,Nat.lt_irrefl,decide_false,Af]) (m.fld 1).asList.length 0 b (by omega) (by omega)
 rw[Ar,ai6]at q
 exact q.1
theorem bj7(m:PV)(h:SvcOk m)(bs:Bn)(J:bs.length<=10000000000000):F182 () m bs=some (bs++svcT m):=by obtain⟨G,H⟩:=am4 m h;have I:=h.ok.name;have o:=af4 _ h.few h.ok.note;have t:∀c:Bn,c.length<=20000000000000->_:=λc z=>a4w m h c z;unfold F182 svcT;simp only[o,Aa,aas];simp(disch:=(first|omega|(simp only[Ak,Al,Am];omega))) only[adc,azo,t,Aa,Ap,Aw,A0]
theorem bau(m:PV)(h:SvcOk m):F233 m=some (svcT m):=by obtain⟨G,H⟩:=am4 m h;have I:=h.ok.name;have o:=ajf _ h.few h.ok.note;have t:∀c:Bn,c.length<=20000000000000->_:=λc z=>au3 m h c z;unfold F233 svcT;simp only[o,Aa,aas];simp(disch:=(first|omega|(simp only[Ak,Al,Am];omega))) only[adc,t,Aa,Ap,Aw,A0]
def defG(g:PV->Bn)(b:Bn)(x:PV):Bn:=(bif b==[]then b else b++[10])++g x
theorem a1g(g:PV->Bn):∀(l:List PV)(b:Bn),(∀x,x∈l->(g x).length<=20000000000)->(l.foldl (defG g) b).length<=b.length+20000000001*l.length:=by
 intro l;induction l with
 |nil=>intro b _;simp
 |cons x r m=>grind[defG]
theorem lenB(b:Bn):decide ((b.length:Int)>(0:Int))=!(b==([]:Bn)):=by
 cases b with
 |nil=>rfl
 |cons x r=>grind
theorem amg(b d:Bn)(m:b.length+d.length<=100000000000000):F230 b d=some ((bif b==[]then b else b++[10])++d):=by
 unfold F230;cases h:(b==([]:Bn))with
 |true=>
  have:b=[]:=by simpa using h
  subst this;rfl
 |false=>simp(disch:=(first|omega|(simp only[Ak,Al,Am];omega))) only[Af,adc]
theorem bct(l:List PV)(M:l.length<=64)(h:∀x,x∈l->MsgOk x)(b:Bn)(J:b.length<=3000000000000):F177_c178 () l () b=some (l.foldl (defG msgT) b):=by
 have q:=aak (step:=(Y6 S177_c178_2)) (λk(b:Bn)=>((),(),l,(l.length:Int),(k:Int),b)) (λb=>b) l .bad (defG msgT) (λk b=>b.length<=3000000000000+20000000001*k) (λk b m I=>by
  have o:=h _ (aaq m .bad);have G:=auq _ o;have t:∀c:Bn,c.length<=10000000000000->_:=λc z=>bjj _ o c z;have H:20000000001*k<=20000000001*64:=Nat.mul_le_mul (by omega) (by omega);refine⟨?_,?_⟩
  ·simp only[Y6,S177_c178_2,aai,aaa,m,decide_true,Ad,Ae,ayg,Aa,abf (i:=k) (by omega),lenB];unfold defG;cases O:(b==([]:Bn))<;>simp(disch:=(first|omega|(simp only[Ak,Al,Am];omega))) only[An,Aq,Ad,Af,wrOk,t,Aa]
  ·unfold defG;grind) (λb _=>by
  simp only[Y6,S177_c178_2,aai,Nat.lt_irrefl,decide_false,Af]) l.length 0 b (by omega) (by omega)
 rw[Ar]at q;unfold F177_c178;rw[aas,show(0:Int)=((0:Nat):Int)from rfl,q.1];rfl
theorem a0a(f:PV)(I:(f.fld 3).asList.length<=64)(h:∀x,x∈(f.fld 3).asList->MsgOk x)(b:Bn)(H:b.length<=3000000000000):aan ((Y4 S139_10)) ((),b,(0:Int),f)=some ((),(f.fld 3).asList.foldl (defG msgT) b,f):=by
 have q:=aak (step:=(Y4 S139_10)) (λk(b:Bn)=>((),b,(k:Int),f)) (λb=>((),b,f)) (f.fld 3).asList .bad (defG msgT) (λk b=>b.length<=3000000000000+20000000001*k) (λk b m G=>by
  have o:=h _ (aaq m .bad);have t:=auq _ o;have z:20000000001*k<=20000000001*64:=Nat.mul_le_mul (by omega) (by omega);refine⟨?_,?_⟩
  ·simp only[Y4,S139_10,aai,aaa,m,decide_true,Ad,Ae,bap _ o,Aa,abf (i:=k) (by omega),amg b _ (show b.length+(msgT ((f.fld 3).asList.getD k .bad)).length<=100000000000000 by omega)];rfl
  ·unfold defG;cases(b==([]:Bn))<;>simp only[Ad,Af,Ak,Al,Am,Nat.mul_add]<;>omega) (λb _=>by
  simp only[Y4,S139_10,aai,Nat.lt_irrefl,decide_false,Af]) (f.fld 3).asList.length 0 b (by omega) (by omega)
 rw[Ar]at q;exact q.1
theorem a7n(l:List PV)(M:l.length<=64)(h:∀x,x∈l->EnumOk x)(b:Bn)(J:b.length<=3000000000000):F179_c180 () l () b=some (l.foldl (defG ajo) b):=by
 have q:=aak (step:=(Y6 S179_c180_2)) (λk(b:Bn)=>((),(),l,(l.length:Int),(k:Int),b)) (λb=>b) l .bad (defG ajo) (λk b=>b.length<=3000000000000+20000000001*k) (λk b m I=>by
  have o:=h _ (aaq m .bad);have G:=apd _ o;have t:∀c:Bn,c.length<=10000000000000->_:=λc z=>bgs _ o c z;have H:20000000001*k<=20000000001*64:=Nat.mul_le_mul (by omega) (by omega);refine⟨?_,?_⟩
  ·simp only[Y6,S179_c180_2,aai,aaa,m,decide_true,Ad,Ae,ayg,Aa,abf (i:=k) (by omega),lenB];unfold defG;cases O:(b==([]:Bn))<;>simp(disch:=(first|omega|(simp only[Ak,Al,Am];omega))) only[An,Aq,Ad,Af,wrOk,t,Aa]
  ·unfold defG;grind) (λb _=>by
  simp only[Y6,S179_c180_2,aai,Nat.lt_irrefl,decide_false,Af]) l.length 0 b (by omega) (by omega)
 rw[Ar]at q;unfold F179_c180;rw[aas,show(0:Int)=((0:Nat):Int)from rfl,q.1];rfl
theorem axq(f:PV)(I:(f.fld 4).asList.length<=64)(h:∀x,x∈(f.fld 4).asList->EnumOk x)(b:Bn)(H:b.length<=3000000000000):aan ((Y4 S139_14)) ((),b,(0:Int),f)=some ((),(f.fld 4).asList.foldl (defG ajo) b,f):=by
 have q:=aak (step:=(Y4 S139_14)) (λk(b:Bn)=>((),b,(k:Int),f)) (λb=>((),b,f)) (f.fld 4).asList .bad (defG ajo) (λk b=>b.length<=3000000000000+20000000001*k) (λk b m G=>by
  have o:=h _ (aaq m .bad);have t:=apd _ o;have z:20000000001*k<=20000000001*64:=Nat.mul_le_mul (by omega) (by omega);refine⟨?_,?_⟩
  ·simp only[Y4,S139_14,aai,aaa,m,decide_true,Ad,Ae,a5k _ o,Aa,abf (i:=k) (by omega),amg b _ (show b.length+(ajo ((f.fld 4).asList.getD k .bad)).length<=100000000000000 by omega)];rfl
  ·unfold defG;cases(b==([]:Bn))<;>simp only[Ad,Af,Ak,Al,Am,Nat.mul_add]<;>omega) (λb _=>by
  simp only[Y4,S139_14,aai,Nat.lt_irrefl,decide_false,Af]) (f.fld 4).asList.length 0 b (by omega) (by omega)
 rw[Ar]at q;exact q.1
theorem bcu(l:List PV)(M:l.length<=64)(h:∀x,x∈l->SvcOk x)(b:Bn)(J:b.length<=3000000000000):F181_c182 () l () b=some (l.foldl (defG svcT) b):=by
 have q:=aak (step:=(Y6 S181_c182_2)) (λk(b:Bn)=>((),(),l,(l.length:Int),(k:Int),b)) (λb=>b) l .bad (defG svcT) (λk b=>b.length<=3000000000000+20000000001*k) (λk b m I=>by
  have o:=h _ (aaq m .bad);have G:=a2r _ o;have t:∀c:Bn,c.length<=10000000000000->_:=λc z=>bj7 _ o c z;have H:20000000001*k<=20000000001*64:=Nat.mul_le_mul (by omega) (by omega);refine⟨?_,?_⟩
  ·simp only[Y6,S181_c182_2,aai,aaa,m,decide_true,Ad,Ae,ayg,Aa,abf (i:=k) (by omega),lenB];unfold defG;cases O:(b==([]:Bn))<;>simp(disch:=(first|omega|(simp only[Ak,Al,Am];omega))) only[An,Aq,Ad,Af,wrOk,t,Aa]
  ·unfold defG;grind) (λb _=>by
  simp only[Y6,S181_c182_2,aai,Nat.lt_irrefl,decide_false,Af]) l.length 0 b (by omega) (by omega)
 rw[Ar]at q;unfold F181_c182;rw[aas,show(0:Int)=((0:Nat):Int)from rfl,q.1];rfl
theorem a0b(f:PV)(I:(f.fld 5).asList.length<=64)(h:∀x,x∈(f.fld 5).asList->SvcOk x)(b:Bn)(H:b.length<=3000000000000):aan ((Y4 S139_18)) ((),b,(0:Int),f)=some ((f.fld 5).asList.foldl (defG svcT) b,f):=by
 have q:=aak (step:=(Y4 S139_18)) (λk(b:Bn)=>((),b,(k:Int),f)) (λb=>(b,f)) (f.fld 5).asList .bad (defG svcT) (λk b=>b.length<=3000000000000+20000000001*k) (λk b m G=>by
  have o:=h _ (aaq m .bad);have t:=a2r _ o;have z:20000000001*k<=20000000001*64:=Nat.mul_le_mul (by omega) (by omega);refine⟨?_,?_⟩
  ·simp only[Y4,S139_18,aai,aaa,m,decide_true,Ad,Ae,bau _ o,Aa,abf (i:=k) (by omega),amg b _ (show b.length+(svcT ((f.fld 5).asList.getD k .bad)).length<=100000000000000 by omega)];rfl
  ·unfold defG;cases(b==([]:Bn))<;>simp only[Ad,Af,Ak,Al,Am,Nat.mul_add]<;>omega) (λb _=>by
  simp only[Y4,S139_18,aai,Nat.lt_irrefl,decide_false,Af]) (f.fld 5).asList.length 0 b (by omega) (by omega)
 rw[Ar]at q;exact q.1
structure FileOk(f:PV):Prop where
 ok:OkFile f
 imports:(f.fld 2).asList.length<=16
 msgs:(f.fld 3).asList.length<=64
 msg:∀x,x∈(f.fld 3).asList->MsgOk x
 enums:(f.fld 4).asList.length<=64
 enum:∀x,x∈(f.fld 4).asList->EnumOk x
 svcs:(f.fld 5).asList.length<=64
 svc:∀x,x∈(f.fld 5).asList->SvcOk x
def impT(x:PV):Bn:=[105,109,112,111,114,116,32]++(akm x.asStr++[59,10])
theorem auc(x:PV)(h:x.asStr.length<=1048576):(impT x).length<=4194400:=by grind[adf,impT,List.length_append,List.length_cons,List.length_nil]
theorem aww(f:PV)(h:FileOk f)(b:Bn)(I:b.length<=10000000):
 aan ((Y7 S112_6)) ((),(),(f.fld 2).asList,((f.fld 2).asList.length:Int),(0:Int),f,b)=some ((),(),f,b++(f.fld 2).asList.flatMap impT):=by
 have J:=h.imports
 have q:=aak (step:=(Y7 S112_6)) (λk(b:Bn)=>((),(),(f.fld 2).asList,((f.fld 2).asList.length:Int),(k:Int),f,b)) (λb=>((),(),f,b)) (f.fld 2).asList .bad (λb x=>b++impT x) (λk b=>b.length<=10000000+4194400*k) (λk b m H=>by
  have o:=h.ok.importS _ (aaq m .bad);have t:=auc _ o;have z:=adf ((f.fld 2).asList.getD k .bad).asStr;have G:4194400*k<=4194400*16:=Nat.mul_le_mul (by omega) (by omega);refine⟨?_,by grind⟩;simp only[Y7,S112_6,aai,aaa,m,decide_true,Ad,Ae,alt _ o,Aa,abf (i:=k) (by omega)];simp(disch:=(first|omega|(simp only[Ak,Al,Am];omega))) only[adc,azo,Aa];simp only[impT,Ap,A0,Aw]) (λb _=>by
  simp only[Y7,S112_6,aai,Nat.lt_irrefl,decide_false,Af]) (f.fld 2).asList.length 0 b (by omega) (by omega)
 grind[ai6]
theorem aqo(f:PV)(h:FileOk f)(b:Bn)(I:b.length<=10000000):
 aan ((Y4 S139_6)) ((),b,(0:Int),f)=some ((),b++(f.fld 2).asList.flatMap impT,f):=by
 have J:=h.imports
 have q:=aak (step:=(Y4 S139_6)) (λk(b:Bn)=>((),b,(k:Int),f)) (λb=>((),b,f)) (f.fld 2).asList .bad (λb x=>b++impT x) (λk b=>b.length<=10000000+4194400*k) (λk b m H=>by
  have o:=h.ok.importS _ (aaq m .bad);have t:=auc _ o;have z:=adf ((f.fld 2).asList.getD k .bad).asStr;have G:4194400*k<=4194400*16:=Nat.mul_le_mul (by omega) (by omega);refine⟨?_,by simp only[Ak,Nat.mul_add];omega⟩;simp only[Y4,S139_6,aai,aaa,m,decide_true,Ad,Ae,aff _ o,Aa,abf (i:=k) (by omega)];simp(disch:=(first|omega|(simp only[Ak,Al,Am];omega))) only[adc,Aa];simp only[impT,Ap,A0,Aw]) (λb _=>by
  simp only[Y4,S139_6,aai,Nat.lt_irrefl,decide_false,Af]) (f.fld 2).asList.length 0 b (by omega) (by omega)
 rw[Ar,ai6]at q
 exact q.1
def topT(f:PV):Bn:=(bif (f.fld 1).asStr==[]then[]else[115,112,97,99,101,32]++((f.fld 1).asStr++[59,10]))++(f.fld 2).asList.flatMap impT
theorem bfe(f:PV)(h:FileOk f):(topT f).length<=100000000:=by have o:=at7 impT 4194400 (f.fld 2).asList λx m=>auc x (h.ok.importS x m);have t:=h.ok.space;have z:4194400*(f.fld 2).asList.length<=4194400*16:=Nat.mul_le_mul (by omega) h.imports;unfold topT;cases((f.fld 1).asStr==([]:Bn))<;>simp only[Ad,Af,Ak,Al,Am]<;>omega
noncomputable def an5(f:PV):Bn:=(f.fld 5).asList.foldl (defG svcT) ((f.fld 4).asList.foldl (defG ajo) ((f.fld 3).asList.foldl (defG msgT) (topT f)))
theorem aph(f:PV)(h:FileOk f):(topT f).length<=100000000/\((f.fld 3).asList.foldl (defG msgT) (topT f)).length<=1300000000000/\((f.fld 4).asList.foldl (defG ajo) ((f.fld 3).asList.foldl (defG msgT) (topT f))).length<=2600000000000:=by have o:=bfe f h;have t:=a1g msgT (f.fld 3).asList (topT f) λx m=>auq x (h.msg x m);have z:=a1g ajo (f.fld 4).asList ((f.fld 3).asList.foldl (defG msgT) (topT f)) λx m=>apd x (h.enum x m);have G:20000000001*(f.fld 3).asList.length<=20000000001*64:=Nat.mul_le_mul (by omega) h.msgs;have H:20000000001*(f.fld 4).asList.length<=20000000001*64:=Nat.mul_le_mul (by omega) h.enums;grind
theorem a2t(f:PV)(h:FileOk f):F112 f=some (an5 f):=by
 obtain⟨J,M,O⟩:=aph f h;have U:=h.ok.space;have o:∀c:Bn,c.length<=10000000->_:=λc I=>aww f h c I;have t:F177_c178 () (f.fld 3).asList () (topT f)=_:=bct _ h.msgs h.msg (topT f) (by omega);have z:=a7n _ h.enums h.enum ((f.fld 3).asList.foldl (defG msgT) (topT f)) (by omega);have G:=bcu _ h.svcs h.svc ((f.fld 4).asList.foldl (defG ajo) ((f.fld 3).asList.foldl (defG msgT) (topT f))) (by omega);have m:topT f=(bif (f.fld 1).asStr==[]then[]else[115,112,97,99,101,32]++((f.fld 1).asStr++[59,10]))++(f.fld 2).asList.flatMap impT:=rfl;unfold F112 an5;cases H:((f.fld 1).asStr==([]:Bn))with
 |true=>rw[H]at m;simp only[Ad,Aw]at m;simp(disch:=(first|omega|(simp only[Ak,Al,Am];omega))) only[An,Af,aas,o,Aw,Aa,<-m,t,z,G,ah2]
 |false=>rw[H]at m;simp only[Af,Ap,A0,Aw]at m;simp(disch:=(first|omega|(simp only[Ak,Al,Am];omega))) only[Aq,Ad,adc,azo,aas,o,Aa,Ap,A0,Aw,<-m,t,z,G,ah2]
theorem aqu(f:PV)(h:FileOk f):F139 f=some (an5 f):=by
 obtain⟨J,M,O⟩:=aph f h;have U:=h.ok.space;have o:∀c:Bn,c.length<=10000000->_:=λc I=>aqo f h c I;have t:=a0a f h.msgs h.msg (topT f) (by omega);have z:=axq f h.enums h.enum ((f.fld 3).asList.foldl (defG msgT) (topT f)) (by omega);have G:=a0b f h.svcs h.svc ((f.fld 4).asList.foldl (defG ajo) ((f.fld 3).asList.foldl (defG msgT) (topT f))) (by omega);have m:topT f=(bif (f.fld 1).asStr==[]then[]else[115,112,97,99,101,32]++((f.fld 1).asStr++[59,10]))++(f.fld 2).asList.flatMap impT:=rfl;unfold F139 an5;cases H:((f.fld 1).asStr==([]:Bn))with
 |true=>rw[H]at m;simp only[Ad,Aw]at m;simp(disch:=(first|omega|(simp only[Ak,Al,Am];omega))) only[An,Af,aas,o,Aw,Aa,<-m,t,z,G]
 |false=>rw[H]at m;simp only[Af,Ap,A0,Aw]at m;simp(disch:=(first|omega|(simp only[Ak,Al,Am];omega))) only[Aq,Ad,adc,aas,o,Aa,Ap,A0,Aw,<-m,t,z,G]
end Go.Ab
