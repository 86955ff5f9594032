/- The specification's canonical form, its file and its text. -/
import Derived.Test.YtofplaamkkpciaaGreatDoorPCheckR
set_option linter.unusedVariables false
set_option linter.unusedSimpArgs false
set_option linter.unnecessarySimpa false
namespace Go.Ab
open Go
theorem bay{z H t:Type}{step:z->Option (z⊕H)}(st:Nat->t->z)(n:Nat)(o:t->H)(Inv:Nat->t->Prop)(I:∀i acc,i<n->Inv i acc->∃m,step (st i acc)=some (.inl (st (i+1) m))/\Inv (i+1) m)(G:∀acc,Inv n acc->step (st n acc)=some (.inr (o acc))):
 ∀k i acc,i+k=n->Inv i acc->∃m,aap step (st i acc)=some (o m)/\Inv n m:=by
 intro k
 induction k with
 |zero=>grind[aae]
 |succ k J=>grind[aan]
set_option maxRecDepth 100000
def alp(n:PV):Bool:=!((n.fld 0).asStr==[100,111,99])&&!((n.fld 0).asStr==[111,119,110,101,114])
def aba(l:List PV):List PV:=l.filter alp
theorem awy(l:List PV):(aba l).length<=l.length:=List.length_filter_le _ _
theorem a8e{l:List PV}{x:PV}(h:x∈aba l):x∈l:=(List.mem_filter.1 h).1
theorem af7{l:List PV}(t:l.length<=1048576):F183 l=some (aba l):=by
 have h:aad 0 ((Y3 S183_4)) (l,[],(0:Int))=some (aba l):=axx (step:=(Y3 S183_4)) (λi c=>(l,c,((i:Nat):Int))) l alp (λc=>c) (by omega) (λi c m o=>by
  simp only[Y3,S183_4,decL i _ m,Ad,aaa,Ah m,Ae,aal i (by omega),ada o,au1,alp];cases((l.getD i .bad).fld 0).asStr==[100,111,99]<;>cases((l.getD i .bad).fld 0).asStr==[111,119,110,101,114]<;>simp) (λc=>by
  simp only[Y3,S183_4,decN,Af])
 unfold F183;rw[h];rfl
def ofF(f:PV):PV:=PV.agg [(PV.int (f.fld 0).asInt),(PV.str (f.fld 1).asStr),(PV.int (f.fld 2).asInt),(PV.int (f.fld 3).asInt),f.fld 4,(PV.str (f.fld 5).asStr),(PV.bool (f.fld 6).asBool),f.fld 7,(PV.slice (aba (f.fld 8).asList))]
def ofI(f:PV):PV:=PV.agg [(PV.str (f.fld 0).asStr),(PV.int (f.fld 1).asInt),(PV.slice (aba (f.fld 2).asList))]
def ofT(f:PV):PV:=PV.agg [(PV.str (f.fld 0).asStr),(PV.str (f.fld 1).asStr),(PV.str (f.fld 2).asStr),(PV.int (f.fld 3).asInt),(PV.slice (aba (f.fld 4).asList))]
def ofM(m:PV):PV:=PV.agg [(PV.str (m.fld 0).asStr),(PV.slice ((m.fld 1).asList.map ofF)),(PV.slice (m.fld 2).asList),(PV.slice (m.fld 3).asList),(PV.slice (aba (m.fld 4).asList))]
def ofE(m:PV):PV:=PV.agg [(PV.str (m.fld 0).asStr),(PV.bool (m.fld 1).asBool),(PV.slice ((m.fld 2).asList.map ofI)),(PV.slice (m.fld 3).asList),(PV.slice (aba (m.fld 4).asList))]
def ofV(m:PV):PV:=PV.agg [(PV.str (m.fld 0).asStr),(PV.slice ((m.fld 1).asList.map ofT)),(PV.slice (aba (m.fld 2).asList))]
def ofS(s:PV):PV:=PV.agg [(PV.slice ((s.fld 0).asList.map ofM)),(PV.slice ((s.fld 1).asList.map ofE)),(PV.slice ((s.fld 2).asList.map ofV))]
def zMsg:PV:=PV.agg [(PV.str ([]:Bn)),(PV.slice []),(PV.slice []),(PV.slice []),(PV.slice [])]
def zEnm:PV:=PV.agg [(PV.str ([]:Bn)),(PV.bool false),(PV.slice []),(PV.slice []),(PV.slice [])]
def zSvc:PV:=PV.agg [(PV.str ([]:Bn)),(PV.slice []),(PV.slice [])]
def zSch:PV:=PV.agg [(PV.slice []),(PV.slice []),(PV.slice [])]
def zFil:PV:=PV.agg [(PV.str ([]:Bn)),(PV.str ([]:Bn)),(PV.slice []),(PV.slice []),(PV.slice []),(PV.slice [])]
theorem bk4{m:PV}(h:OkMsg m):F127 m=some (ofM m):=by
 have I:=h.fields;unfold F127;rw[af7 h.notes,Aa];generalize H:aba (m.fld 4).asList=y;have e:aad 0 ((Y11 S127_4)) ((),(),(),(0:Int),m,zMsg,((m.fld 0).asStr),[],((m.fld 2).asList),((m.fld 3).asList),y)=_:=abg (step:=(Y11 S127_4)) (λi c=>((),(),(),((i:Nat):Int),m,zMsg,((m.fld 0).asStr),c,((m.fld 2).asList),((m.fld 3).asList),y)) (m.fld 1).asList ofF
  (λc=>((),(),m,zMsg,((m.fld 0).asStr),c,((m.fld 2).asList),((m.fld 3).asList),y)) (by omega) (λi c o z=>by
  have G:=(h.field _ (aam o)).notes
  simp only[Y11,S127_4,decL i _ o,Ad,aaa,Ah o,Ae,af7 G,Aa,aal i (by omega),ada z]
  rfl) (λc=>by
  simp only[Y11,S127_4,decN,Af])
 have t:aad 0 ((Y11 S127_4)) ((),(),(),(0:Int),m,PV.agg [(PV.str ([]:Bn)),(PV.slice []),(PV.slice []),(PV.slice []),(PV.slice [])],((m.fld 0).asStr),[],((m.fld 2).asList),((m.fld 3).asList),y)=_:=e;rw[t,Aa];unfold ofM;rw[H]
theorem bk1{m:PV}(h:OkEnum m):F128 m=some (ofE m):=by
 have I:=h.items;unfold F128;rw[af7 h.notes,Aa];generalize H:aba (m.fld 4).asList=y;have e:aad 0 ((Y11 S128_4)) ((),(),(),(0:Int),m,zEnm,((m.fld 0).asStr),((m.fld 1).asBool),[],((m.fld 3).asList),y)=_:=abg (step:=(Y11 S128_4)) (λi c=>((),(),(),((i:Nat):Int),m,zEnm,((m.fld 0).asStr),((m.fld 1).asBool),c,((m.fld 3).asList),y)) (m.fld 2).asList ofI
  (λc=>((),(),m,zEnm,((m.fld 0).asStr),((m.fld 1).asBool),c,((m.fld 3).asList),y)) (by omega) (λi c o z=>by
  have G:=(h.item _ (aam o)).notes
  simp only[Y11,S128_4,decL i _ o,Ad,aaa,Ah o,Ae,af7 G,Aa,aal i (by omega),ada z]
  rfl) (λc=>by
  simp only[Y11,S128_4,decN,Af])
 have t:aad 0 ((Y11 S128_4)) ((),(),(),(0:Int),m,PV.agg [(PV.str ([]:Bn)),(PV.bool false),(PV.slice []),(PV.slice []),(PV.slice [])],((m.fld 0).asStr),((m.fld 1).asBool),[],((m.fld 3).asList),y)=_:=e;rw[t,Aa];unfold ofE;rw[H]
theorem bk5{m:PV}(h:OkSvc m):F129 m=some (ofV m):=by
 have I:=h.meths;unfold F129;rw[af7 h.notes,Aa];generalize H:aba (m.fld 2).asList=y;have e:aad 0 ((Y9 S129_4)) ((),(),(),(0:Int),m,zSvc,((m.fld 0).asStr),[],y)=_:=abg (step:=(Y9 S129_4)) (λi c=>((),(),(),((i:Nat):Int),m,zSvc,((m.fld 0).asStr),c,y)) (m.fld 1).asList ofT
  (λc=>((),(),m,zSvc,((m.fld 0).asStr),c,y)) (by omega) (λi c o z=>by
  have G:=(h.meth _ (aam o)).notes
  simp only[Y9,S129_4,decL i _ o,Ad,aaa,Ah o,Ae,af7 G,Aa,aal i (by omega),ada z]
  rfl) (λc=>by
  simp only[Y9,S129_4,decN,Af])
 have t:aad 0 ((Y9 S129_4)) ((),(),(),(0:Int),m,PV.agg [(PV.str ([]:Bn)),(PV.slice []),(PV.slice [])],((m.fld 0).asStr),[],y)=_:=e;rw[t,Aa];unfold ofV;rw[H]
theorem bba{s:PV}{b:Bool}(h:SOk s)(U:F89 s=some b):F92 s=some (bif b then ofS s else s):=by
 have V:=h.len.m;have l1:=h.len.e;have l2:=h.len.v;unfold F92;rw[U,Aa];cases b with
 |false=>rfl
 |true=>
  have I:=h.msg;have J:=h.enum;have O:=h.svc;unfold ofS;have z:aad 0 ((Y9 S92_6)) ((),(),(),(0:Int),s,zSch,[],[],[])=_:=abg (step:=(Y9 S92_6)) (λi c=>((),(),(),((i:Nat):Int),s,zSch,c,[],[])) (s.fld 0).asList ofM (λc=>((),(),(),s,zSch,c,[],[])) (by omega) (λi c o t=>by
   simp only[Y9,S92_6,decL i _ o,Ad,aaa,Ah o,Ae,bk4 (I _ (aam o)),Aa,aal i (by omega),ada t]) (λc=>by
   simp only[Y9,S92_6,decN,Af])
  have G:∀M:List PV,aad 0 ((Y9 S92_10)) ((),(),(),(0:Int),s,zSch,M,[],[])=some ((),(),(),s,zSch,M,(s.fld 1).asList.map ofE,[]):=λM=>abg (step:=(Y9 S92_10)) (λi c=>((),(),(),((i:Nat):Int),s,zSch,M,c,[])) (s.fld 1).asList ofE (λc=>((),(),(),s,zSch,M,c,[])) (by omega) (λi c o t=>by
   simp only[Y9,S92_10,decL i _ o,Ad,aaa,Ah o,Ae,bk1 (J _ (aam o)),Aa,aal i (by omega),ada t]) (λc=>by
   simp only[Y9,S92_10,decN,Af])
  have H:∀M E:List PV,aad 0 ((Y9 S92_14)) ((),(),(),(0:Int),s,zSch,M,E,[])=some ((),(),s,zSch,M,E,(s.fld 2).asList.map ofV):=λM E=>abg (step:=(Y9 S92_14)) (λi c=>((),(),(),((i:Nat):Int),s,zSch,M,E,c)) (s.fld 2).asList ofV (λc=>((),(),s,zSch,M,E,c)) (by omega) (λi c o t=>by
   simp only[Y9,S92_14,decL i _ o,Ad,aaa,Ah o,Ae,bk5 (O _ (aam o)),Aa,aal i (by omega),ada t]) (λc=>by
   simp only[Y9,S92_14,decN,Af])
  simp only[An,Af,Ad];rw[show(PV.agg [(PV.slice []),(PV.slice []),(PV.slice [])])=zSch from rfl,z,Aa];dsimp only;rw[G,Aa];dsimp only;rw[H,Aa]
def baf(n:Int)(x:PV):Bool:=IntKind.wrap .u64 (x.fld 1).asInt==n
def akp(nm:Bn)(n:Int)(e:PV):Option PV:=bif (e.fld 0).asStr==nm then(e.fld 2).asList.findSome? (λx=>bif baf n x then some x else none)else none
def au4(es:List PV)(nm:Bn)(n:Int):Bn:=(es.findSome? (akp nm n)).elim [] λx=>(x.fld 0).asStr
theorem bem{s:PV}{nm:Bn}{n:Int}(M:(s.fld 1).asList.length<=1048576)(H:∀e,e∈(s.fld 1).asList->(e.fld 2).asList.length<=1048576):F126 s nm n=some (au4 (s.fld 1).asList nm n):=by
 have G:aad 0 ((Y5 S126_3)) (nm,n,(),(0:Int),s)=some (((s.fld 1).asList.findSome? (akp nm n)).elim (.inr s) λx=>.inl ((x.fld 0).asStr,s)):=by
  have h:=aea (step:=(Y5 S126_3)) (λi=>(nm,n,(),((i:Nat):Int),s)) (s.fld 1).asList (akp nm n) (λx=>.inl ((x.fld 0).asStr,s)) (.inr s) (λi m=>by
   have J:=aam m;have I:=H _ J;have q:aad 0 ((Y6 S126_6)) (nm,n,(),((i:Nat):Int),(0:Int),s)=some ((akp nm n ((s.fld 1).asList.getD i .bad)).elim (.inr (nm,n,(),((i:Nat):Int),s)) λx=>.inl ((x.fld 0).asStr,s)):=by
    unfold akp;cases o:(((s.fld 1).asList.getD i .bad).fld 0).asStr==nm with
    |false=>refine aae ?_;simp only[Y6,S126_6,aaa,Ah m,Ad,Ae,o,a9v,Af];rfl
    |true=>
     have t:=aea (step:=(Y6 S126_6)) (λk=>(nm,n,(),((i:Nat):Int),((k:Nat):Int),s)) ((((s.fld 1).asList.getD i .bad).fld 2).asList) (λx=>bif baf n x then some x else none) (λx=>.inl ((x.fld 0).asStr,s)) (.inr (nm,n,(),((i:Nat):Int),s)) (λk z=>by
      simp only[Y6,S126_6,aaa,Ah m,Ad,Ae,o,aio,decL k _ z,Ah z,aal k (by omega),baf];cases IntKind.wrap .u64 (((((s.fld 1).asList.getD i .bad).fld 2).asList.getD k .bad).fld 1).asInt==n<;>rfl) (by
      simp only[Y6,S126_6,aaa,Ah m,Ad,Ae,o,aio,decN,Af]) _ 0 (Nat.zero_add _)
     rw[Ar]at t;exact t
   simp only[Y5,S126_3,decL i _ m,Ad];rw[q,Aa];cases akp nm n ((s.fld 1).asList.getD i .bad)with
   |some x=>rfl
   |none=>simp only[Option.elim,aa6,aal i (show i<=1000000000000 by omega)]) (by
   simp only[Y5,S126_3,decN,Af]) _ 0 (Nat.zero_add _)
  rw[Ar]at h;exact h
 unfold F126 au4;rw[G,Aa];cases(s.fld 1).asList.findSome? (akp nm n)<;>rfl
theorem bae{es:List PV}{nm:Bn}{n:Int}(h:∀e,e∈es->∀x,x∈(e.fld 2).asList->(x.fld 0).asStr.length<=1048576):(au4 es nm n).length<=1048576:=by
 unfold au4;cases t:es.findSome? (akp nm n)with
 |none=>simp
 |some x=>
  obtain⟨e,G,m⟩:=List.exists_of_findSome?_eq_some t;unfold akp at m;cases o:(e.fld 0).asStr==nm with
  |false=>grind
  |true=>rw[o,Ad]at m;obtain⟨y,H,z⟩:=List.exists_of_findSome?_eq_some m;grind
def fk9(f:PV):Bool:=((f.fld 4).fld 0).asInt==(9:Int)
def fk10(f:PV):Bool:=((f.fld 4).fld 0).asInt==(10:Int)
def bd1(es:List PV)(f:PV):PV:=PV.agg [(PV.int (9:Int)),(PV.int (0:Int)),(PV.str (au4 es ((f.fld 4).fld 1).asStr ((f.fld 7).fld 1).asInt)),(PV.slice []),(PV.slice []),(PV.slice []),(PV.slice [])]
def bd4(f:PV):PV:=PV.agg [(PV.int (0:Int)),(PV.str (([46]:Bn)++((f.fld 4).fld 1).asStr))]
def ap3(es:List PV)(f:PV):PV:=
 bif (bif fk9 f then(f.fld 6).asBool else false)||(bif fk9 f then true else fk10 f)then
  PV.agg [(PV.int (f.fld 0).asInt),(PV.str (f.fld 1).asStr),(PV.int (f.fld 2).asInt),(PV.int (f.fld 3).asInt),(bif (bif fk9 f then true else fk10 f)then bd4 f else f.fld 4),(PV.str (f.fld 5).asStr),(PV.bool (f.fld 6).asBool),(bif (bif fk9 f then(f.fld 6).asBool else false)then bd1 es f else f.fld 7),(PV.slice (f.fld 8).asList)]
 else f
def axg(f:PV):PV:=PV.agg [(PV.str (f.fld 0).asStr),(PV.str (([46]:Bn)++(f.fld 1).asStr)),(PV.str (([46]:Bn)++(f.fld 2).asStr)),(PV.int (f.fld 3).asInt),(PV.slice (f.fld 4).asList)]
def a9h(es:List PV)(m:PV):PV:=PV.agg [(PV.str (m.fld 0).asStr),(PV.slice ((m.fld 1).asList.map (ap3 es))),(PV.slice (m.fld 2).asList),(PV.slice (m.fld 3).asList),(PV.slice (m.fld 4).asList)]
def az4(m:PV):PV:=PV.agg [(PV.str (m.fld 0).asStr),(PV.slice ((m.fld 1).asList.map axg)),(PV.slice (m.fld 2).asList)]
def ap2(s:PV):PV:=PV.agg [(PV.str ([]:Bn)),(PV.str ([]:Bn)),(PV.slice []),(PV.slice ((s.fld 0).asList.map (a9h (s.fld 1).asList))),(PV.slice (s.fld 1).asList),(PV.slice ((s.fld 2).asList.map az4))]
theorem bhj{α:Type}{a:Bn}{X:Option α}(h:a.length<=100000000):(bif decide (([46]:Bn).length+a.length<=aac)then X else none)=X:=by grind[decide_eq_true,aac]
theorem a5i{s z:PV}{H I M:Bn}{J o t G O U V:List PV}{m:PV}{j:Int}(Z:SOk s)(Y:OkMsg m):
 aad 0 ((Y8 S91_9)) ((),(),(),j,(),(),(0:Int),s,z,H,I,J,o,t,G,m,M,[],O,U,V)=some ((),(),(),j,(),s,z,H,I,J,o,t,G,m,M,(m.fld 1).asList.map (ap3 (s.fld 1).asList),O,U,V):=
 abg (step:=(Y8 S91_9)) (λi c=>((),(),(),j,(),(),((i:Nat):Int),s,z,H,I,J,o,t,G,m,M,c,O,U,V)) (m.fld 1).asList (ap3 (s.fld 1).asList) (λc=>((),(),(),j,(),s,z,H,I,J,o,t,G,m,M,c,O,U,V)) (by have:=Y.fields;omega) (λi c W hc=>by
  have hl:=Y.fields;have ho:=Y.field _ (aam W);have ht:=ho.type;have X:F126 s ((((m.fld 1).asList.getD i .bad).fld 4).fld 1).asStr ((((m.fld 1).asList.getD i .bad).fld 7).fld 1).asInt=_:=bem Z.len.e (λe he=>(Z.enum e he).items);simp only[Y8,S91_9,decL i _ W,Ad,aaa,Ah W,Ae,X,Aa,aal i (by omega),ada hc,bhj (show((((m.fld 1).asList.getD i .bad).fld 4).fld 1).asStr.length<=100000000 by omega),ap3,fk9,fk10,bd1,bd4];cases(((((m.fld 1).asList.getD i .bad).fld 4).fld 0).asInt==(9:Int))<;>cases(((((m.fld 1).asList.getD i .bad).fld 4).fld 0).asInt==(10:Int))<;>cases(((m.fld 1).asList.getD i .bad).fld 6).asBool<;>rfl) (λc=>by
  simp only[Y8,S91_9,decN,Af])
theorem a5j{s z:PV}{H I M:Bn}{J o t G O:List PV}{m:PV}{j:Int}(V:OkSvc m):
 aad 0 ((Y8 S91_24)) ((),(),(),j,(),(),(0:Int),s,z,H,I,J,o,t,G,m,M,[],O)=some ((),(),(),j,(),s,z,H,I,J,o,t,G,m,M,(m.fld 1).asList.map axg,O):=
 abg (step:=(Y8 S91_24)) (λi c=>((),(),(),j,(),(),((i:Nat):Int),s,z,H,I,J,o,t,G,m,M,c,O)) (m.fld 1).asList axg (λc=>((),(),(),j,(),s,z,H,I,J,o,t,G,m,M,c,O)) (by have:=V.meths;omega) (λi c U X=>by
  have hl:=V.meths;have W:=V.meth _ (aam U);have Y:=W.inn;have Z:=W.out;simp only[Y8,S91_24,decL i _ U,Ad,aaa,Ah U,Ae,aal i (by omega),ada X,bhj (show(((m.fld 1).asList.getD i .bad).fld 1).asStr.length<=100000000 by omega),bhj (show(((m.fld 1).asList.getD i .bad).fld 2).asStr.length<=100000000 by omega),axg]) (λc=>by
  simp only[Y8,S91_24,decN,Af])
theorem bd0{s:PV}(h:SOk s):F91 s=some (ap2 s):=by
 have I:=h.len.m;have l1:=h.len.e;have l2:=h.len.v;have G:aad 0 ((Y5 S91_4)) ((),(),(),(0:Int),s,zFil,([]:Bn),([]:Bn),[],[],((s.fld 1).asList),[])=_:=abg (step:=(Y5 S91_4)) (λi c=>((),(),(),((i:Nat):Int),s,zFil,([]:Bn),([]:Bn),[],c,((s.fld 1).asList),[])) (s.fld 0).asList (a9h (s.fld 1).asList) (λc=>((),(),(),s,zFil,([]:Bn),([]:Bn),[],c,((s.fld 1).asList),[])) (by omega) (λi c o t=>by
  have z:=h.msg _ (aam o);simp only[Y5,S91_4,decL i _ o,Ad,aaa,Ah o,Ae,a5i h z,Aa,aal i (by omega),ada t,a9h]) (λc=>by
  simp only[Y5,S91_4,decN,Af])
 have H:∀M:List PV,aad 0 ((Y5 S91_19)) ((),(),(),(0:Int),s,zFil,([]:Bn),([]:Bn),[],M,((s.fld 1).asList),[])=some ((),(),s,zFil,([]:Bn),([]:Bn),[],M,((s.fld 1).asList),(s.fld 2).asList.map az4):=λM=>abg (step:=(Y5 S91_19)) (λi c=>((),(),(),((i:Nat):Int),s,zFil,([]:Bn),([]:Bn),[],M,((s.fld 1).asList),c)) (s.fld 2).asList az4 (λc=>((),(),s,zFil,([]:Bn),([]:Bn),[],M,((s.fld 1).asList),c)) (by omega) (λi c o t=>by
  have z:=h.svc _ (aam o);simp only[Y5,S91_19,decL i _ o,Ad,aaa,Ah o,Ae,a5j z,Aa,aal i (by omega),ada t,az4]) (λc=>by
  simp only[Y5,S91_19,decN,Af])
 unfold F91 ap2;rw[show(PV.agg [(PV.str ([]:Bn)),(PV.str ([]:Bn)),(PV.slice []),(PV.slice []),(PV.slice []),(PV.slice [])])=zFil from rfl,G,Aa];dsimp only;rw[H,Aa]
theorem lmem{l:List PV}{g:PV->PV}{x:PV}(h:x∈l.map g):∃y,y∈l/\x=g y:=by grind
theorem adm{l:List PV}(h:l.length<=1048576)(o:∀n,n∈l->ab5 n):(aba l).length<=1048576/\∀n,n∈aba l->ab5 n:=⟨Nat.le_trans (awy l) h,λn m=>o n (a8e m)⟩
theorem bgx{f:PV}(h:OkFld f):OkFld (ofF f):=⟨h.name,h.type,h.union,h.dflt,(adm h.notes h.note).1,(adm h.notes h.note).2⟩
theorem bk3{f:PV}(h:OkItem f):OkItem (ofI f):=⟨h.name,(adm h.notes h.note).1,(adm h.notes h.note).2⟩
theorem bgz{f:PV}(h:OkMeth f):OkMeth (ofT f):=⟨h.name,h.inn,h.out,(adm h.notes h.note).1,(adm h.notes h.note).2⟩
theorem aj6{l:List PV}{g:PV->PV}{n:Nat}(h:l.length<=n):(l.map g).length<=n:=by grind
theorem bgy{m:PV}(h:OkMsg m):OkMsg (ofM m):=⟨h.name,aj6 h.fields,λx o=>by obtain⟨y,t,rfl⟩:=lmem o;exact bgx (h.field y t),h.spans,h.gone,h.goneS,(adm h.notes h.note).1,(adm h.notes h.note).2⟩
theorem bk2{m:PV}(h:OkEnum m):OkEnum (ofE m):=⟨h.name,aj6 h.items,λx o=>by obtain⟨y,t,rfl⟩:=lmem o;exact bk3 (h.item y t),h.spans,(adm h.notes h.note).1,(adm h.notes h.note).2⟩
theorem bg0{m:PV}(h:OkSvc m):OkSvc (ofV m):=⟨h.name,aj6 h.meths,λx o=>by obtain⟨y,t,rfl⟩:=lmem o;exact bgz (h.meth y t),(adm h.notes h.note).1,(adm h.notes h.note).2⟩
theorem bbb{s:PV}(h:SOk s):SOk (ofS s):=⟨⟨aj6 h.len.m,aj6 h.len.e,aj6 h.len.v⟩,λx o=>by
 obtain⟨y,t,rfl⟩:=lmem o;exact bgy (h.msg y t),λx o=>by
 obtain⟨y,t,rfl⟩:=lmem o;exact bk2 (h.enum y t),λx o=>by
 obtain⟨y,t,rfl⟩:=lmem o;exact bg0 (h.svc y t)⟩
theorem bew{v x:PV}(h:x∈v.asList):aag x+1<=aag v:=by
 cases v with
 |slice l=>have:=ag8 (show x∈l from h);grind[aag]
 |_=>cases h
theorem adf{v x:PV}{i:Nat}(h:x∈(v.fld i).asList):aag x+1<=aag v:=Nat.le_trans (bew h) (ab6 v i)
theorem a1n(v:PV)(i:Nat):(v.fld i).asStr.length+1<=aag v:=Nat.le_trans (auh _) (ab6 v i)
theorem bfc{i:Nat}:∀l:List PV,abt l i<=abq l:=by
 intro l;induction l with
 |nil=>exact Nat.le_refl _
 |cons m r G=>have o:=afb (m.fld i);have t:=ab6 m i;have z:abt (m::r) i=(m.fld i).asList.length+1+abt r i:=rfl;grind[abq]
theorem ait{i j:Nat}{g:PV->PV}(z:∀m,((g m).fld i).asList.length=(m.fld j).asList.length):∀l:List PV,abt (l.map g) i=abt l j:=by
 intro l;induction l with
 |nil=>rfl
 |cons m r G=>have o:abt ((m::r).map g) i=((g m).fld i).asList.length+1+abt (r.map g) i:=rfl;have t:abt (m::r) j=(m.fld j).asList.length+1+abt r j:=rfl;grind
theorem bd2{es:List PV}{f:PV}(h:OkFld f)(o:((f.fld 4).fld 1).asStr.length+1<=1048576)(m:∀n b,(au4 es n b).length<=1048576):OkFld (ap3 es f):=by
 unfold ap3;cases(bif fk9 f then(f.fld 6).asBool else false)||(bif fk9 f then true else fk10 f)with
 |false=>exact h
 |true=>
  refine⟨h.name,?_,h.union,?_,h.notes,h.note⟩
  ·show((bif (bif fk9 f then true else fk10 f)then bd4 f else f.fld 4).fld 1).asStr.length<=1048576;cases(bif fk9 f then true else fk10 f)with
   |true=>show(([46]:Bn)++((f.fld 4).fld 1).asStr).length<=1048576;grind
   |false=>exact h.type
  ·show acp (bif (bif fk9 f then(f.fld 6).asBool else false)then bd1 es f else f.fld 7);cases(bif fk9 f then(f.fld 6).asBool else false)with
   |true=>exact⟨show(0:Nat)<=1048576 by omega,m _ _,show(0:Int)<=0 by omega,show(0:Int)<18446744073709551616 by omega⟩
   |false=>exact h.dflt
theorem bd3{f:PV}(h:OkMeth f)(m:(f.fld 1).asStr.length+1<=1048576)(o:(f.fld 2).asStr.length+1<=1048576):OkMeth (axg f):=by
 refine⟨h.name,?_,?_,h.notes,h.note⟩
 ·show(([46]:Bn)++(f.fld 1).asStr).length<=1048576;grind
 ·show(([46]:Bn)++(f.fld 2).asStr).length<=1048576;grind
theorem axh{s:PV}(h:SOk s)(hb:aag s<=1048576):OkFile (ap2 (ofS s)):=by
 have I:=bbb h;have M:∀n b,(au4 ((ofS s).fld 1).asList n b).length<=1048576:=λn b=>bae λe Z x G=>((I.enum e Z).item x G).name;refine⟨show(0:Nat)<=1048576 by omega,show(0:Nat)<=1048576 by omega,λx G=>absurd G (by show ¬x∈([]:List PV);simp),?_,λx G=>?_,I.len.e,I.enum,?_,λx G=>?_,?_⟩
 ·exact aj6 I.len.m
 ·obtain⟨y,O,rfl⟩:=lmem G;obtain⟨m,t,rfl⟩:=lmem O;have o:=bgy (h.msg m t);refine⟨o.name,aj6 o.fields,λz U=>?_,o.spans,o.gone,o.goneS,o.notes,o.note⟩;obtain⟨f,J,rfl⟩:=lmem U;obtain⟨g,H,rfl⟩:=lmem J;refine bd2 (bgx ((h.msg m t).field g H)) ?_ M;have V:=adf t;have W:=adf H;have X:=ab6 g 4;have Y:=a1n (g.fld 4) 1;show((g.fld 4).fld 1).asStr.length+1<=1048576;omega
 ·exact aj6 I.len.v
 ·obtain⟨y,O,rfl⟩:=lmem G;obtain⟨m,t,rfl⟩:=lmem O;have o:=bg0 (h.svc m t);refine⟨o.name,aj6 o.meths,λz U=>?_,o.notes,o.note⟩;obtain⟨f,J,rfl⟩:=lmem U;obtain⟨g,H,rfl⟩:=lmem J;have V:=adf t;have W:=adf H;have X:=a1n g 1;have Y:=a1n g 2;refine bd3 (bgz ((h.svc m t).meth g H)) ?_ ?_
  ·show(g.fld 1).asStr.length+1<=1048576;omega
  ·show(g.fld 2).asStr.length+1<=1048576;omega
 ·have e1:abt ((ap2 (ofS s)).fld 3).asList 1=abt (s.fld 0).asList 1:=by
   show abt (((s.fld 0).asList.map ofM).map (a9h ((ofS s).fld 1).asList)) 1=_;rw[ait (j:=1) (λm=>by show((m.fld 1).asList.map (ap3 ((ofS s).fld 1).asList)).length=_;grind),ait (j:=1) (λm=>by show((m.fld 1).asList.map ofF).length=_;grind)]
  have e2:abt ((ap2 (ofS s)).fld 4).asList 2=abt (s.fld 1).asList 2:=by show abt ((s.fld 1).asList.map ofE) 2=_;rw[ait (j:=2) (λm=>by show((m.fld 2).asList.map ofI).length=_;grind)]
  have e3:abt ((ap2 (ofS s)).fld 5).asList 1=abt (s.fld 2).asList 1:=by show abt (((s.fld 2).asList.map ofV).map az4) 1=_;rw[ait (j:=1) (λm=>by show((m.fld 1).asList.map axg).length=_;grind),ait (j:=1) (λm=>by show((m.fld 1).asList.map ofT).length=_;grind)]
  grind[abq,amz,ab6,p0,bfc,q0]
noncomputable def canT(s:PV):Bn:=bif chkF (ap2 (ofS s)) != 0 then[]else aok (ap2 (ofS s))
theorem bdj{f:PV}(h:chkF f=0):(aok f).length<=16384:=by unfold chkF at h;grind
theorem a2l(s:PV):(canT s).length<=16384:=by grind[canT,chkF,ap2,ofS,bdj]
theorem ae0{s:PV}{b:Bool}(h:SOk s)(o:aag s<=1048576)(m:F89 s=some b):F54 s=some (bif b then canT s else[]):=by
 unfold F54;rw[m,Aa];cases b with
 |false=>rfl
 |true=>simp only[An,Af];rw[bba h m,Aa,Ad,bd0 (bbb h),Aa,a08 _ (axh h o),Aa];rfl
theorem bhu{t:Bn}(h:t.length<=1000000):Ret (F53 t) λ_=>True:=by
 obtain⟨r,z,_⟩:=bay (step:=(Y3 S53_4)) (λi(a:Int)=>(t,a,((i:Nat):Int))) t.length (λa=>a) (λ_ _=>True) (λi a o _=>by
  simp only[Y3,S53_4,decL i _ o,Ad,aaa,Ah o,Ae,aal i (by omega)];exact⟨_,rfl,trivial⟩) (λa _=>by
  simp only[Y3,S53_4,decN,Af]) t.length 0 (14695981039346656037:Int) (Nat.zero_add _) trivial
 have m:aad 0 ((Y3 S53_4)) (t,(14695981039346656037:Int),(0:Int))=some r:=z;unfold F53;rw[m];exact⟨_,rfl,trivial⟩
theorem bbi{s:PV}(h:SOk s)(m:aag s<=1048576):Ret (F17 s) λ_=>True:=by
 obtain⟨b,o⟩:=ai6 h m;unfold F17;rw[ae0 h m o,Aa];refine adv (bhu ?_) λy _ _=>aju _;cases b with
 |false=>simp
 |true=>have:=a2l s;simp only[Ad];omega
end Go.Ab
namespace Go.Ab
open Go
set_option maxRecDepth 100000
theorem biu{o:(PV×PV)->Option Bool}{v:PV}(W:aag v<=1048576)(h:∀x,aag x<aag v->o (x,x)=some true):B405 o v v=some true:=by
 have z:∀i,(v.fld i).asList.length<=1048576:=λi=>by have:=abr v i;omega
 have O:∀i k,k<(v.fld i).asList.length->aag ((v.fld i).asList.getD k .bad)<aag v:=λi k J=>by have:=adf (aam J);omega
 have t:∀i k j,k<(v.fld i).asList.length->aag (((v.fld i).asList.getD k .bad).fld j)<aag v:=λi k j J=>by have U:=adf (aam J);have V:=ab6 ((v.fld i).asList.getD k .bad) j;omega
 have l3:=z 3;have l4:=z 4;have l5:=z 5;have X:=z 6;have M:aad 0 (B405_5step o) ((),(),(0:Int),v,v)=some (.inr ((),(),v,v)):=acm (step:=B405_5step o) (λi=>((),(),((i:Nat):Int),v,v)) (v.fld 3).asList.length _ (λi m=>by
  simp only[B405_5step,B405_5,decL i _ m,Ad,aaa,Ah m,Ae,h _ (O 3 i m),Aa,An,Af,aal i (by omega)]) (by
  simp only[B405_5step,B405_5,decN,Af])
 have G:aad 0 (B405_10step o) ((),(),(0:Int),v,v)=some (.inr ((),(),v,v)):=acm (step:=B405_10step o) (λi=>((),(),((i:Nat):Int),v,v)) (v.fld 4).asList.length _ (λi m=>by
  simp only[B405_10step,B405_10,decL i _ m,Ad,aaa,Ah m,Ae,h _ (t 4 i 0 m),h _ (t 4 i 1 m),Aa,An,Ao,aio,Af,aal i (by omega)]) (by
  simp only[B405_10step,B405_10,decN,Af])
 have H:aad 0 (B405_15step o) ((),(),(0:Int),v,v)=some (.inr ((),(),v,v)):=acm (step:=B405_15step o) (λi=>((),(),((i:Nat):Int),v,v)) (v.fld 5).asList.length _ (λi m=>by
  simp only[B405_15step,B405_15,decL i _ m,Ad,aaa,Ah m,Ae,bne_self_eq_false,h _ (t 5 i 1 m),Aa,An,Ao,aio,Af,aal i (by omega)]) (by
  simp only[B405_15step,B405_15,decN,Af])
 have I:aad 0 (B405_20step o) ((),(),(0:Int),v,v)=some (.inr (v,v)):=acm (step:=B405_20step o) (λi=>((),(),((i:Nat):Int),v,v)) (v.fld 6).asList.length _ (λi m=>by
  simp only[B405_20step,B405_20,decL i _ m,Ad,aaa,Ah m,Ae,Az,An,Af,aal i (by omega)]) (by
  simp only[B405_20step,B405_20,decN,Af])
 unfold B405;simp only[bne_self_eq_false,Az,An,Af];rw[M,Aa,aa6];dsimp only;rw[G,Aa,aa6];dsimp only;rw[H,Aa,aa6];dsimp only;rw[I,Aa,aa6]
theorem awf{v:PV}(z:aag v<=1048576):F405 v v=some true:=by
 have m:∀n v,aag v<=n->aag v<=1048576->∀d,n<=d->G405 d (v,v)=some true:=by
  intro n;induction n with
  |zero=>intro v h;have:=aez v;omega
  |succ n H=>
   intro v h G d o;obtain⟨e,rfl⟩:∃e,d=e+1:=⟨d-1,by omega⟩;exact biu G λx t=>by have t:aag x<aag v:=t;exact H x (by omega) (by omega) e (by omega)
 unfold F405;exact a5z (aag v) λd o=>m _ v (Nat.le_refl _) z d o
theorem atq{l:List PV}(z:l.length<=1048576)(h:∀x,x∈l->aag x<=1048576):F326 l l=some true:=by
 have e:aad 0 ((Y3 S326_5)) (l,l,(0:Int))=some (.inr ()):=acm (step:=(Y3 S326_5)) (λi=>(l,l,((i:Nat):Int))) l.length _ (λi m=>by
  have o:=h _ (aam m);have t:=ab6 (l.getD i .bad) 1;simp only[Y3,S326_5,decL i _ m,Ad,aaa,Ah m,Ae,Az,awf (show aag ((l.getD i .bad).fld 1)<=1048576 by omega),Aa,An,Ao,aio,Af,aal i (by omega)]) (by
  simp only[Y3,S326_5,decN,Af])
 unfold F326;simp only[bne_self_eq_false,Af];rw[e];rfl
abbrev Bare(v:PV)(i:Nat):Prop:=aba (v.fld i).asList=(v.fld i).asList
theorem atp{l:List PV}(o:l.length<=1048576)(h:∀x,x∈l->aag x<=1048576):Ret (F326 l (aba l)) λb=>b=true->aba l=l:=by
 by_cases m:(aba l).length=l.length
 ·have e:aba l=l:=List.filter_eq_self.2 (List.length_filter_eq_length_iff.1 m);rw[e,atq o h];exact⟨true,rfl,λ_=>rfl⟩
 ·unfold F326;have:((l.length:Int) != ((aba l).length:Int))=true:=bneI (by omega);rw[this];exact⟨false,rfl,nofun⟩
theorem at0{a b:List PV}(H:a.length<=1048576):Ret (F324 a b) λ_=>True:=by
 unfold F324;by_cases m:a.length=b.length
 ·obtain⟨r,z,G⟩:=atm (step:=(Y3 S324_5)) (λi=>(a,b,((i:Nat):Int))) a.length (λ_=>.inl false) (.inr ()) (λi t=>by
   simp only[Y3,S324_5,decL i _ t,Ad,aaa,Ah t,Ah (show i<b.length by omega),Ae,au1,aal i (by omega)];cases((a.getD i .bad).fld 0).asInt != ((b.getD i .bad).fld 0).asInt<;>cases((a.getD i .bad).fld 1).asInt != ((b.getD i .bad).fld 1).asInt
   ·exact Or.inl rfl
   ·exact Or.inr rfl
   ·exact Or.inr rfl
   ·exact Or.inr rfl) (by
   simp only[Y3,S324_5,decN,Af]) a.length 0 (Nat.zero_add _)
  have o:aad 0 ((Y3 S324_5)) (a,b,(0:Int))=some r:=z;rw[show((a.length:Int) != (b.length:Int))=false by rw[m];simp,Af,o];rcases G with rfl|⟨j,_,rfl⟩<;>exact aju _
 ·rw[show((a.length:Int) != (b.length:Int))=true from bneI (by omega)];exact aju _
theorem a7g{a b:List PV}(H:a.length<=1048576):Ret (F325 a b) λ_=>True:=by
 unfold F325;by_cases m:a.length=b.length
 ·obtain⟨r,z,G⟩:=atm (step:=(Y3 S325_5)) (λi=>(a,b,((i:Nat):Int))) a.length (λ_=>.inl false) (.inr ()) (λi t=>by
   simp only[Y3,S325_5,decL i _ t,Ad,aaa,Ah t,Ah (show i<b.length by omega),Ae,aal i (by omega)];cases(a.getD i .bad).asStr==(b.getD i .bad).asStr
   ·exact Or.inr rfl
   ·exact Or.inl rfl) (by
   simp only[Y3,S325_5,decN,Af]) a.length 0 (Nat.zero_add _)
  have o:aad 0 ((Y3 S325_5)) (a,b,(0:Int))=some r:=z;rw[show((a.length:Int) != (b.length:Int))=false by rw[m];simp,Af,o];rcases G with rfl|⟨j,_,rfl⟩<;>exact aju _
 ·rw[show((a.length:Int) != (b.length:Int))=true from bneI (by omega)];exact aju _
theorem a3s{c:Bool}{x:Option Bool}(h:Ret x λ_=>True):Ret (bif c then x else some false) λ_=>True:=av0 h (aju _)
theorem av1{c:Bool}{x:Option Bool}{P:Prop}(h:Ret x λb=>b=true->P):Ret (bif c then x else some false) λb=>b=true->P:=av0 h ⟨false,rfl,nofun⟩
theorem aky{R:Type}{c:Bool}{x y:Option R}{G:R->Prop}(m:c=true->Ret x G)(o:c=false->Ret y G):Ret (bif c then x else y) G:=by cases c with
 |true=>exact m rfl
 |false=>exact o rfl
theorem akf{G:Bool->Prop}(h:G false):Ret (some false) G:=⟨false,rfl,h⟩
theorem bjn{c z:Bool}(h:(bif c then z else false)=true):z=true:=by grind
theorem bhb{c z:Bool}(h:(bif c then true else(!z))=false):z=true:=by grind
theorem nb{v:PV}{i:Nat}(h:aag v<=1048576):Ret (F326 (v.fld i).asList (aba (v.fld i).asList)) λb=>b=true->Bare v i:=
 atp (by have:=abr v i;omega) λx m=>by have:=adf m;omega
theorem a5h{f:PV}(h:aag f<=1048576):Ret (F327 f (ofF f)) λb=>b=true->Bare f 8:=by unfold F327;refine adv (P:=λ_=>True) (a3s ⟨true,awf (v:=f.fld 7) (Nat.le_trans (ab6 f 7) h),trivial⟩) λy _ _=>?_;exact adv (av1 (nb (v:=f) (i:=8) h)) λz _ o=>⟨_,rfl,λm=>o (bjn m)⟩
theorem adn{G M:Type}{step:G->Option (G⊕M)}(st:Nat->G)(n:Nat)(bad m:M)(P:Nat->Prop)(o:Nat->Option Bool)(z:∀i,i<n->step (st i)=(o i).bind λy=>bif !y then some (.inr bad)else some (.inl (st (i+1))))(O:∀i,i<n->Ret (o i) λb=>b=true->P i)(t:step (st n)=some (.inr m)):
 ∃r,aap step (st 0)=some r/\(r=bad\/r=m/\∀i,i<n->P i):=by
 have h:∀k i,i+k=n->∃r,aap step (st i)=some r/\(r=bad\/r=m/\∀j,i<=j->j<n->P j):=by
  intro k;induction k with
  |zero=>
   intro i U;obtain rfl:i=n:=by omega
   exact⟨m,aae t,Or.inr ⟨rfl,λj H I=>by omega⟩⟩
  |succ k W=>
   intro i U;obtain⟨y,V,X⟩:=O i (by omega);have J:=z i (by omega);rw[V,Aa]at J;cases y with
   |false=>exact⟨bad,aae J,Or.inl rfl⟩
   |true=>obtain⟨r,H,I⟩:=W (i+1) (by omega);refine⟨r,by grind[aan],?_⟩;grind
 obtain⟨r,H,I⟩:=h n 0 (Nat.zero_add _)
 grind
theorem aqm{l:List PV}{P:PV->Prop}(h:∀i,i<l.length->P (l.getD i .bad)):∀x,x∈l->P x:=λx m=>by obtain⟨i,o,rfl⟩:=List.getElem_of_mem m;grind
abbrev awn(m:PV):Prop:=Bare m 4/\∀x,x∈(m.fld 1).asList->Bare x 8
abbrev awm(m:PV):Prop:=Bare m 4/\∀x,x∈(m.fld 2).asList->Bare x 2
abbrev awo(m:PV):Prop:=Bare m 2/\∀x,x∈(m.fld 1).asList->Bare x 4
abbrev a7k(s:PV):Prop:=(∀m,m∈(s.fld 0).asList->awn m)/\(∀m,m∈(s.fld 1).asList->awm m)/\∀m,m∈(s.fld 2).asList->awo m
theorem bex{m:PV}(h:aag m<=1048576):Ret (F220 m (ofM m)) λb=>b=true->awn m:=by
 have z:∀i,(m.fld i).asList.length<=1048576:=λi=>by have:=abr m i;omega
 have l1:=z 1;have G:((ofM m).fld 1).asList=(m.fld 1).asList.map ofF:=rfl;unfold F220;refine adv (P:=λ_=>True) (a3s (at0 (z 2))) λV _ _=>?_;refine adv (P:=λ_=>True) (a3s (a7g (z 3))) λW _ _=>?_;refine adv (av1 (nb (v:=m) (i:=4) h)) λX _ U=>?_;refine aky (λ_=>akf nofun) λO=>?_;have M:=U (bhb O);obtain⟨r,H,I⟩:=adn (step:=(Y5 S220_5)) (λi=>((),(),((i:Nat):Int),m,ofM m)) (m.fld 1).asList.length (.inl (false,m,ofM m)) (.inr (m,ofM m)) (λi=>Bare ((m.fld 1).asList.getD i .bad) 8) (λi=>F327 ((m.fld 1).asList.getD i .bad) (ofF ((m.fld 1).asList.getD i .bad))) (λi o=>by
  simp only[Y5,S220_5,G,decL i _ o,Ad,aaa,Ah o,List.length_map,Ae,acz ofF o,aal i (by omega)]) (λi o=>a5h (by have:=adf (aam o);omega)) (by
  simp only[Y5,S220_5,decN,Af])
 have t:aad 0 ((Y5 S220_5)) ((),(),(0:Int),m,ofM m)=some r:=H;rw[t];rcases I with rfl|⟨rfl,J⟩
 ·exact akf nofun
 ·exact⟨true,rfl,λ_=>⟨M,aqm J⟩⟩
theorem bdu{m:PV}(h:aag m<=1048576):Ret (F221 m (ofE m)) λb=>b=true->awm m:=by
 have G:∀i,(m.fld i).asList.length<=1048576:=λi=>by have:=abr m i;omega
 have l1:=G 2;have H:((ofE m).fld 2).asList=(m.fld 2).asList.map ofI:=rfl;unfold F221;refine adv (P:=λ_=>True) (a3s (at0 (G 3))) λY _ _=>?_;refine adv (av1 (nb (v:=m) (i:=4) h)) λZ _ V=>?_;refine aky (λ_=>akf nofun) λU=>?_;have O:=V (bhb U);obtain⟨r,I,J⟩:=adn (step:=(Y5 S221_5)) (λi=>((),(),((i:Nat):Int),m,ofE m)) (m.fld 2).asList.length (.inl (false,m,ofE m)) (.inr (m,ofE m)) (λi=>Bare ((m.fld 2).asList.getD i .bad) 2) (λi=>F326 (((m.fld 2).asList.getD i .bad).fld 2).asList (aba (((m.fld 2).asList.getD i .bad).fld 2).asList)) (λi o=>by
  have q0:∀z:PV,((ofI z).fld 0).asStr=(z.fld 0).asStr:=λz=>rfl;have W:∀z:PV,((ofI z).fld 1).asInt=(z.fld 1).asInt:=λz=>rfl;have X:∀z:PV,((ofI z).fld 2).asList=aba (z.fld 2).asList:=λz=>rfl;simp only[Y5,S221_5,H,decL i _ o,Ad,aaa,Ah o,List.length_map,Ae,acz ofI o,q0,W,X,Az,bne_self_eq_false,An,Ao,aio,Af,aal i (by omega)]) (λi o=>nb (v:=(m.fld 2).asList.getD i .bad) (i:=2) (by have:=adf (aam o);omega)) (by
  simp only[Y5,S221_5,decN,Af])
 have t:aad 0 ((Y5 S221_5)) ((),(),(0:Int),m,ofE m)=some r:=I;rw[t];rcases J with rfl|⟨rfl,M⟩
 ·exact akf nofun
 ·exact⟨true,rfl,λ_=>⟨O,aqm M⟩⟩
theorem bf4{m:PV}(h:aag m<=1048576):Ret (F222 m (ofV m)) λb=>b=true->awo m:=by
 have U:∀i,(m.fld i).asList.length<=1048576:=λi=>by have:=abr m i;omega
 have l1:=U 1;have G:((ofV m).fld 1).asList=(m.fld 1).asList.map ofT:=rfl;unfold F222;refine adv (av1 (nb (v:=m) (i:=2) h)) λy3 _ V=>?_;refine aky (λ_=>akf nofun) λO=>?_;have M:=V (bhb O);obtain⟨r,H,I⟩:=adn (step:=(Y5 S222_5)) (λi=>((),(),((i:Nat):Int),m,ofV m)) (m.fld 1).asList.length (.inl (false,m,ofV m)) (.inr (m,ofV m)) (λi=>Bare ((m.fld 1).asList.getD i .bad) 4) (λi=>F326 (((m.fld 1).asList.getD i .bad).fld 4).asList (aba (((m.fld 1).asList.getD i .bad).fld 4).asList)) (λi o=>by
  have q0:∀z:PV,((ofT z).fld 0).asStr=(z.fld 0).asStr:=λz=>rfl;have W:∀z:PV,((ofT z).fld 1).asStr=(z.fld 1).asStr:=λz=>rfl;have X:∀z:PV,((ofT z).fld 2).asStr=(z.fld 2).asStr:=λz=>rfl;have Y:∀z:PV,((ofT z).fld 3).asInt=(z.fld 3).asInt:=λz=>rfl;have Z:∀z:PV,((ofT z).fld 4).asList=aba (z.fld 4).asList:=λz=>rfl;simp only[Y5,S222_5,G,decL i _ o,Ad,aaa,Ah o,List.length_map,Ae,acz ofT o,q0,W,X,Y,Z,Az,bne_self_eq_false,An,Ao,aio,Af,aal i (by omega)]) (λi o=>nb (v:=(m.fld 1).asList.getD i .bad) (i:=4) (by have:=adf (aam o);omega)) (by
  simp only[Y5,S222_5,decN,Af])
 have t:aad 0 ((Y5 S222_5)) ((),(),(0:Int),m,ofV m)=some r:=H;rw[t];rcases I with rfl|⟨rfl,J⟩
 ·exact akf nofun
 ·exact⟨true,rfl,λ_=>⟨M,aqm J⟩⟩
theorem bfi{s:PV}(h:aag s<=1048576):Ret (F103 s (ofS s)) λb=>b=true->a7k s:=by
 have o:∀i,(s.fld i).asList.length<=1048576:=λi=>by have:=abr s i;omega
 have t:∀i k,k<(s.fld i).asList.length->aag ((s.fld i).asList.getD k .bad)<=1048576:=λi k O=>by have:=adf (aam O);omega
 have l0:=o 0;have l1:=o 1;have l2:=o 2;have I:((ofS s).fld 0).asList=(s.fld 0).asList.map ofM:=rfl;have J:((ofS s).fld 1).asList=(s.fld 1).asList.map ofE:=rfl;have M:((ofS s).fld 2).asList=(s.fld 2).asList.map ofV:=rfl;obtain⟨r1,Y,q1⟩:=adn (step:=(Y5 S146_5)) (λi=>((),(),((i:Nat):Int),s,ofS s)) (s.fld 0).asList.length (.inl (false,s,ofS s)) (.inr ((),(),s,ofS s)) (λi=>awn ((s.fld 0).asList.getD i .bad)) (λi=>F220 ((s.fld 0).asList.getD i .bad) (ofM ((s.fld 0).asList.getD i .bad))) (λi m=>by
  simp only[Y5,S146_5,I,decL i _ m,Ad,aaa,Ah m,List.length_map,Ae,acz ofM m,aal i (by omega)]) (λi m=>bex (t 0 i m)) (by
  simp only[Y5,S146_5,decN,Af])
 obtain⟨r2,Z,q2⟩:=adn (step:=(Y5 S146_10)) (λi=>((),(),((i:Nat):Int),s,ofS s)) (s.fld 1).asList.length (.inl (false,s,ofS s)) (.inr ((),(),s,ofS s)) (λi=>awm ((s.fld 1).asList.getD i .bad)) (λi=>F221 ((s.fld 1).asList.getD i .bad) (ofE ((s.fld 1).asList.getD i .bad))) (λi m=>by
  simp only[Y5,S146_10,J,decL i _ m,Ad,aaa,Ah m,List.length_map,Ae,acz ofE m,aal i (by omega)]) (λi m=>bdu (t 1 i m)) (by
  simp only[Y5,S146_10,decN,Af])
 obtain⟨r3,p3,q3⟩:=adn (step:=(Y5 S146_15)) (λi=>((),(),((i:Nat):Int),s,ofS s)) (s.fld 2).asList.length (.inl (false,s,ofS s)) (.inr (s,ofS s)) (λi=>awo ((s.fld 2).asList.getD i .bad)) (λi=>F222 ((s.fld 2).asList.getD i .bad) (ofV ((s.fld 2).asList.getD i .bad))) (λi m=>by
  simp only[Y5,S146_15,M,decL i _ m,Ad,aaa,Ah m,List.length_map,Ae,acz ofV m,aal i (by omega)]) (λi m=>bf4 (t 2 i m)) (by
  simp only[Y5,S146_15,decN,Af])
 have z:aad 0 ((Y5 S146_5)) ((),(),(0:Int),s,ofS s)=some r1:=Y;have G:aad 0 ((Y5 S146_10)) ((),(),(0:Int),s,ofS s)=some r2:=Z;have H:aad 0 ((Y5 S146_15)) ((),(),(0:Int),s,ofS s)=some r3:=p3;unfold F103 F146;refine adv (P:=λb=>b=true->a7k s) (av0 (akf nofun) ?_) λy _ U=>⟨y,rfl,U⟩;rw[z,Aa];rcases q1 with rfl|⟨rfl,V⟩
 ·exact akf nofun
 ·rw[aa6];dsimp only;rw[G,Aa];rcases q2 with rfl|⟨rfl,W⟩
  ·exact akf nofun
  ·rw[aa6];dsimp only;rw[H,Aa];rcases q3 with rfl|⟨rfl,X⟩
   ·exact akf nofun
   ·exact⟨true,rfl,λ_=>⟨aqm V,aqm W,aqm X⟩⟩
end Go.Ab
