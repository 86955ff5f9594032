/- The specification's canonical form, its file and its text. -/
import Derived.Test.YticdffgjgfmicaaGreatDoorPCheckK
set_option linter.unusedVariables false
set_option linter.unusedSimpArgs false
set_option linter.unnecessarySimpa false
namespace Go.Ab
open Go
theorem a9r{z H t:Type}{step:z->Option (z⊕H)}(st:Nat->t->z)(n:Nat)(o:t->H)(Inv:Nat->t->Prop)(I:∀i acc,i<n->Inv i acc->∃m,step (st i acc)=some (.inl (st (i+1) m))/\Inv (i+1) m)(G:∀acc,Inv n acc->step (st n acc)=some (.inr (o acc))):
 ∀k i acc,i+k=n->Inv i acc->∃m,aan step (st i acc)=some (o m)/\Inv n m:=by
 intro k
 induction k with
 |zero=>grind[aae]
 |succ k J=>grind[aal]
set_option maxRecDepth 100000
def amp(n:PV):Bool:=!((n.fld 0).asStr==[100,111,99])&&!((n.fld 0).asStr==[111,119,110,101,114])
def abm(l:List PV):List PV:=l.filter amp
theorem av6(l:List PV):(abm l).length<=l.length:=List.length_filter_le _ _
theorem a6y{l:List PV}{x:PV}(h:x∈abm l):x∈l:=(List.mem_filter.1 h).1
theorem af3{l:List PV}(t:l.length<=1048576):F137 l=some (abm l):=by
 have h:aad 0 ((Y3 S137_4)) (l,[],(0:Int))=some (abm l):=aw7 (step:=(Y3 S137_4)) (λi c=>(l,c,((i:Nat):Int))) l amp (λc=>c) (by omega) (λi c m o=>by
  simp only[Y3,S137_4,decL i _ m,Ad,aaa,Ah m,Ae,aao i (by omega),ac7 o,awv,amp];cases((l.getD i .bad).fld 0).asStr==[100,111,99]<;>cases((l.getD i .bad).fld 0).asStr==[111,119,110,101,114]<;>simp) (λc=>by
  simp only[Y3,S137_4,decN,Af])
 unfold F137;rw[h];rfl
def ofF(f:PV):PV:=PV.agg [(PV.int (f.fld 0).asInt),(PV.str (f.fld 1).asStr),(PV.int (f.fld 2).asInt),(PV.int (f.fld 3).asInt),f.fld 4,(PV.str (f.fld 5).asStr),(PV.bool (f.fld 6).asBool),f.fld 7,(PV.slice (abm (f.fld 8).asList))]
def ofI(f:PV):PV:=PV.agg [(PV.str (f.fld 0).asStr),(PV.int (f.fld 1).asInt),(PV.slice (abm (f.fld 2).asList))]
def ofT(f:PV):PV:=PV.agg [(PV.str (f.fld 0).asStr),(PV.str (f.fld 1).asStr),(PV.str (f.fld 2).asStr),(PV.int (f.fld 3).asInt),(PV.slice (abm (f.fld 4).asList))]
def ofM(m:PV):PV:=PV.agg [(PV.str (m.fld 0).asStr),(PV.slice ((m.fld 1).asList.map ofF)),(PV.slice (m.fld 2).asList),(PV.slice (m.fld 3).asList),(PV.slice (abm (m.fld 4).asList))]
def ofE(m:PV):PV:=PV.agg [(PV.str (m.fld 0).asStr),(PV.bool (m.fld 1).asBool),(PV.slice ((m.fld 2).asList.map ofI)),(PV.slice (m.fld 3).asList),(PV.slice (abm (m.fld 4).asList))]
def ofV(m:PV):PV:=PV.agg [(PV.str (m.fld 0).asStr),(PV.slice ((m.fld 1).asList.map ofT)),(PV.slice (abm (m.fld 2).asList))]
def ofS(s:PV):PV:=PV.agg [(PV.slice ((s.fld 0).asList.map ofM)),(PV.slice ((s.fld 1).asList.map ofE)),(PV.slice ((s.fld 2).asList.map ofV))]
def zMsg:PV:=PV.agg [(PV.str ([]:Bn)),(PV.slice []),(PV.slice []),(PV.slice []),(PV.slice [])]
def zEnm:PV:=PV.agg [(PV.str ([]:Bn)),(PV.bool false),(PV.slice []),(PV.slice []),(PV.slice [])]
def zSvc:PV:=PV.agg [(PV.str ([]:Bn)),(PV.slice []),(PV.slice [])]
def zSch:PV:=PV.agg [(PV.slice []),(PV.slice []),(PV.slice [])]
def zFil:PV:=PV.agg [(PV.str ([]:Bn)),(PV.str ([]:Bn)),(PV.slice []),(PV.slice []),(PV.slice []),(PV.slice [])]
theorem bju{m:PV}(h:OkMsg m):F85 m=some (ofM m):=by
 have I:=h.fields;unfold F85;rw[af3 h.notes,Aa];generalize H:abm (m.fld 4).asList=y;have e:aad 0 ((Y11 S85_4)) ((),(),(),(0:Int),m,zMsg,((m.fld 0).asStr),[],((m.fld 2).asList),((m.fld 3).asList),y)=_:=abe (step:=(Y11 S85_4)) (λi c=>((),(),(),((i:Nat):Int),m,zMsg,((m.fld 0).asStr),c,((m.fld 2).asList),((m.fld 3).asList),y)) (m.fld 1).asList ofF
  (λc=>((),(),m,zMsg,((m.fld 0).asStr),c,((m.fld 2).asList),((m.fld 3).asList),y)) (by omega) (λi c o z=>by
  have G:=(h.field _ (aaw o)).notes
  simp only[Y11,S85_4,decL i _ o,Ad,aaa,Ah o,Ae,af3 G,Aa,aao i (by omega),ac7 z]
  rfl) (λc=>by
  simp only[Y11,S85_4,decN,Af])
 have t:aad 0 ((Y11 S85_4)) ((),(),(),(0:Int),m,PV.agg [(PV.str ([]:Bn)),(PV.slice []),(PV.slice []),(PV.slice []),(PV.slice [])],((m.fld 0).asStr),[],((m.fld 2).asList),((m.fld 3).asList),y)=_:=e;rw[t,Aa];unfold ofM;rw[H]
theorem bjr{m:PV}(h:OkEnum m):F86 m=some (ofE m):=by
 have I:=h.items;unfold F86;rw[af3 h.notes,Aa];generalize H:abm (m.fld 4).asList=y;have e:aad 0 ((Y11 S86_4)) ((),(),(),(0:Int),m,zEnm,((m.fld 0).asStr),((m.fld 1).asBool),[],((m.fld 3).asList),y)=_:=abe (step:=(Y11 S86_4)) (λi c=>((),(),(),((i:Nat):Int),m,zEnm,((m.fld 0).asStr),((m.fld 1).asBool),c,((m.fld 3).asList),y)) (m.fld 2).asList ofI
  (λc=>((),(),m,zEnm,((m.fld 0).asStr),((m.fld 1).asBool),c,((m.fld 3).asList),y)) (by omega) (λi c o z=>by
  have G:=(h.item _ (aaw o)).notes
  simp only[Y11,S86_4,decL i _ o,Ad,aaa,Ah o,Ae,af3 G,Aa,aao i (by omega),ac7 z]
  rfl) (λc=>by
  simp only[Y11,S86_4,decN,Af])
 have t:aad 0 ((Y11 S86_4)) ((),(),(),(0:Int),m,PV.agg [(PV.str ([]:Bn)),(PV.bool false),(PV.slice []),(PV.slice []),(PV.slice [])],((m.fld 0).asStr),((m.fld 1).asBool),[],((m.fld 3).asList),y)=_:=e;rw[t,Aa];unfold ofE;rw[H]
theorem bjv{m:PV}(h:OkSvc m):F87 m=some (ofV m):=by
 have I:=h.meths;unfold F87;rw[af3 h.notes,Aa];generalize H:abm (m.fld 2).asList=y;have e:aad 0 ((Y9 S87_4)) ((),(),(),(0:Int),m,zSvc,((m.fld 0).asStr),[],y)=_:=abe (step:=(Y9 S87_4)) (λi c=>((),(),(),((i:Nat):Int),m,zSvc,((m.fld 0).asStr),c,y)) (m.fld 1).asList ofT
  (λc=>((),(),m,zSvc,((m.fld 0).asStr),c,y)) (by omega) (λi c o z=>by
  have G:=(h.meth _ (aaw o)).notes
  simp only[Y9,S87_4,decL i _ o,Ad,aaa,Ah o,Ae,af3 G,Aa,aao i (by omega),ac7 z]
  rfl) (λc=>by
  simp only[Y9,S87_4,decN,Af])
 have t:aad 0 ((Y9 S87_4)) ((),(),(),(0:Int),m,PV.agg [(PV.str ([]:Bn)),(PV.slice []),(PV.slice [])],((m.fld 0).asStr),[],y)=_:=e;rw[t,Aa];unfold ofV;rw[H]
theorem bf2{s:PV}{b:Bool}(h:SOk s)(U:F55 s=some b):F57 s=some (bif b then ofS s else s):=by
 have V:=h.len.m;have W:=h.len.e;have X:=h.len.v;unfold F57;rw[U,Aa];cases b with
 |false=>rfl
 |true=>
  have I:=h.msg;have J:=h.enum;have O:=h.svc;unfold ofS;have z:aad 0 ((Y9 S57_6)) ((),(),(),(0:Int),s,zSch,[],[],[])=_:=abe (step:=(Y9 S57_6)) (λi c=>((),(),(),((i:Nat):Int),s,zSch,c,[],[])) (s.fld 0).asList ofM (λc=>((),(),(),s,zSch,c,[],[])) (by omega) (λi c o t=>by
   simp only[Y9,S57_6,decL i _ o,Ad,aaa,Ah o,Ae,bju (I _ (aaw o)),Aa,aao i (by omega),ac7 t]) (λc=>by
   simp only[Y9,S57_6,decN,Af])
  have G:∀M:List PV,aad 0 ((Y9 S57_10)) ((),(),(),(0:Int),s,zSch,M,[],[])=some ((),(),(),s,zSch,M,(s.fld 1).asList.map ofE,[]):=λM=>abe (step:=(Y9 S57_10)) (λi c=>((),(),(),((i:Nat):Int),s,zSch,M,c,[])) (s.fld 1).asList ofE (λc=>((),(),(),s,zSch,M,c,[])) (by omega) (λi c o t=>by
   simp only[Y9,S57_10,decL i _ o,Ad,aaa,Ah o,Ae,bjr (J _ (aaw o)),Aa,aao i (by omega),ac7 t]) (λc=>by
   simp only[Y9,S57_10,decN,Af])
  have H:∀M E:List PV,aad 0 ((Y9 S57_14)) ((),(),(),(0:Int),s,zSch,M,E,[])=some ((),(),s,zSch,M,E,(s.fld 2).asList.map ofV):=λM E=>abe (step:=(Y9 S57_14)) (λi c=>((),(),(),((i:Nat):Int),s,zSch,M,E,c)) (s.fld 2).asList ofV (λc=>((),(),s,zSch,M,E,c)) (by omega) (λi c o t=>by
   simp only[Y9,S57_14,decL i _ o,Ad,aaa,Ah o,Ae,bjv (O _ (aaw o)),Aa,aao i (by omega),ac7 t]) (λc=>by
   simp only[Y9,S57_14,decN,Af])
  simp only[An,Af,Ad];rw[show(PV.agg [(PV.slice []),(PV.slice []),(PV.slice [])])=zSch from rfl,z,Aa];dsimp only;rw[G,Aa];dsimp only;rw[H,Aa]
def a8z(n:Int)(x:PV):Bool:=IntKind.wrap .u64 (x.fld 1).asInt==n
def aki(nm:Bn)(n:Int)(e:PV):Option PV:=bif (e.fld 0).asStr==nm then(e.fld 2).asList.findSome? (λx=>bif a8z n x then some x else none)else none
def auf(es:List PV)(nm:Bn)(n:Int):Bn:=(es.findSome? (aki nm n)).elim [] λx=>(x.fld 0).asStr
theorem bdo{s:PV}{nm:Bn}{n:Int}(M:(s.fld 1).asList.length<=1048576)(H:∀e,e∈(s.fld 1).asList->(e.fld 2).asList.length<=1048576):F140 s nm n=some (auf (s.fld 1).asList nm n):=by
 have G:aad 0 ((Y5 S140_3)) (nm,n,(),(0:Int),s)=some (((s.fld 1).asList.findSome? (aki nm n)).elim (.inr s) λx=>.inl ((x.fld 0).asStr,s)):=by
  have h:=ae9 (step:=(Y5 S140_3)) (λi=>(nm,n,(),((i:Nat):Int),s)) (s.fld 1).asList (aki nm n) (λx=>.inl ((x.fld 0).asStr,s)) (.inr s) (λi m=>by
   have J:=aaw m;have I:=H _ J;have q:aad 0 ((Y6 S140_6)) (nm,n,(),((i:Nat):Int),(0:Int),s)=some ((aki nm n ((s.fld 1).asList.getD i .bad)).elim (.inr (nm,n,(),((i:Nat):Int),s)) λx=>.inl ((x.fld 0).asStr,s)):=by
    unfold aki;cases o:(((s.fld 1).asList.getD i .bad).fld 0).asStr==nm with
    |false=>refine aae ?_;simp only[Y6,S140_6,aaa,Ah m,Ad,Ae,o,a8q,Af];rfl
    |true=>
     have t:=ae9 (step:=(Y6 S140_6)) (λk=>(nm,n,(),((i:Nat):Int),((k:Nat):Int),s)) ((((s.fld 1).asList.getD i .bad).fld 2).asList) (λx=>bif a8z n x then some x else none) (λx=>.inl ((x.fld 0).asStr,s)) (.inr (nm,n,(),((i:Nat):Int),s)) (λk z=>by
      simp only[Y6,S140_6,aaa,Ah m,Ad,Ae,o,ann,decL k _ z,Ah z,aao k (by omega),a8z];cases IntKind.wrap .u64 (((((s.fld 1).asList.getD i .bad).fld 2).asList.getD k .bad).fld 1).asInt==n<;>rfl) (by
      simp only[Y6,S140_6,aaa,Ah m,Ad,Ae,o,ann,decN,Af]) _ 0 (Nat.zero_add _)
     rw[Ar]at t;exact t
   simp only[Y5,S140_3,decL i _ m,Ad];rw[q,Aa];cases aki nm n ((s.fld 1).asList.getD i .bad)with
   |some x=>rfl
   |none=>simp only[Option.elim,abg,aao i (show i<=1000000000000 by omega)]) (by
   simp only[Y5,S140_3,decN,Af]) _ 0 (Nat.zero_add _)
  rw[Ar]at h;exact h
 unfold F140 auf;rw[G,Aa];cases(s.fld 1).asList.findSome? (aki nm n)<;>rfl
theorem a8y{es:List PV}{nm:Bn}{n:Int}(h:∀e,e∈es->∀x,x∈(e.fld 2).asList->(x.fld 0).asStr.length<=1048576):(auf es nm n).length<=1048576:=by
 unfold auf;cases t:es.findSome? (aki nm n)with
 |none=>simp
 |some x=>
  obtain⟨e,G,m⟩:=List.exists_of_findSome?_eq_some t;unfold aki at m;cases o:(e.fld 0).asStr==nm with
  |false=>grind
  |true=>rw[o,Ad]at m;obtain⟨y,H,z⟩:=List.exists_of_findSome?_eq_some m;grind
def fk9(f:PV):Bool:=((f.fld 4).fld 0).asInt==(9:Int)
def fk10(f:PV):Bool:=((f.fld 4).fld 0).asInt==(10:Int)
def bc4(es:List PV)(f:PV):PV:=PV.agg [(PV.int (9:Int)),(PV.int (0:Int)),(PV.str (auf es ((f.fld 4).fld 1).asStr ((f.fld 7).fld 1).asInt)),(PV.slice []),(PV.slice []),(PV.slice []),(PV.slice [])]
def bc7(f:PV):PV:=PV.agg [(PV.int (0:Int)),(PV.str (([46]:Bn)++((f.fld 4).fld 1).asStr))]
def apg(es:List PV)(f:PV):PV:=
 bif (bif fk9 f then(f.fld 6).asBool else false)||(bif fk9 f then true else fk10 f)then
  PV.agg [(PV.int (f.fld 0).asInt),(PV.str (f.fld 1).asStr),(PV.int (f.fld 2).asInt),(PV.int (f.fld 3).asInt),(bif (bif fk9 f then true else fk10 f)then bc7 f else f.fld 4),(PV.str (f.fld 5).asStr),(PV.bool (f.fld 6).asBool),(bif (bif fk9 f then(f.fld 6).asBool else false)then bc4 es f else f.fld 7),(PV.slice (f.fld 8).asList)]
 else f
def awp(f:PV):PV:=PV.agg [(PV.str (f.fld 0).asStr),(PV.str (([46]:Bn)++(f.fld 1).asStr)),(PV.str (([46]:Bn)++(f.fld 2).asStr)),(PV.int (f.fld 3).asInt),(PV.slice (f.fld 4).asList)]
def a8b(es:List PV)(m:PV):PV:=PV.agg [(PV.str (m.fld 0).asStr),(PV.slice ((m.fld 1).asList.map (apg es))),(PV.slice (m.fld 2).asList),(PV.slice (m.fld 3).asList),(PV.slice (m.fld 4).asList)]
def azb(m:PV):PV:=PV.agg [(PV.str (m.fld 0).asStr),(PV.slice ((m.fld 1).asList.map awp)),(PV.slice (m.fld 2).asList)]
def apf(s:PV):PV:=PV.agg [(PV.str ([]:Bn)),(PV.str ([]:Bn)),(PV.slice []),(PV.slice ((s.fld 0).asList.map (a8b (s.fld 1).asList))),(PV.slice (s.fld 1).asList),(PV.slice ((s.fld 2).asList.map azb))]
theorem bgq{α:Type}{a:Bn}{X:Option α}(h:a.length<=100000000):(bif decide (([46]:Bn).length+a.length<=aac)then X else none)=X:=by grind[decide_eq_true,aac]
theorem a3z{s z:PV}{H I M:Bn}{J o t G O U V:List PV}{m:PV}{j:Int}(Z:SOk s)(Y:OkMsg m):
 aad 0 ((Y8 S89_9)) ((),(),(),j,(),(),(0:Int),s,z,H,I,J,o,t,G,m,M,[],O,U,V)=some ((),(),(),j,(),s,z,H,I,J,o,t,G,m,M,(m.fld 1).asList.map (apg (s.fld 1).asList),O,U,V):=
 abe (step:=(Y8 S89_9)) (λi c=>((),(),(),j,(),(),((i:Nat):Int),s,z,H,I,J,o,t,G,m,M,c,O,U,V)) (m.fld 1).asList (apg (s.fld 1).asList) (λc=>((),(),(),j,(),s,z,H,I,J,o,t,G,m,M,c,O,U,V)) (by have:=Y.fields;omega) (λi c W hc=>by
  have hl:=Y.fields;have ho:=Y.field _ (aaw W);have ht:=ho.type;have X:F140 s ((((m.fld 1).asList.getD i .bad).fld 4).fld 1).asStr ((((m.fld 1).asList.getD i .bad).fld 7).fld 1).asInt=_:=bdo Z.len.e (λe he=>(Z.enum e he).items);simp only[Y8,S89_9,decL i _ W,Ad,aaa,Ah W,Ae,X,Aa,aao i (by omega),ac7 hc,bgq (show((((m.fld 1).asList.getD i .bad).fld 4).fld 1).asStr.length<=100000000 by omega),apg,fk9,fk10,bc4,bc7];cases(((((m.fld 1).asList.getD i .bad).fld 4).fld 0).asInt==(9:Int))<;>cases(((((m.fld 1).asList.getD i .bad).fld 4).fld 0).asInt==(10:Int))<;>cases(((m.fld 1).asList.getD i .bad).fld 6).asBool<;>rfl) (λc=>by
  simp only[Y8,S89_9,decN,Af])
theorem a4a{s z:PV}{H I M:Bn}{J o t G O:List PV}{m:PV}{j:Int}(V:OkSvc m):
 aad 0 ((Y8 S89_24)) ((),(),(),j,(),(),(0:Int),s,z,H,I,J,o,t,G,m,M,[],O)=some ((),(),(),j,(),s,z,H,I,J,o,t,G,m,M,(m.fld 1).asList.map awp,O):=
 abe (step:=(Y8 S89_24)) (λi c=>((),(),(),j,(),(),((i:Nat):Int),s,z,H,I,J,o,t,G,m,M,c,O)) (m.fld 1).asList awp (λc=>((),(),(),j,(),s,z,H,I,J,o,t,G,m,M,c,O)) (by have:=V.meths;omega) (λi c U X=>by
  have hl:=V.meths;have W:=V.meth _ (aaw U);have Y:=W.inn;have Z:=W.out;simp only[Y8,S89_24,decL i _ U,Ad,aaa,Ah U,Ae,aao i (by omega),ac7 X,bgq (show(((m.fld 1).asList.getD i .bad).fld 1).asStr.length<=100000000 by omega),bgq (show(((m.fld 1).asList.getD i .bad).fld 2).asStr.length<=100000000 by omega),awp]) (λc=>by
  simp only[Y8,S89_24,decN,Af])
theorem bc3{s:PV}(h:SOk s):F89 s=some (apf s):=by
 have I:=h.len.m;have J:=h.len.e;have O:=h.len.v;have G:aad 0 ((Y5 S89_4)) ((),(),(),(0:Int),s,zFil,([]:Bn),([]:Bn),[],[],((s.fld 1).asList),[])=_:=abe (step:=(Y5 S89_4)) (λi c=>((),(),(),((i:Nat):Int),s,zFil,([]:Bn),([]:Bn),[],c,((s.fld 1).asList),[])) (s.fld 0).asList (a8b (s.fld 1).asList) (λc=>((),(),(),s,zFil,([]:Bn),([]:Bn),[],c,((s.fld 1).asList),[])) (by omega) (λi c o t=>by
  have z:=h.msg _ (aaw o);simp only[Y5,S89_4,decL i _ o,Ad,aaa,Ah o,Ae,a3z h z,Aa,aao i (by omega),ac7 t,a8b]) (λc=>by
  simp only[Y5,S89_4,decN,Af])
 have H:∀M:List PV,aad 0 ((Y5 S89_19)) ((),(),(),(0:Int),s,zFil,([]:Bn),([]:Bn),[],M,((s.fld 1).asList),[])=some ((),(),s,zFil,([]:Bn),([]:Bn),[],M,((s.fld 1).asList),(s.fld 2).asList.map azb):=λM=>abe (step:=(Y5 S89_19)) (λi c=>((),(),(),((i:Nat):Int),s,zFil,([]:Bn),([]:Bn),[],M,((s.fld 1).asList),c)) (s.fld 2).asList azb (λc=>((),(),s,zFil,([]:Bn),([]:Bn),[],M,((s.fld 1).asList),c)) (by omega) (λi c o t=>by
  have z:=h.svc _ (aaw o);simp only[Y5,S89_19,decL i _ o,Ad,aaa,Ah o,Ae,a4a z,Aa,aao i (by omega),ac7 t,azb]) (λc=>by
  simp only[Y5,S89_19,decN,Af])
 unfold F89 apf;rw[show(PV.agg [(PV.str ([]:Bn)),(PV.str ([]:Bn)),(PV.slice []),(PV.slice []),(PV.slice []),(PV.slice [])])=zFil from rfl,G,Aa];dsimp only;rw[H,Aa]
theorem lmem{l:List PV}{g:PV->PV}{x:PV}(h:x∈l.map g):∃y,y∈l/\x=g y:=by grind
theorem adh{l:List PV}(h:l.length<=1048576)(o:∀n,n∈l->ab1 n):(abm l).length<=1048576/\∀n,n∈abm l->ab1 n:=⟨Nat.le_trans (av6 l) h,λn m=>o n (a6y m)⟩
theorem bf0{f:PV}(h:OkFld f):OkFld (ofF f):=⟨h.name,h.type,h.union,h.dflt,(adh h.notes h.note).1,(adh h.notes h.note).2⟩
theorem bjt{f:PV}(h:OkItem f):OkItem (ofI f):=⟨h.name,(adh h.notes h.note).1,(adh h.notes h.note).2⟩
theorem bf3{f:PV}(h:OkMeth f):OkMeth (ofT f):=⟨h.name,h.inn,h.out,(adh h.notes h.note).1,(adh h.notes h.note).2⟩
theorem ajx{l:List PV}{g:PV->PV}{n:Nat}(h:l.length<=n):(l.map g).length<=n:=by grind
theorem bf1{m:PV}(h:OkMsg m):OkMsg (ofM m):=⟨h.name,ajx h.fields,λx o=>by obtain⟨y,t,rfl⟩:=lmem o;exact bf0 (h.field y t),h.spans,h.gone,h.goneS,(adh h.notes h.note).1,(adh h.notes h.note).2⟩
theorem bjs{m:PV}(h:OkEnum m):OkEnum (ofE m):=⟨h.name,ajx h.items,λx o=>by obtain⟨y,t,rfl⟩:=lmem o;exact bjt (h.item y t),h.spans,(adh h.notes h.note).1,(adh h.notes h.note).2⟩
theorem bf4{m:PV}(h:OkSvc m):OkSvc (ofV m):=⟨h.name,ajx h.meths,λx o=>by obtain⟨y,t,rfl⟩:=lmem o;exact bf3 (h.meth y t),(adh h.notes h.note).1,(adh h.notes h.note).2⟩
theorem bab{s:PV}(h:SOk s):SOk (ofS s):=⟨⟨ajx h.len.m,ajx h.len.e,ajx h.len.v⟩,λx o=>by
 obtain⟨y,t,rfl⟩:=lmem o;exact bf1 (h.msg y t),λx o=>by
 obtain⟨y,t,rfl⟩:=lmem o;exact bjs (h.enum y t),λx o=>by
 obtain⟨y,t,rfl⟩:=lmem o;exact bf4 (h.svc y t)⟩
theorem bdy{v x:PV}(h:x∈v.asList):aah x+1<=aah v:=by
 cases v with
 |slice l=>have:=ag3 (show x∈l from h);grind[aah]
 |_=>cases h
theorem afe{v x:PV}{i:Nat}(h:x∈(v.fld i).asList):aah x+1<=aah v:=Nat.le_trans (bdy h) (acf v i)
theorem a0p(v:PV)(i:Nat):(v.fld i).asStr.length+1<=aah v:=Nat.le_trans (att _) (acf v i)
theorem bee{i:Nat}:∀l:List PV,abr l i<=abq l:=by
 intro l;induction l with
 |nil=>exact Nat.le_refl _
 |cons m r G=>have o:=ae4 (m.fld i);have t:=acf m i;have z:abr (m::r) i=(m.fld i).asList.length+1+abr r i:=rfl;grind[abq]
theorem ail{i j:Nat}{g:PV->PV}(z:∀m,((g m).fld i).asList.length=(m.fld j).asList.length):∀l:List PV,abr (l.map g) i=abr l j:=by
 intro l;induction l with
 |nil=>rfl
 |cons m r G=>have o:abr ((m::r).map g) i=((g m).fld i).asList.length+1+abr (r.map g) i:=rfl;have t:abr (m::r) j=(m.fld j).asList.length+1+abr r j:=rfl;grind
theorem bc5{es:List PV}{f:PV}(h:OkFld f)(o:((f.fld 4).fld 1).asStr.length+1<=1048576)(m:∀n b,(auf es n b).length<=1048576):OkFld (apg es f):=by
 unfold apg;cases(bif fk9 f then(f.fld 6).asBool else false)||(bif fk9 f then true else fk10 f)with
 |false=>exact h
 |true=>
  refine⟨h.name,?_,h.union,?_,h.notes,h.note⟩
  ·show((bif (bif fk9 f then true else fk10 f)then bc7 f else f.fld 4).fld 1).asStr.length<=1048576;cases(bif fk9 f then true else fk10 f)with
   |true=>show(([46]:Bn)++((f.fld 4).fld 1).asStr).length<=1048576;grind
   |false=>exact h.type
  ·show acn (bif (bif fk9 f then(f.fld 6).asBool else false)then bc4 es f else f.fld 7);cases(bif fk9 f then(f.fld 6).asBool else false)with
   |true=>exact⟨show(0:Nat)<=1048576 by omega,m _ _,show(0:Int)<=0 by omega,show(0:Int)<18446744073709551616 by omega⟩
   |false=>exact h.dflt
theorem bc6{f:PV}(h:OkMeth f)(m:(f.fld 1).asStr.length+1<=1048576)(o:(f.fld 2).asStr.length+1<=1048576):OkMeth (awp f):=by
 refine⟨h.name,?_,?_,h.notes,h.note⟩
 ·show(([46]:Bn)++(f.fld 1).asStr).length<=1048576;grind
 ·show(([46]:Bn)++(f.fld 2).asStr).length<=1048576;grind
theorem awq{s:PV}(h:SOk s)(hb:aah s<=1048576):OkFile (apf (ofS s)):=by
 have I:=bab h;have M:∀n b,(auf ((ofS s).fld 1).asList n b).length<=1048576:=λn b=>a8y λe Z x G=>((I.enum e Z).item x G).name;refine⟨show(0:Nat)<=1048576 by omega,show(0:Nat)<=1048576 by omega,λx G=>absurd G (by show ¬x∈([]:List PV);simp),?_,λx G=>?_,I.len.e,I.enum,?_,λx G=>?_,?_⟩
 ·exact ajx I.len.m
 ·obtain⟨y,O,rfl⟩:=lmem G;obtain⟨m,t,rfl⟩:=lmem O;have o:=bf1 (h.msg m t);refine⟨o.name,ajx o.fields,λz U=>?_,o.spans,o.gone,o.goneS,o.notes,o.note⟩;obtain⟨f,J,rfl⟩:=lmem U;obtain⟨g,H,rfl⟩:=lmem J;refine bc5 (bf0 ((h.msg m t).field g H)) ?_ M;have V:=afe t;have W:=afe H;have X:=acf g 4;have Y:=a0p (g.fld 4) 1;show((g.fld 4).fld 1).asStr.length+1<=1048576;omega
 ·exact ajx I.len.v
 ·obtain⟨y,O,rfl⟩:=lmem G;obtain⟨m,t,rfl⟩:=lmem O;have o:=bf4 (h.svc m t);refine⟨o.name,ajx o.meths,λz U=>?_,o.notes,o.note⟩;obtain⟨f,J,rfl⟩:=lmem U;obtain⟨g,H,rfl⟩:=lmem J;have V:=afe t;have W:=afe H;have X:=a0p g 1;have Y:=a0p g 2;refine bc6 (bf3 ((h.svc m t).meth g H)) ?_ ?_
  ·show(g.fld 1).asStr.length+1<=1048576;omega
  ·show(g.fld 2).asStr.length+1<=1048576;omega
 ·have e1:abr ((apf (ofS s)).fld 3).asList 1=abr (s.fld 0).asList 1:=by
   show abr (((s.fld 0).asList.map ofM).map (a8b ((ofS s).fld 1).asList)) 1=_;rw[ail (j:=1) (λm=>by show((m.fld 1).asList.map (apg ((ofS s).fld 1).asList)).length=_;grind),ail (j:=1) (λm=>by show((m.fld 1).asList.map ofF).length=_;grind)]
  have e2:abr ((apf (ofS s)).fld 4).asList 2=abr (s.fld 1).asList 2:=by show abr ((s.fld 1).asList.map ofE) 2=_;rw[ail (j:=2) (λm=>by show((m.fld 2).asList.map ofI).length=_;grind)]
  have e3:abr ((apf (ofS s)).fld 5).asList 1=abr (s.fld 2).asList 1:=by show abr (((s.fld 2).asList.map ofV).map azb) 1=_;rw[ail (j:=1) (λm=>by show((m.fld 1).asList.map awp).length=_;grind),ail (j:=1) (λm=>by show((m.fld 1).asList.map ofT).length=_;grind)]
  grind[abq,amj,acf,p0,bee,q0]
noncomputable def canT(s:PV):Bn:=bif chkF (apf (ofS s)) != 0 then[]else an5 (apf (ofS s))
theorem bcm{f:PV}(h:chkF f=0):(an5 f).length<=16384:=by unfold chkF at h;grind
theorem a1a(s:PV):(canT s).length<=16384:=by grind[canT,chkF,apf,ofS,bcm]
theorem af6{s:PV}{b:Bool}(h:SOk s)(o:aah s<=1048576)(m:F55 s=some b):F58 s=some (bif b then canT s else[]):=by
 unfold F58;rw[m,Aa];cases b with
 |false=>rfl
 |true=>simp only[An,Af];rw[bf2 h m,Aa,Ad,bc3 (bab h),Aa,a0e _ (awq h o),Aa];rfl
theorem bgy{t:Bn}(h:t.length<=1000000):Ret (F82 t) λ_=>True:=by
 obtain⟨r,z,_⟩:=a9r (step:=(Y3 S82_4)) (λi(a:Int)=>(t,a,((i:Nat):Int))) t.length (λa=>a) (λ_ _=>True) (λi a o _=>by
  simp only[Y3,S82_4,decL i _ o,Ad,aaa,Ah o,Ae,aao i (by omega)];exact⟨_,rfl,trivial⟩) (λa _=>by
  simp only[Y3,S82_4,decN,Af]) t.length 0 (14695981039346656037:Int) (Nat.zero_add _) trivial
 have m:aad 0 ((Y3 S82_4)) (t,(14695981039346656037:Int),(0:Int))=some r:=z;unfold F82;rw[m];exact⟨_,rfl,trivial⟩
theorem baj{s:PV}(h:SOk s)(m:aah s<=1048576):Ret (F54 s) λ_=>True:=by
 obtain⟨b,o⟩:=amb h m;unfold F54;rw[af6 h m o,Aa];refine adq (bgy ?_) λy _ _=>aep _;cases b with
 |false=>simp
 |true=>have:=a1a s;simp only[Ad];omega
end Go.Ab
namespace Go.Ab
open Go
set_option maxRecDepth 100000
theorem bhr{o:(PV×PV)->Option Bool}{v:PV}(W:aah v<=1048576)(h:∀x,aah x<aah v->o (x,x)=some true):B312 o v v=some true:=by
 have z:∀i,(v.fld i).asList.length<=1048576:=λi=>by have:=acs v i;omega
 have O:∀i k,k<(v.fld i).asList.length->aah ((v.fld i).asList.getD k .bad)<aah v:=λi k J=>by have:=afe (aaw J);omega
 have t:∀i k j,k<(v.fld i).asList.length->aah (((v.fld i).asList.getD k .bad).fld j)<aah v:=λi k j J=>by have U:=afe (aaw J);have V:=acf ((v.fld i).asList.getD k .bad) j;omega
 have X:=z 3;have Y:=z 4;have Z:=z 5;have l6:=z 6;have M:aad 0 (B312_5step o) ((),(),(0:Int),v,v)=some (.inr ((),(),v,v)):=ack (step:=B312_5step o) (λi=>((),(),((i:Nat):Int),v,v)) (v.fld 3).asList.length _ (λi m=>by
  simp only[B312_5step,B312_5,decL i _ m,Ad,aaa,Ah m,Ae,h _ (O 3 i m),Aa,An,Af,aao i (by omega)]) (by
  simp only[B312_5step,B312_5,decN,Af])
 have G:aad 0 (B312_10step o) ((),(),(0:Int),v,v)=some (.inr ((),(),v,v)):=ack (step:=B312_10step o) (λi=>((),(),((i:Nat):Int),v,v)) (v.fld 4).asList.length _ (λi m=>by
  simp only[B312_10step,B312_10,decL i _ m,Ad,aaa,Ah m,Ae,h _ (t 4 i 0 m),h _ (t 4 i 1 m),Aa,An,Aq,ann,Af,aao i (by omega)]) (by
  simp only[B312_10step,B312_10,decN,Af])
 have H:aad 0 (B312_15step o) ((),(),(0:Int),v,v)=some (.inr ((),(),v,v)):=ack (step:=B312_15step o) (λi=>((),(),((i:Nat):Int),v,v)) (v.fld 5).asList.length _ (λi m=>by
  simp only[B312_15step,B312_15,decL i _ m,Ad,aaa,Ah m,Ae,bne_self_eq_false,h _ (t 5 i 1 m),Aa,An,Aq,ann,Af,aao i (by omega)]) (by
  simp only[B312_15step,B312_15,decN,Af])
 have I:aad 0 (B312_20step o) ((),(),(0:Int),v,v)=some (.inr (v,v)):=ack (step:=B312_20step o) (λi=>((),(),((i:Nat):Int),v,v)) (v.fld 6).asList.length _ (λi m=>by
  simp only[B312_20step,B312_20,decL i _ m,Ad,aaa,Ah m,Ae,A1,An,Af,aao i (by omega)]) (by
  simp only[B312_20step,B312_20,decN,Af])
 unfold B312;simp only[bne_self_eq_false,A1,An,Af];rw[M,Aa,abg];dsimp only;rw[G,Aa,abg];dsimp only;rw[H,Aa,abg];dsimp only;rw[I,Aa,abg]
theorem a2u{v:PV}(z:aah v<=1048576):F312 v v=some true:=by
 have m:∀n v,aah v<=n->aah v<=1048576->∀d,n<=d->G312 d (v,v)=some true:=by
  intro n;induction n with
  |zero=>intro v h;have:=aev v;omega
  |succ n H=>
   intro v h G d o;obtain⟨e,rfl⟩:∃e,d=e+1:=⟨d-1,by omega⟩;exact bhr G λx t=>by have t:aah x<aah v:=t;exact H x (by omega) (by omega) e (by omega)
 unfold F312;exact a4q (aah v) λd o=>m _ v (Nat.le_refl _) z d o
theorem a5c{l:List PV}(z:l.length<=1048576)(h:∀x,x∈l->aah x<=1048576):F222 l l=some true:=by
 have e:aad 0 ((Y3 S222_5)) (l,l,(0:Int))=some (.inr ()):=ack (step:=(Y3 S222_5)) (λi=>(l,l,((i:Nat):Int))) l.length _ (λi m=>by
  have o:=h _ (aaw m);have t:=acf (l.getD i .bad) 1;simp only[Y3,S222_5,decL i _ m,Ad,aaa,Ah m,Ae,A1,a2u (show aah ((l.getD i .bad).fld 1)<=1048576 by omega),Aa,An,Aq,ann,Af,aao i (by omega)]) (by
  simp only[Y3,S222_5,decN,Af])
 unfold F222;simp only[bne_self_eq_false,Af];rw[e];rfl
abbrev Bare(v:PV)(i:Nat):Prop:=abm (v.fld i).asList=(v.fld i).asList
theorem a5b{l:List PV}(o:l.length<=1048576)(h:∀x,x∈l->aah x<=1048576):Ret (F222 l (abm l)) λb=>b=true->abm l=l:=by
 by_cases m:(abm l).length=l.length
 ·have e:abm l=l:=List.filter_eq_self.2 (List.length_filter_eq_length_iff.1 m);rw[e,a5c o h];exact⟨true,rfl,λ_=>rfl⟩
 ·unfold F222;have:((l.length:Int) != ((abm l).length:Int))=true:=bneI (by omega);rw[this];exact⟨false,rfl,nofun⟩
theorem as6{a b:List PV}(H:a.length<=1048576):Ret (F220 a b) λ_=>True:=by
 unfold F220;by_cases m:a.length=b.length
 ·obtain⟨r,z,G⟩:=ajb (step:=(Y3 S220_5)) (λi=>(a,b,((i:Nat):Int))) a.length (λ_=>.inl false) (.inr ()) (λi t=>by
   simp only[Y3,S220_5,decL i _ t,Ad,aaa,Ah t,Ah (show i<b.length by omega),Ae,awv,aao i (by omega)];cases((a.getD i .bad).fld 0).asInt != ((b.getD i .bad).fld 0).asInt<;>cases((a.getD i .bad).fld 1).asInt != ((b.getD i .bad).fld 1).asInt
   ·exact Or.inl rfl
   ·exact Or.inr rfl
   ·exact Or.inr rfl
   ·exact Or.inr rfl) (by
   simp only[Y3,S220_5,decN,Af]) a.length 0 (Nat.zero_add _)
  have o:aad 0 ((Y3 S220_5)) (a,b,(0:Int))=some r:=z;rw[show((a.length:Int) != (b.length:Int))=false by rw[m];simp,Af,o];rcases G with rfl|⟨j,_,rfl⟩<;>exact aep _
 ·rw[show((a.length:Int) != (b.length:Int))=true from bneI (by omega)];exact aep _
theorem a6a{a b:List PV}(H:a.length<=1048576):Ret (F221 a b) λ_=>True:=by
 unfold F221;by_cases m:a.length=b.length
 ·obtain⟨r,z,G⟩:=ajb (step:=(Y3 S221_5)) (λi=>(a,b,((i:Nat):Int))) a.length (λ_=>.inl false) (.inr ()) (λi t=>by
   simp only[Y3,S221_5,decL i _ t,Ad,aaa,Ah t,Ah (show i<b.length by omega),Ae,aao i (by omega)];cases(a.getD i .bad).asStr==(b.getD i .bad).asStr
   ·exact Or.inr rfl
   ·exact Or.inl rfl) (by
   simp only[Y3,S221_5,decN,Af]) a.length 0 (Nat.zero_add _)
  have o:aad 0 ((Y3 S221_5)) (a,b,(0:Int))=some r:=z;rw[show((a.length:Int) != (b.length:Int))=false by rw[m];simp,Af,o];rcases G with rfl|⟨j,_,rfl⟩<;>exact aep _
 ·rw[show((a.length:Int) != (b.length:Int))=true from bneI (by omega)];exact aep _
theorem a2f{c:Bool}{x:Option Bool}(h:Ret x λ_=>True):Ret (bif c then x else some false) λ_=>True:=aom h (aep _)
theorem avb{c:Bool}{x:Option Bool}{P:Prop}(h:Ret x λb=>b=true->P):Ret (bif c then x else some false) λb=>b=true->P:=aom h ⟨false,rfl,nofun⟩
theorem akr{R:Type}{c:Bool}{x y:Option R}{G:R->Prop}(m:c=true->Ret x G)(o:c=false->Ret y G):Ret (bif c then x else y) G:=by cases c with
 |true=>exact m rfl
 |false=>exact o rfl
theorem aj6{G:Bool->Prop}(h:G false):Ret (some false) G:=⟨false,rfl,h⟩
theorem bih{c z:Bool}(h:(bif c then z else false)=true):z=true:=by grind
theorem bgh{c z:Bool}(h:(bif c then true else(!z))=false):z=true:=by grind
theorem nb{v:PV}{i:Nat}(h:aah v<=1048576):Ret (F222 (v.fld i).asList (abm (v.fld i).asList)) λb=>b=true->Bare v i:=
 a5b (by have:=acs v i;omega) λx m=>by have:=afe m;omega
theorem a3y{f:PV}(h:aah f<=1048576):Ret (F223 f (ofF f)) λb=>b=true->Bare f 8:=by unfold F223;refine adq (P:=λ_=>True) (a2f ⟨true,a2u (v:=f.fld 7) (Nat.le_trans (acf f 7) h),trivial⟩) λy _ _=>?_;exact adq (avb (nb (v:=f) (i:=8) h)) λz _ o=>⟨_,rfl,λm=>o (bih m)⟩
theorem ad0{G M:Type}{step:G->Option (G⊕M)}(st:Nat->G)(n:Nat)(bad m:M)(P:Nat->Prop)(o:Nat->Option Bool)(z:∀i,i<n->step (st i)=(o i).bind λy=>bif !y then some (.inr bad)else some (.inl (st (i+1))))(O:∀i,i<n->Ret (o i) λb=>b=true->P i)(t:step (st n)=some (.inr m)):
 ∃r,aan step (st 0)=some r/\(r=bad\/r=m/\∀i,i<n->P i):=by
 have h:∀k i,i+k=n->∃r,aan step (st i)=some r/\(r=bad\/r=m/\∀j,i<=j->j<n->P j):=by
  intro k;induction k with
  |zero=>
   intro i U;obtain rfl:i=n:=by omega
   exact⟨m,aae t,Or.inr ⟨rfl,λj H I=>by omega⟩⟩
  |succ k W=>
   intro i U;obtain⟨y,V,X⟩:=O i (by omega);have J:=z i (by omega);rw[V,Aa]at J;cases y with
   |false=>exact⟨bad,aae J,Or.inl rfl⟩
   |true=>obtain⟨r,H,I⟩:=W (i+1) (by omega);refine⟨r,by grind[aal],?_⟩;grind
 obtain⟨r,H,I⟩:=h n 0 (Nat.zero_add _)
 grind
theorem ast{l:List PV}{P:PV->Prop}(h:∀i,i<l.length->P (l.getD i .bad)):∀x,x∈l->P x:=λx m=>by obtain⟨i,o,rfl⟩:=List.getElem_of_mem m;grind
abbrev bb1(m:PV):Prop:=Bare m 4/\∀x,x∈(m.fld 1).asList->Bare x 8
abbrev bb0(m:PV):Prop:=Bare m 4/\∀x,x∈(m.fld 2).asList->Bare x 2
abbrev bb3(m:PV):Prop:=Bare m 2/\∀x,x∈(m.fld 1).asList->Bare x 4
abbrev bb2(s:PV):Prop:=(∀m,m∈(s.fld 0).asList->bb1 m)/\(∀m,m∈(s.fld 1).asList->bb0 m)/\∀m,m∈(s.fld 2).asList->bb3 m
theorem bdz{m:PV}(h:aah m<=1048576):Ret (F134 m (ofM m)) λb=>b=true->bb1 m:=by
 have z:∀i,(m.fld i).asList.length<=1048576:=λi=>by have:=acs m i;omega
 have V:=z 1;have G:((ofM m).fld 1).asList=(m.fld 1).asList.map ofF:=rfl;unfold F134;refine adq (P:=λ_=>True) (a2f (as6 (z 2))) λW _ _=>?_;refine adq (P:=λ_=>True) (a2f (a6a (z 3))) λX _ _=>?_;refine adq (avb (nb (v:=m) (i:=4) h)) λY _ U=>?_;refine akr (λ_=>aj6 nofun) λO=>?_;have M:=U (bgh O);obtain⟨r,H,I⟩:=ad0 (step:=(Y5 S134_5)) (λi=>((),(),((i:Nat):Int),m,ofM m)) (m.fld 1).asList.length (.inl (false,m,ofM m)) (.inr (m,ofM m)) (λi=>Bare ((m.fld 1).asList.getD i .bad) 8) (λi=>F223 ((m.fld 1).asList.getD i .bad) (ofF ((m.fld 1).asList.getD i .bad))) (λi o=>by
  simp only[Y5,S134_5,G,decL i _ o,Ad,aaa,Ah o,List.length_map,Ae,ahd ofF o,aao i (by omega)]) (λi o=>a3y (by have:=afe (aaw o);omega)) (by
  simp only[Y5,S134_5,decN,Af])
 have t:aad 0 ((Y5 S134_5)) ((),(),(0:Int),m,ofM m)=some r:=H;rw[t];rcases I with rfl|⟨rfl,J⟩
 ·exact aj6 nofun
 ·exact⟨true,rfl,λ_=>⟨M,ast J⟩⟩
theorem bcx{m:PV}(h:aah m<=1048576):Ret (F135 m (ofE m)) λb=>b=true->bb0 m:=by
 have G:∀i,(m.fld i).asList.length<=1048576:=λi=>by have:=acs m i;omega
 have Y:=G 2;have H:((ofE m).fld 2).asList=(m.fld 2).asList.map ofI:=rfl;unfold F135;refine adq (P:=λ_=>True) (a2f (as6 (G 3))) λZ _ _=>?_;refine adq (avb (nb (v:=m) (i:=4) h)) λy3 _ V=>?_;refine akr (λ_=>aj6 nofun) λU=>?_;have O:=V (bgh U);obtain⟨r,I,J⟩:=ad0 (step:=(Y5 S135_5)) (λi=>((),(),((i:Nat):Int),m,ofE m)) (m.fld 2).asList.length (.inl (false,m,ofE m)) (.inr (m,ofE m)) (λi=>Bare ((m.fld 2).asList.getD i .bad) 2) (λi=>F222 (((m.fld 2).asList.getD i .bad).fld 2).asList (abm (((m.fld 2).asList.getD i .bad).fld 2).asList)) (λi o=>by
  have q0:∀z:PV,((ofI z).fld 0).asStr=(z.fld 0).asStr:=λz=>rfl;have W:∀z:PV,((ofI z).fld 1).asInt=(z.fld 1).asInt:=λz=>rfl;have X:∀z:PV,((ofI z).fld 2).asList=abm (z.fld 2).asList:=λz=>rfl;simp only[Y5,S135_5,H,decL i _ o,Ad,aaa,Ah o,List.length_map,Ae,ahd ofI o,q0,W,X,A1,bne_self_eq_false,An,Aq,ann,Af,aao i (by omega)]) (λi o=>nb (v:=(m.fld 2).asList.getD i .bad) (i:=2) (by have:=afe (aaw o);omega)) (by
  simp only[Y5,S135_5,decN,Af])
 have t:aad 0 ((Y5 S135_5)) ((),(),(0:Int),m,ofE m)=some r:=I;rw[t];rcases J with rfl|⟨rfl,M⟩
 ·exact aj6 nofun
 ·exact⟨true,rfl,λ_=>⟨O,ast M⟩⟩
theorem be9{m:PV}(h:aah m<=1048576):Ret (F136 m (ofV m)) λb=>b=true->bb3 m:=by
 have U:∀i,(m.fld i).asList.length<=1048576:=λi=>by have:=acs m i;omega
 have l1:=U 1;have G:((ofV m).fld 1).asList=(m.fld 1).asList.map ofT:=rfl;unfold F136;refine adq (avb (nb (v:=m) (i:=2) h)) λy3 _ V=>?_;refine akr (λ_=>aj6 nofun) λO=>?_;have M:=V (bgh O);obtain⟨r,H,I⟩:=ad0 (step:=(Y5 S136_5)) (λi=>((),(),((i:Nat):Int),m,ofV m)) (m.fld 1).asList.length (.inl (false,m,ofV m)) (.inr (m,ofV m)) (λi=>Bare ((m.fld 1).asList.getD i .bad) 4) (λi=>F222 (((m.fld 1).asList.getD i .bad).fld 4).asList (abm (((m.fld 1).asList.getD i .bad).fld 4).asList)) (λi o=>by
  have q0:∀z:PV,((ofT z).fld 0).asStr=(z.fld 0).asStr:=λz=>rfl;have W:∀z:PV,((ofT z).fld 1).asStr=(z.fld 1).asStr:=λz=>rfl;have X:∀z:PV,((ofT z).fld 2).asStr=(z.fld 2).asStr:=λz=>rfl;have Y:∀z:PV,((ofT z).fld 3).asInt=(z.fld 3).asInt:=λz=>rfl;have Z:∀z:PV,((ofT z).fld 4).asList=abm (z.fld 4).asList:=λz=>rfl;simp only[Y5,S136_5,G,decL i _ o,Ad,aaa,Ah o,List.length_map,Ae,ahd ofT o,q0,W,X,Y,Z,A1,bne_self_eq_false,An,Aq,ann,Af,aao i (by omega)]) (λi o=>nb (v:=(m.fld 1).asList.getD i .bad) (i:=4) (by have:=afe (aaw o);omega)) (by
  simp only[Y5,S136_5,decN,Af])
 have t:aad 0 ((Y5 S136_5)) ((),(),(0:Int),m,ofV m)=some r:=H;rw[t];rcases I with rfl|⟨rfl,J⟩
 ·exact aj6 nofun
 ·exact⟨true,rfl,λ_=>⟨M,ast J⟩⟩
theorem bem{s:PV}(h:aah s<=1048576):Ret (F56 s (ofS s)) λb=>b=true->bb2 s:=by
 have o:∀i,(s.fld i).asList.length<=1048576:=λi=>by have:=acs s i;omega
 have t:∀i k,k<(s.fld i).asList.length->aah ((s.fld i).asList.getD k .bad)<=1048576:=λi k O=>by have:=afe (aaw O);omega
 have l0:=o 0;have l1:=o 1;have l2:=o 2;have I:((ofS s).fld 0).asList=(s.fld 0).asList.map ofM:=rfl;have J:((ofS s).fld 1).asList=(s.fld 1).asList.map ofE:=rfl;have M:((ofS s).fld 2).asList=(s.fld 2).asList.map ofV:=rfl;obtain⟨r1,Y,q1⟩:=ad0 (step:=(Y5 S84_5)) (λi=>((),(),((i:Nat):Int),s,ofS s)) (s.fld 0).asList.length (.inl (false,s,ofS s)) (.inr ((),(),s,ofS s)) (λi=>bb1 ((s.fld 0).asList.getD i .bad)) (λi=>F134 ((s.fld 0).asList.getD i .bad) (ofM ((s.fld 0).asList.getD i .bad))) (λi m=>by
  simp only[Y5,S84_5,I,decL i _ m,Ad,aaa,Ah m,List.length_map,Ae,ahd ofM m,aao i (by omega)]) (λi m=>bdz (t 0 i m)) (by
  simp only[Y5,S84_5,decN,Af])
 obtain⟨r2,Z,q2⟩:=ad0 (step:=(Y5 S84_10)) (λi=>((),(),((i:Nat):Int),s,ofS s)) (s.fld 1).asList.length (.inl (false,s,ofS s)) (.inr ((),(),s,ofS s)) (λi=>bb0 ((s.fld 1).asList.getD i .bad)) (λi=>F135 ((s.fld 1).asList.getD i .bad) (ofE ((s.fld 1).asList.getD i .bad))) (λi m=>by
  simp only[Y5,S84_10,J,decL i _ m,Ad,aaa,Ah m,List.length_map,Ae,ahd ofE m,aao i (by omega)]) (λi m=>bcx (t 1 i m)) (by
  simp only[Y5,S84_10,decN,Af])
 obtain⟨r3,p3,q3⟩:=ad0 (step:=(Y5 S84_15)) (λi=>((),(),((i:Nat):Int),s,ofS s)) (s.fld 2).asList.length (.inl (false,s,ofS s)) (.inr (s,ofS s)) (λi=>bb3 ((s.fld 2).asList.getD i .bad)) (λi=>F136 ((s.fld 2).asList.getD i .bad) (ofV ((s.fld 2).asList.getD i .bad))) (λi m=>by
  simp only[Y5,S84_15,M,decL i _ m,Ad,aaa,Ah m,List.length_map,Ae,ahd ofV m,aao i (by omega)]) (λi m=>be9 (t 2 i m)) (by
  simp only[Y5,S84_15,decN,Af])
 have z:aad 0 ((Y5 S84_5)) ((),(),(0:Int),s,ofS s)=some r1:=Y;have G:aad 0 ((Y5 S84_10)) ((),(),(0:Int),s,ofS s)=some r2:=Z;have H:aad 0 ((Y5 S84_15)) ((),(),(0:Int),s,ofS s)=some r3:=p3;unfold F56 F84;refine adq (P:=λb=>b=true->bb2 s) (aom (aj6 nofun) ?_) λy _ U=>⟨y,rfl,U⟩;rw[z,Aa];rcases q1 with rfl|⟨rfl,V⟩
 ·exact aj6 nofun
 ·rw[abg];dsimp only;rw[G,Aa];rcases q2 with rfl|⟨rfl,W⟩
  ·exact aj6 nofun
  ·rw[abg];dsimp only;rw[H,Aa];rcases q3 with rfl|⟨rfl,X⟩
   ·exact aj6 nofun
   ·exact⟨true,rfl,λ_=>⟨ast V,ast W,ast X⟩⟩
end Go.Ab
