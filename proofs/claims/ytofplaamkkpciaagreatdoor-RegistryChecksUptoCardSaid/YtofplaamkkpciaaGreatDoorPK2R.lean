/- canon.Of: the program's canonical form is the specification's. -/
import Derived.Test.YtofplaamkkpciaaGreatDoorPCnR
set_option linter.unusedVariables false
set_option linter.unusedSimpArgs false
set_option linter.unnecessarySimpa false
namespace Go.Ab
open Go
set_option maxRecDepth 100000
theorem aei{G I:Type}{step:G->Option (G⊕I)}(st:Nat->List PV->G)(l:List PV)(g:PV->PV)(t:List PV->I)
 (z:∀i c,i<l.length->i<c.length->c.getD i .bad=l.getD i .bad->step (st i c)=some (.inl (st (i+1) (c.set i (g (l.getD i .bad))))))
 (H:∀c,c.length=l.length->step (st l.length c)=some (.inr (t c))):aap step (st 0 l)=some (t (l.map g)):=by
 suffices h:∀k i,i+k=l.length->aap step (st i ((l.take i).map g++l.drop i))=some (t (l.map g)) by simpa using h l.length 0 (Nat.zero_add _)
 intro k
 induction k with
 |zero=>
  intro i M
  obtain rfl:i=l.length:=by omega
  grind[List.take_length,List.drop_length,aae]
 |succ k O=>
  intro i M
  have m:i<l.length:=by omega
  have o:((l.take i).map g).length=i:=by simp;omega
  have J:((l.take i).map g++l.drop i).getD i .bad=l.getD i .bad:=by rw[List.getD_eq_getElem?_getD,A4 (by omega),o,Nat.sub_self,List.getElem?_drop,List.getD_eq_getElem?_getD];rfl
  rw[aan (z i _ m (by simp;omega) J)]
  have e:((l.take i).map g++l.drop i).set i (g (l.getD i .bad))=(l.take (i+1)).map g++l.drop (i+1):=by rw[List.set_append_right _ _ (by omega),o,Nat.sub_self,List.drop_eq_getElem_cons m,List.set_cons_zero,List.take_add_one,Ap m,List.map_append,Aq,abw m];rfl
  grind
theorem bd5{p:Nat->Bool}:∀{k i j:Nat},fstI p i k=some j->∀m,i<=m->m<j->p m=false:=by
 intro k;induction k with
 |zero=>intro i j h;cases h
 |succ k z=>
  intro i j h m G o;unfold fstI at h;cases t:p i with
  |true=>grind
  |false=>
   rw[t,Af]at h;by_cases H:m=i
   ·grind
   ·exact z h m (by omega) o
theorem bh6(n:PV):F118 n=some (!alp n):=by grind[F118,alp]
theorem keepI{l:List PV}(t:l.length<=1048576):F153_c118 () () l=some (idxI (λx=>!alp x) l,l):=by
 have h:=aeh (step:=(Y5 S153_c118_3)) (λi=>((),(),((l.length:Nat):Int),((i:Nat):Int),l)) l.length (λi=>!alp (l.getD i .bad)) (λi=>.inl (((i:Nat):Int),l)) (.inr l) (λi m=>by
  simp only[Y5,S153_c118_3,decL i _ m,Ad,aaa,Ah m,Ae,bh6,Aa,aal i (by omega)];grind) (by
  simp only[Y5,S153_c118_3,decN,Af]) l.length 0 (Nat.zero_add _)
 have o:aad 0 (Y5 S153_c118_3) ((),(),(l.length:Int),(0:Int),l)=_:=h;unfold F153_c118 idxI;rw[o,Aa];cases fstI (λi=>!alp (l.getD i .bad)) 0 l.length<;>rfl
theorem bds:∀(k i j:Nat)(c:List PV),j+k=c.length->i<j->c.length<=1048576->∃o,aap (Y5 S116_c118_6) ((),(),(i:Int),(j:Int),c)=some ((),((i+(aba (c.drop j)).length:Nat):Int),o)/\o.length=c.length/\o.take (i+(aba (c.drop j)).length)=c.take i++aba (c.drop j):=by
 intro k;induction k with
 |zero=>
  intro i j c V U H;obtain rfl:j=c.length:=by omega
  refine⟨c,?_,rfl,?_⟩
  ·refine aae ?_;simp only[Y5,S116_c118_6,decN,Af,List.drop_length];rfl
  ·simp[aba]
 |succ k O=>
  intro i j c V U H;have m:j<c.length:=by omega
  have W:c.drop j=c.getD j .bad::c.drop (j+1):=by grind[List.drop_eq_getElem_cons,abw]
  cases M:alp (c.getD j .bad)with
  |false=>
   have G:aba (c.drop j)=aba (c.drop (j+1)):=by grind[aba]
   obtain⟨o,t,z,J⟩:=O i (j+1) c (by omega) (by omega) H;refine⟨o,?_,z,?_⟩
   ·rw[aan (x1:=((),(),(i:Int),((j+1:Nat):Int),c)) (by simp only[Y5,S116_c118_6,decL j _ m,Ad,aaa,Ah m,Ae,bh6,Aa,M,Ao,An,Af,aal j (by omega)]),t,G]
   grind
  |true=>
   have G:aba (c.drop j)=c.getD j .bad::aba (c.drop (j+1)):=by grind[aba]
   have I:(c.set i (c.getD j .bad)).drop (j+1)=c.drop (j+1):=by grind[List.drop_set_of_lt]
   obtain⟨o,t,z,J⟩:=O (i+1) (j+1) (c.set i (c.getD j .bad)) (by simp;omega) (by omega) (by simpa using H);rw[I]at t J;refine⟨o,?_,by simpa using z,?_⟩
   ·rw[aan (x1:=((),(),((i+1:Nat):Int),((j+1:Nat):Int),c.set i (c.getD j .bad))) (by simp only[Y5,S116_c118_6,decL j _ m,Ad,aaa,Ah m,Ah (show i<c.length by omega),Ae,bh6,Aa,M,Ao,An,Ad,aal j (by omega),aal i (by omega)]),t,G,Al,show i+1+(aba (c.drop (j+1))).length=i+((aba (c.drop (j+1))).length+1) by omega]
   grind[List.length_cons,aba,List.take_add_one,List.take_set_of_le,List.getElem?_set_self,List.append_assoc]
theorem am7{l:List PV}(H:l.length<=1048576):F80 l=some (aba l):=by
 unfold F80 F117_v2 F117_v1;rw[Ah (show l.length<=accMax by unfold accMax;omega),Ad,Aa];unfold F116_c118;dsimp only;rw[keepI H,Aa];dsimp only;unfold idxI;cases o:fstI (λi=>!alp (l.getD i .bad)) 0 l.length with
 |none=>
  have Z:=a9o o;have e:aba l=l:=List.filter_eq_self.2 λx z=>by obtain⟨i,G,rfl⟩:=List.getElem_of_mem z;grind
  rw[e];rfl
 |some i=>
  obtain⟨-,G,Y⟩:=agj o;rw[Nat.zero_add]at G;have I:∀x,x∈l.take i->alp x=true:=λx z=>by
   obtain⟨j,X,rfl⟩:=List.getElem_of_mem z;have t:j<i:=by grind
   cases hq:alp (l.take i)[j]with
   |true=>rfl
   |false=>have M:=bd5 o j (Nat.zero_le _) t;grind
  have W:aba l=l.take i++aba (l.drop (i+1)):=by grind[List.take_append_drop,aba,List.filter_eq_self,List.drop_eq_getElem_cons,abw,alp]
  obtain⟨U,J,V,M⟩:=bds (l.length-(i+1)) i (i+1) l (by omega) (by omega) H;have O:i+(aba (l.drop (i+1))).length<l.length:=by grind[awy,List.length_drop]
  have m:aad 0 (Y5 S116_c118_6) ((),(),(i:Int),((i+1:Nat):Int),l)=_:=J;simp only[Option.elim];rw[show((i:Int)==-1)=false by grind,Af,aal i (by omega),m,Aa];grind[Nat.blt_eq]
theorem anv{l:List PV}(h:l.length<=1048576):decide (l.length<=accMax)=true:=Ah (by unfold accMax;omega)
theorem ofE1{s z:PV}{L a b o t G:List PV}{n j:Int}{nm:Bn}{m:PV}(J:OkMsg m):
 aad 0 (Y10 S46_11) ((),(),(),(),L,n,j,((m.fld 1).asList.length:Int),(0:Int),s,z,o,t,G,nm,(),a,b,aba (m.fld 4).asList,(m.fld 1).asList)=some ((),(),(),(),L,n,j,s,z,o,t,G,nm,(),a,b,aba (m.fld 4).asList,(m.fld 1).asList.map ofF):=
 aei (step:=(Y10 S46_11)) (λi c=>((),(),(),(),L,n,j,((m.fld 1).asList.length:Int),((i:Nat):Int),s,z,o,t,G,nm,(),a,b,aba (m.fld 4).asList,c)) (m.fld 1).asList ofF (λc=>((),(),(),(),L,n,j,s,z,o,t,G,nm,(),a,b,aba (m.fld 4).asList,c)) (λi c I H M=>by
  have U:=J.fields;have O:=(J.field _ (aam I)).notes;simp only[Y10,S46_11,decL i _ I,Ad,aaa,Ah H,Ae,M,am7 O,Aa,aal i (by omega)];rfl) (λc H=>by
  simp only[Y10,S46_11,decN,Af])
theorem ofE2{s z:PV}{L a t G H:List PV}{n j:Int}{nm:Bn}{m:PV}{o:Bool}(M:OkEnum m):
 aad 0 (Y10 S46_22) ((),(),(),(),L,n,j,((m.fld 2).asList.length:Int),(0:Int),s,z,t,G,H,nm,o,(),a,aba (m.fld 4).asList,(m.fld 2).asList)=some ((),(),(),(),L,n,j,s,z,t,G,H,nm,o,(),a,aba (m.fld 4).asList,(m.fld 2).asList.map ofI):=
 aei (step:=(Y10 S46_22)) (λi c=>((),(),(),(),L,n,j,((m.fld 2).asList.length:Int),((i:Nat):Int),s,z,t,G,H,nm,o,(),a,aba (m.fld 4).asList,c)) (m.fld 2).asList ofI (λc=>((),(),(),(),L,n,j,s,z,t,G,H,nm,o,(),a,aba (m.fld 4).asList,c)) (λi c J I O=>by
  have V:=M.items;have U:=(M.item _ (aam J)).notes;simp only[Y10,S46_22,decL i _ J,Ad,aaa,Ah I,Ae,O,am7 U,Aa,aal i (by omega)];rfl) (λc I=>by
  simp only[Y10,S46_22,decN,Af])
theorem ofE3{s z:PV}{L o t G:List PV}{n j:Int}{nm:Bn}{m:PV}(J:OkSvc m):
 aad 0 (Y9 S46_33) ((),(),(),L,n,j,((m.fld 1).asList.length:Int),(0:Int),s,z,o,t,G,nm,(),aba (m.fld 2).asList,(m.fld 1).asList)=some ((),(),(),L,n,j,s,z,o,t,G,nm,(),aba (m.fld 2).asList,(m.fld 1).asList.map ofT):=
 aei (step:=(Y9 S46_33)) (λi c=>((),(),(),L,n,j,((m.fld 1).asList.length:Int),((i:Nat):Int),s,z,o,t,G,nm,(),aba (m.fld 2).asList,c)) (m.fld 1).asList ofT (λc=>((),(),(),L,n,j,s,z,o,t,G,nm,(),aba (m.fld 2).asList,c)) (λi c I H M=>by
  have U:=J.meths;have O:=(J.meth _ (aam I)).notes;simp only[Y9,S46_33,decL i _ I,Ad,aaa,Ah H,Ae,M,am7 O,Aa,aal i (by omega)];rfl) (λc H=>by
  simp only[Y9,S46_33,decN,Af])
theorem bk6{s:PV}{b:Bool}(h:SOk s)(W:F89 s=some b):F46 s=some (bif b then ofS s else s):=by
 have l0:=h.len.m;have l1:=h.len.e;have l2:=h.len.v;unfold F46;rw[anq h,W,Aa];cases b with
 |false=>rfl
 |true=>
  have O:=h.msg;have U:=h.enum;have V:=h.svc;unfold ofS;have J:aad 0 (Y11 S46_6) ((),(),(),(s.fld 0).asList,((s.fld 0).asList.length:Int),(0:Int),s,zSch,[],[],[])=_:=abg (step:=(Y11 S46_6)) (λi c=>((),(),(),(s.fld 0).asList,((s.fld 0).asList.length:Int),((i:Nat):Int),s,zSch,c,[],[])) (s.fld 0).asList ofM (λc=>((),(),(),s,zSch,c,[],[])) (by omega) (λi c t z=>by
   have o:=O _ (aam t);have G:=o.fields;have I:=o.spans;have X:=o.gone;have H:=o.notes;simp only[Y11,S46_6,decL i _ t,Ad,aaa,Ah t,Ae,am7 H,F81_v2,F81_v1,F82_v2,F82_v1,F83_v2,F83_v1,anv G,anv I,anv X,Aa,ofE1 o,aal i (by omega),ada z];rfl) (λc=>by
   simp only[Y11,S46_6,decN,Af])
  have Y:∀M:List PV,aad 0 (Y11 S46_18) ((),(),(),(s.fld 1).asList,((s.fld 1).asList.length:Int),(0:Int),s,zSch,M,[],[])=some ((),(),(),s,zSch,M,(s.fld 1).asList.map ofE,[]):=λM=>abg (step:=(Y11 S46_18)) (λi c=>((),(),(),(s.fld 1).asList,((s.fld 1).asList.length:Int),((i:Nat):Int),s,zSch,M,c,[])) (s.fld 1).asList ofE (λc=>((),(),(),s,zSch,M,c,[])) (by omega) (λi c t z=>by
   have o:=U _ (aam t);have G:=o.items;have I:=o.spans;have H:=o.notes;simp only[Y11,S46_18,decL i _ t,Ad,aaa,Ah t,Ae,am7 H,F84_v2,F84_v1,F82_v2,F82_v1,anv G,anv I,Aa,ofE2 o,aal i (by omega),ada z];rfl) (λc=>by
   simp only[Y11,S46_18,decN,Af])
  have Z:∀M E:List PV,aad 0 (Y10 S46_29) ((),(),(s.fld 2).asList,((s.fld 2).asList.length:Int),(0:Int),s,zSch,M,E,[])=some ((),(),s,zSch,M,E,(s.fld 2).asList.map ofV):=λM E=>abg (step:=(Y10 S46_29)) (λi c=>((),(),(s.fld 2).asList,((s.fld 2).asList.length:Int),((i:Nat):Int),s,zSch,M,E,c)) (s.fld 2).asList ofV (λc=>((),(),s,zSch,M,E,c)) (by omega) (λi c t z=>by
   have o:=V _ (aam t);have G:=o.meths;have H:=o.notes;simp only[Y10,S46_29,decL i _ t,Ad,aaa,Ah t,Ae,am7 H,F85_v2,F85_v1,anv G,Aa,ofE3 o,aal i (by omega),ada z];rfl) (λc=>by
   simp only[Y10,S46_29,decN,Af])
  simp only[An,Af,Ad];rw[show(PV.agg [(PV.slice []),(PV.slice []),(PV.slice [])])=zSch from rfl,J,Aa];grind
end Go.Ab
namespace Go.Ab
open Go
set_option maxRecDepth 100000
theorem a0g{s:PV}{nm:Bn}{n:Int}(M:(s.fld 1).asList.length<=1048576)(J:∀e,e∈(s.fld 1).asList->(e.fld 2).asList.length<=1048576):F215 s nm n=some (au4 (s.fld 1).asList nm n):=by
 have H:aad 0 ((Y6 S215_3)) (nm,n,(s.fld 1).asList,((s.fld 1).asList.length:Int),(0:Int),s)=some (((s.fld 1).asList.findSome? (akp nm n)).elim (.inr s) λx=>.inl ((x.fld 0).asStr,s)):=by
  have h:=aea (step:=(Y6 S215_3)) (λi=>(nm,n,(s.fld 1).asList,((s.fld 1).asList.length:Int),((i:Nat):Int),s)) (s.fld 1).asList (akp nm n) (λx=>.inl ((x.fld 0).asStr,s)) (.inr s) (λi m=>by
   have G:=aam m;have o:=J _ G;generalize I:(s.fld 1).asList.getD i .bad=e at G o;have q:aad 0 ((Y11 S215_6)) (nm,n,(),(s.fld 1).asList,((s.fld 1).asList.length:Int),((i:Nat):Int),(e.fld 2).asList,((e.fld 2).asList.length:Int),(0:Int),s,e)=some ((akp nm n e).elim (.inr (nm,n,(s.fld 1).asList,((s.fld 1).asList.length:Int),((i:Nat):Int),s,e)) λx=>.inl ((x.fld 0).asStr,s,e)):=by
    have t:=aea (step:=(Y11 S215_6)) (λk=>(nm,n,(),(s.fld 1).asList,((s.fld 1).asList.length:Int),((i:Nat):Int),(e.fld 2).asList,((e.fld 2).asList.length:Int),((k:Nat):Int),s,e)) (e.fld 2).asList (λx=>bif (bif (e.fld 0).asStr==nm then baf n x else false)then some x else none) (λx=>.inl ((x.fld 0).asStr,s,e)) (.inr (nm,n,(s.fld 1).asList,((s.fld 1).asList.length:Int),((i:Nat):Int),s,e)) (λk z=>by
     simp only[Y11,S215_6,aaa,Ah z,Ad,Ae,decL k _ z,aal k (by omega),baf];grind) (by
     simp only[Y11,S215_6,decN,Af]) _ 0 (Nat.zero_add _)
    rw[Ar]at t;refine t.trans ?_;unfold akp;grind
   simp only[Y6,S215_3,decL i _ m,Ad,aaa,Ah m,Ae,I];rw[q,Aa];cases akp nm n e with
   |some x=>rfl
   |none=>grind[Option.elim,aa6,aal]) (by
   simp only[Y6,S215_3,decN,Af]) _ 0 (Nat.zero_add _)
  rw[Ar]at h;exact h
 unfold F215 au4;dsimp only;rw[H,Aa];cases(s.fld 1).asList.findSome? (akp nm n)<;>rfl
theorem a7s{t:Bn}(h:t.length<=100000000):F142 t=some (([46]:Bn)++t):=by
 have e:(([]:Bn).intercalate ([PV.str ([46]:Bn),PV.str t].map PV.asStr))=([46]:Bn)++t:=by simp[List.intercalate,PV.asStr]
 unfold F142 F216 amr;rw[e];have m:Nat.ble [PV.str ([46]:Bn),PV.str t].length 140737488355328=true:=rfl;grind[Nat.ble,Nat.ble_eq]
theorem blw{s f:PV}(m:SOk s)(t:OkFld f):F141 s f=some (ap3 (s.fld 1).asList f):=by have G:=t.type;have z:F215 s ((f.fld 4).fld 1).asStr ((f.fld 7).fld 1).asInt=_:=a0g m.len.e (λe o=>(m.enum e o).items);grind[F142,a7s,F141,ap3,fk9,fk10,bd1,bd4,asInt,asBool]
theorem bec{c:List PV}{i:Nat}{a:PV}(h:i<c.length):(c.set i a).getD i .bad=a:=by grind
theorem bj8{s z:PV}{L o t G H I J M:List PV}{n j:Int}{nm O U:Bn}{m:PV}(Z:SOk s)(X:OkMsg m):
 aad 0 (Y11 S97_8) ((),(),(),(),L,n,j,(),((m.fld 1).asList.length:Int),(0:Int),s,z,O,U,H,I,J,M,nm,(),o,t,G,(m.fld 1).asList)=some ((),(),(),(),L,n,j,s,z,O,U,H,I,J,M,nm,(),o,t,G,(m.fld 1).asList.map (ap3 (s.fld 1).asList)):=
 aei (step:=(Y11 S97_8)) (λi c=>((),(),(),(),L,n,j,(),((m.fld 1).asList.length:Int),((i:Nat):Int),s,z,O,U,H,I,J,M,nm,(),o,t,G,c)) (m.fld 1).asList (ap3 (s.fld 1).asList) (λc=>((),(),(),(),L,n,j,s,z,O,U,H,I,J,M,nm,(),o,t,G,c)) (λi c W V Y=>by
  have hl:=X.fields;simp only[Y11,S97_8,decL i _ W,Ad,aaa,Ah V,Ae,Y,blw Z (X.field _ (aam W)),Aa,aal i (by omega)]) (λc V=>by
  simp only[Y11,S97_8,decN,Af])
theorem bj9{s z:PV}{L o t G H I:List PV}{n j:Int}{nm J M:Bn}{m:PV}(V:OkSvc m):
 aad 0 (Y9 S97_19) ((),(),(),L,n,j,((m.fld 1).asList.length:Int),(0:Int),s,z,J,M,t,G,H,I,nm,(),o,(m.fld 1).asList)=some ((),(),(),L,n,j,s,z,J,M,t,G,H,I,nm,(),o,(m.fld 1).asList.map axg):=
 aei (step:=(Y9 S97_19)) (λi c=>((),(),(),L,n,j,((m.fld 1).asList.length:Int),((i:Nat):Int),s,z,J,M,t,G,H,I,nm,(),o,c)) (m.fld 1).asList axg (λc=>((),(),(),L,n,j,s,z,J,M,t,G,H,I,nm,(),o,c)) (λi c U O X=>by
  have hl:=V.meths;have W:=V.meth _ (aam U);have Y:=W.inn;have Z:=W.out;simp only[Y9,S97_19,decL i _ U,Ad,aaa,Ah O,Ae,X,a7s (show(((m.fld 1).asList.getD i .bad).fld 1).asStr.length<=100000000 by omega),a7s (show(((m.fld 1).asList.getD i .bad).fld 2).asStr.length<=100000000 by omega),Aa,bec O,List.set_set,aal i (by omega)];rfl) (λc O=>by
  simp only[Y9,S97_19,decN,Af])
theorem bhs{s:PV}(h:SOk s):F97 s=some (ap2 s):=by
 have J:=h.len.m;have l1:=h.len.e;have l2:=h.len.v;have H:aad 0 (Y7 S97_4) ((),(),(),(s.fld 0).asList,((s.fld 0).asList.length:Int),(0:Int),s,zFil,([]:Bn),([]:Bn),[],[],(s.fld 1).asList,[])=_:=abg (step:=(Y7 S97_4)) (λi c=>((),(),(),(s.fld 0).asList,((s.fld 0).asList.length:Int),((i:Nat):Int),s,zFil,([]:Bn),([]:Bn),[],c,(s.fld 1).asList,[])) (s.fld 0).asList (a9h (s.fld 1).asList) (λc=>((),(),(),s,zFil,([]:Bn),([]:Bn),[],c,(s.fld 1).asList,[])) (by omega) (λi c o z=>by
  have t:=h.msg _ (aam o);have G:=t.fields;simp only[Y7,S97_4,decL i _ o,Ad,aaa,Ah o,Ae,F81_v2,F81_v1,anv G,bj8 h t,Aa,aal i (by omega),ada z];rfl) (λc=>by
  simp only[Y7,S97_4,decN,Af])
 have I:∀M:List PV,aad 0 (Y6 S97_15) ((),(),(s.fld 2).asList,((s.fld 2).asList.length:Int),(0:Int),s,zFil,([]:Bn),([]:Bn),[],M,(s.fld 1).asList,[])=some ((),(),s,zFil,([]:Bn),([]:Bn),[],M,(s.fld 1).asList,(s.fld 2).asList.map az4):=λM=>abg (step:=(Y6 S97_15)) (λi c=>((),(),(s.fld 2).asList,((s.fld 2).asList.length:Int),((i:Nat):Int),s,zFil,([]:Bn),([]:Bn),[],M,(s.fld 1).asList,c)) (s.fld 2).asList az4 (λc=>((),(),s,zFil,([]:Bn),([]:Bn),[],M,(s.fld 1).asList,c)) (by omega) (λi c o z=>by
  have t:=h.svc _ (aam o);have G:=t.meths;simp only[Y6,S97_15,decL i _ o,Ad,aaa,Ah o,Ae,F85_v2,F85_v1,anv G,bj9 t,Aa,aal i (by omega),ada z];rfl) (λc=>by
  simp only[Y6,S97_15,decN,Af])
 unfold F97 ap2;dsimp only;rw[show(PV.agg [(PV.str ([]:Bn)),(PV.str ([]:Bn)),(PV.slice []),(PV.slice []),(PV.slice []),(PV.slice [])])=zFil from rfl,H,Aa];grind
theorem a2q{s:PV}{b:Bool}(h:SOk s)(o:aag s<=1048576)(m:F89 s=some b):F57 s=some (bif b then canT s else[]):=by
 unfold F57;rw[anq h,m,Aa];cases b with
 |false=>rfl
 |true=>simp only[An,Af];rw[bk6 h m,Aa,Ad,bhs (bbb h),Aa,bfd _ (axh h o),Aa];rfl
theorem bkc{t:Bn}(h:t.length<=1000000):F86 t=F53 t:=by
 have q:∀(k i:Nat)(a:Int),i+k=t.length->aap (Y4 S86_4) (t,a,(t.length:Int),(i:Int))=aap (Y3 S53_4) (t,a,(i:Int)):=by
  intro k;induction k with
  |zero=>
   intro i a o;obtain rfl:i=t.length:=by omega
   rw[aae (y:=a) (by simp only[Y4,S86_4,decN,Af]),aae (y:=a) (by simp only[Y3,S53_4,decN,Af])]
  |succ k z=>
   intro i a o;have m:i<t.length:=by omega
   rw[aan (x1:=(t,IntKind.wrap .u64 ((aer .xor .u64 a (IntKind.wrap .u64 ((t.getD i 0).toNat:Int)))*(1099511628211:Int)),(t.length:Int),((i+1:Nat):Int))) (by
    simp only[Y4,S86_4,decL i _ m,Ad,aaa,Ah m,Ae,aal i (by omega)]),aan (x1:=(t,IntKind.wrap .u64 ((aer .xor .u64 a (IntKind.wrap .u64 ((t.getD i 0).toNat:Int)))*(1099511628211:Int)),((i+1:Nat):Int))) (by
    simp only[Y3,S53_4,decL i _ m,Ad,aaa,Ah m,Ae,aal i (by omega)])]
   exact z (i+1) _ (by omega)
 have q0:aad 0 (Y4 S86_4) (t,(14695981039346656037:Int),(t.length:Int),(0:Int))=aad 0 (Y3 S53_4) (t,(14695981039346656037:Int),(0:Int)):=q t.length 0 _ (Nat.zero_add _);grind[F86,F53]
theorem bcp{s:PV}(h:SOk s)(m:aag s<=1048576):F57 s=F54 s:=by grind[ai6,a2q,ae0]
theorem a6m{s:PV}(h:SOk s)(m:aag s<=1048576):F48 s=F17 s:=by
 obtain⟨b,o⟩:=ai6 h m;unfold F48 F17;rw[a2q h m o,ae0 h m o,Aa,Aa,bkc];cases b with
 |false=>simp
 |true=>have:=a2l s;grind
end Go.Ab
