/- canon.Of: the program's canonical form is the specification's. -/
import Derived.Test.YticdffgjgfmicaaGreatDoorPCnK
set_option linter.unusedVariables false
set_option linter.unusedSimpArgs false
set_option linter.unnecessarySimpa false
namespace Go.Ab
open Go
set_option maxRecDepth 100000
theorem aed{G I:Type}{step:G->Option (G⊕I)}(st:Nat->List PV->G)(l:List PV)(g:PV->PV)(t:List PV->I)
 (z:∀i c,i<l.length->i<c.length->c.getD i .bad=l.getD i .bad->step (st i c)=some (.inl (st (i+1) (c.set i (g (l.getD i .bad))))))
 (H:∀c,c.length=l.length->step (st l.length c)=some (.inr (t c))):aan step (st 0 l)=some (t (l.map g)):=by
 suffices h:∀k i,i+k=l.length->aan step (st i ((l.take i).map g++l.drop i))=some (t (l.map g)) by simpa using h l.length 0 (Nat.zero_add _)
 intro k
 induction k with
 |zero=>
  intro i M
  obtain rfl:i=l.length:=by omega
  grind[List.take_length,List.drop_length,aae]
 |succ k O=>
  intro i M
  have m:i<l.length:=by omega
  have o:((l.take i).map g).length=i:=by simp;omega
  have J:((l.take i).map g++l.drop i).getD i .bad=l.getD i .bad:=by rw[List.getD_eq_getElem?_getD,A3 (by omega),o,Nat.sub_self,List.getElem?_drop,List.getD_eq_getElem?_getD];rfl
  rw[aal (z i _ m (by simp;omega) J)]
  have e:((l.take i).map g++l.drop i).set i (g (l.getD i .bad))=(l.take (i+1)).map g++l.drop (i+1):=by rw[List.set_append_right _ _ (by omega),o,Nat.sub_self,List.drop_eq_getElem_cons m,List.set_cons_zero,List.take_add_one,Ao m,List.map_append,Ap,aa9 m];rfl
  grind
theorem bc9{p:Nat->Bool}:∀{k i j:Nat},fstI p i k=some j->∀m,i<=m->m<j->p m=false:=by
 intro k;induction k with
 |zero=>intro i j h;cases h
 |succ k z=>
  intro i j h m G o;unfold fstI at h;cases t:p i with
  |true=>grind
  |false=>
   rw[t,Af]at h;by_cases H:m=i
   ·grind
   ·exact z h m (by omega) o
theorem bhb(n:PV):F110 n=some (!amp n):=by grind[F110,amp]
theorem keepI{l:List PV}(t:l.length<=1048576):F168_c110 () () l=some (idxI (λx=>!amp x) l,l):=by
 have h:=ade (step:=(Y5 S168_c110_3)) (λi=>((),(),((l.length:Nat):Int),((i:Nat):Int),l)) l.length (λi=>!amp (l.getD i .bad)) (λi=>.inl (((i:Nat):Int),l)) (.inr l) (λi m=>by
  simp only[Y5,S168_c110_3,decL i _ m,Ad,aaa,Ah m,Ae,bhb,Aa,aao i (by omega)];grind) (by
  simp only[Y5,S168_c110_3,decN,Af]) l.length 0 (Nat.zero_add _)
 have o:aad 0 (Y5 S168_c110_3) ((),(),(l.length:Int),(0:Int),l)=_:=h;unfold F168_c110 idxI;rw[o,Aa];cases fstI (λi=>!amp (l.getD i .bad)) 0 l.length<;>rfl
theorem bcv:∀(k i j:Nat)(c:List PV),j+k=c.length->i<j->c.length<=1048576->∃o,aan (Y5 S108_c110_6) ((),(),(i:Int),(j:Int),c)=some ((),((i+(abm (c.drop j)).length:Nat):Int),o)/\o.length=c.length/\o.take (i+(abm (c.drop j)).length)=c.take i++abm (c.drop j):=by
 intro k;induction k with
 |zero=>
  intro i j c V U H;obtain rfl:j=c.length:=by omega
  refine⟨c,?_,rfl,?_⟩
  ·refine aae ?_;simp only[Y5,S108_c110_6,decN,Af,List.drop_length];rfl
  ·simp[abm]
 |succ k O=>
  intro i j c V U H;have m:j<c.length:=by omega
  have W:c.drop j=c.getD j .bad::c.drop (j+1):=by grind[List.drop_eq_getElem_cons,aa9]
  cases M:amp (c.getD j .bad)with
  |false=>
   have G:abm (c.drop j)=abm (c.drop (j+1)):=by grind[abm]
   obtain⟨o,t,z,J⟩:=O i (j+1) c (by omega) (by omega) H;refine⟨o,?_,z,?_⟩
   ·rw[aal (x1:=((),(),(i:Int),((j+1:Nat):Int),c)) (by simp only[Y5,S108_c110_6,decL j _ m,Ad,aaa,Ah m,Ae,bhb,Aa,M,Aq,An,Af,aao j (by omega)]),t,G]
   grind
  |true=>
   have G:abm (c.drop j)=c.getD j .bad::abm (c.drop (j+1)):=by grind[abm]
   have I:(c.set i (c.getD j .bad)).drop (j+1)=c.drop (j+1):=by grind[List.drop_set_of_lt]
   obtain⟨o,t,z,J⟩:=O (i+1) (j+1) (c.set i (c.getD j .bad)) (by simp;omega) (by omega) (by simpa using H);rw[I]at t J;refine⟨o,?_,by simpa using z,?_⟩
   ·rw[aal (x1:=((),(),((i+1:Nat):Int),((j+1:Nat):Int),c.set i (c.getD j .bad))) (by simp only[Y5,S108_c110_6,decL j _ m,Ad,aaa,Ah m,Ah (show i<c.length by omega),Ae,bhb,Aa,M,Aq,An,Ad,aao j (by omega),aao i (by omega)]),t,G,Al,show i+1+(abm (c.drop (j+1))).length=i+((abm (c.drop (j+1))).length+1) by omega]
   grind[List.length_cons,abm,List.take_add_one,List.take_set_of_le,List.getElem?_set_self,List.append_assoc]
theorem amr{l:List PV}(H:l.length<=1048576):F68 l=some (abm l):=by
 unfold F68 F109_v2 F109_v1;rw[Ah (show l.length<=accMax by unfold accMax;omega),Ad,Aa];unfold F108_c110;dsimp only;rw[keepI H,Aa];dsimp only;unfold idxI;cases o:fstI (λi=>!amp (l.getD i .bad)) 0 l.length with
 |none=>
  have Z:=a8i o;have e:abm l=l:=List.filter_eq_self.2 λx z=>by obtain⟨i,G,rfl⟩:=List.getElem_of_mem z;grind
  rw[e];rfl
 |some i=>
  obtain⟨-,G,Y⟩:=aea o;rw[Nat.zero_add]at G;have I:∀x,x∈l.take i->amp x=true:=λx z=>by
   obtain⟨j,X,rfl⟩:=List.getElem_of_mem z;have t:j<i:=by grind
   cases hq:amp (l.take i)[j]with
   |true=>rfl
   |false=>have M:=bc9 o j (Nat.zero_le _) t;grind
  have W:abm l=l.take i++abm (l.drop (i+1)):=by grind[List.take_append_drop,abm,List.filter_eq_self,List.drop_eq_getElem_cons,aa9,amp]
  obtain⟨U,J,V,M⟩:=bcv (l.length-(i+1)) i (i+1) l (by omega) (by omega) H;have O:i+(abm (l.drop (i+1))).length<l.length:=by grind[av6,List.length_drop]
  have m:aad 0 (Y5 S108_c110_6) ((),(),(i:Int),((i+1:Nat):Int),l)=_:=J;simp only[Option.elim];rw[show((i:Int)==-1)=false by grind,Af,aao i (by omega),m,Aa];grind
theorem ang{l:List PV}(h:l.length<=1048576):decide (l.length<=accMax)=true:=Ah (by unfold accMax;omega)
theorem ofE1{s z:PV}{L a b o t G:List PV}{n j:Int}{nm:Bn}{m:PV}(J:OkMsg m):
 aad 0 (Y10 S47_11) ((),(),(),(),L,n,j,((m.fld 1).asList.length:Int),(0:Int),s,z,o,t,G,nm,(),a,b,abm (m.fld 4).asList,(m.fld 1).asList)=some ((),(),(),(),L,n,j,s,z,o,t,G,nm,(),a,b,abm (m.fld 4).asList,(m.fld 1).asList.map ofF):=
 aed (step:=(Y10 S47_11)) (λi c=>((),(),(),(),L,n,j,((m.fld 1).asList.length:Int),((i:Nat):Int),s,z,o,t,G,nm,(),a,b,abm (m.fld 4).asList,c)) (m.fld 1).asList ofF (λc=>((),(),(),(),L,n,j,s,z,o,t,G,nm,(),a,b,abm (m.fld 4).asList,c)) (λi c I H M=>by
  have U:=J.fields;have O:=(J.field _ (aaw I)).notes;simp only[Y10,S47_11,decL i _ I,Ad,aaa,Ah H,Ae,M,amr O,Aa,aao i (by omega)];rfl) (λc H=>by
  simp only[Y10,S47_11,decN,Af])
theorem ofE2{s z:PV}{L a t G H:List PV}{n j:Int}{nm:Bn}{m:PV}{o:Bool}(M:OkEnum m):
 aad 0 (Y10 S47_22) ((),(),(),(),L,n,j,((m.fld 2).asList.length:Int),(0:Int),s,z,t,G,H,nm,o,(),a,abm (m.fld 4).asList,(m.fld 2).asList)=some ((),(),(),(),L,n,j,s,z,t,G,H,nm,o,(),a,abm (m.fld 4).asList,(m.fld 2).asList.map ofI):=
 aed (step:=(Y10 S47_22)) (λi c=>((),(),(),(),L,n,j,((m.fld 2).asList.length:Int),((i:Nat):Int),s,z,t,G,H,nm,o,(),a,abm (m.fld 4).asList,c)) (m.fld 2).asList ofI (λc=>((),(),(),(),L,n,j,s,z,t,G,H,nm,o,(),a,abm (m.fld 4).asList,c)) (λi c J I O=>by
  have V:=M.items;have U:=(M.item _ (aaw J)).notes;simp only[Y10,S47_22,decL i _ J,Ad,aaa,Ah I,Ae,O,amr U,Aa,aao i (by omega)];rfl) (λc I=>by
  simp only[Y10,S47_22,decN,Af])
theorem ofE3{s z:PV}{L o t G:List PV}{n j:Int}{nm:Bn}{m:PV}(J:OkSvc m):
 aad 0 (Y9 S47_33) ((),(),(),L,n,j,((m.fld 1).asList.length:Int),(0:Int),s,z,o,t,G,nm,(),abm (m.fld 2).asList,(m.fld 1).asList)=some ((),(),(),L,n,j,s,z,o,t,G,nm,(),abm (m.fld 2).asList,(m.fld 1).asList.map ofT):=
 aed (step:=(Y9 S47_33)) (λi c=>((),(),(),L,n,j,((m.fld 1).asList.length:Int),((i:Nat):Int),s,z,o,t,G,nm,(),abm (m.fld 2).asList,c)) (m.fld 1).asList ofT (λc=>((),(),(),L,n,j,s,z,o,t,G,nm,(),abm (m.fld 2).asList,c)) (λi c I H M=>by
  have U:=J.meths;have O:=(J.meth _ (aaw I)).notes;simp only[Y9,S47_33,decL i _ I,Ad,aaa,Ah H,Ae,M,amr O,Aa,aao i (by omega)];rfl) (λc H=>by
  simp only[Y9,S47_33,decN,Af])
theorem bjw{s:PV}{b:Bool}(h:SOk s)(W:F55 s=some b):F47 s=some (bif b then ofS s else s):=by
 have l0:=h.len.m;have l1:=h.len.e;have l2:=h.len.v;unfold F47;rw[am6 h,W,Aa];cases b with
 |false=>rfl
 |true=>
  have O:=h.msg;have U:=h.enum;have V:=h.svc;unfold ofS;have J:aad 0 (Y11 S47_6) ((),(),(),(s.fld 0).asList,((s.fld 0).asList.length:Int),(0:Int),s,zSch,[],[],[])=_:=abe (step:=(Y11 S47_6)) (λi c=>((),(),(),(s.fld 0).asList,((s.fld 0).asList.length:Int),((i:Nat):Int),s,zSch,c,[],[])) (s.fld 0).asList ofM (λc=>((),(),(),s,zSch,c,[],[])) (by omega) (λi c t z=>by
   have o:=O _ (aaw t);have G:=o.fields;have I:=o.spans;have X:=o.gone;have H:=o.notes;simp only[Y11,S47_6,decL i _ t,Ad,aaa,Ah t,Ae,amr H,F69_v2,F69_v1,F70_v2,F70_v1,F71_v2,F71_v1,ang G,ang I,ang X,Aa,ofE1 o,aao i (by omega),ac7 z];rfl) (λc=>by
   simp only[Y11,S47_6,decN,Af])
  have Y:∀M:List PV,aad 0 (Y11 S47_18) ((),(),(),(s.fld 1).asList,((s.fld 1).asList.length:Int),(0:Int),s,zSch,M,[],[])=some ((),(),(),s,zSch,M,(s.fld 1).asList.map ofE,[]):=λM=>abe (step:=(Y11 S47_18)) (λi c=>((),(),(),(s.fld 1).asList,((s.fld 1).asList.length:Int),((i:Nat):Int),s,zSch,M,c,[])) (s.fld 1).asList ofE (λc=>((),(),(),s,zSch,M,c,[])) (by omega) (λi c t z=>by
   have o:=U _ (aaw t);have G:=o.items;have I:=o.spans;have H:=o.notes;simp only[Y11,S47_18,decL i _ t,Ad,aaa,Ah t,Ae,amr H,F72_v2,F72_v1,F70_v2,F70_v1,ang G,ang I,Aa,ofE2 o,aao i (by omega),ac7 z];rfl) (λc=>by
   simp only[Y11,S47_18,decN,Af])
  have Z:∀M E:List PV,aad 0 (Y10 S47_29) ((),(),(s.fld 2).asList,((s.fld 2).asList.length:Int),(0:Int),s,zSch,M,E,[])=some ((),(),s,zSch,M,E,(s.fld 2).asList.map ofV):=λM E=>abe (step:=(Y10 S47_29)) (λi c=>((),(),(s.fld 2).asList,((s.fld 2).asList.length:Int),((i:Nat):Int),s,zSch,M,E,c)) (s.fld 2).asList ofV (λc=>((),(),s,zSch,M,E,c)) (by omega) (λi c t z=>by
   have o:=V _ (aaw t);have G:=o.meths;have H:=o.notes;simp only[Y10,S47_29,decL i _ t,Ad,aaa,Ah t,Ae,amr H,F73_v2,F73_v1,ang G,Aa,ofE3 o,aao i (by omega),ac7 z];rfl) (λc=>by
   simp only[Y10,S47_29,decN,Af])
  simp only[An,Af,Ad];rw[show(PV.agg [(PV.slice []),(PV.slice []),(PV.slice [])])=zSch from rfl,J,Aa];grind
end Go.Ab
namespace Go.Ab
open Go
set_option maxRecDepth 100000
theorem azm{s:PV}{nm:Bn}{n:Int}(M:(s.fld 1).asList.length<=1048576)(J:∀e,e∈(s.fld 1).asList->(e.fld 2).asList.length<=1048576):F184 s nm n=some (auf (s.fld 1).asList nm n):=by
 have H:aad 0 ((Y6 S184_3)) (nm,n,(s.fld 1).asList,((s.fld 1).asList.length:Int),(0:Int),s)=some (((s.fld 1).asList.findSome? (aki nm n)).elim (.inr s) λx=>.inl ((x.fld 0).asStr,s)):=by
  have h:=ae9 (step:=(Y6 S184_3)) (λi=>(nm,n,(s.fld 1).asList,((s.fld 1).asList.length:Int),((i:Nat):Int),s)) (s.fld 1).asList (aki nm n) (λx=>.inl ((x.fld 0).asStr,s)) (.inr s) (λi m=>by
   have G:=aaw m;have o:=J _ G;generalize I:(s.fld 1).asList.getD i .bad=e at G o;have q:aad 0 ((Y11 S184_6)) (nm,n,(),(s.fld 1).asList,((s.fld 1).asList.length:Int),((i:Nat):Int),(e.fld 2).asList,((e.fld 2).asList.length:Int),(0:Int),s,e)=some ((aki nm n e).elim (.inr (nm,n,(s.fld 1).asList,((s.fld 1).asList.length:Int),((i:Nat):Int),s,e)) λx=>.inl ((x.fld 0).asStr,s,e)):=by
    have t:=ae9 (step:=(Y11 S184_6)) (λk=>(nm,n,(),(s.fld 1).asList,((s.fld 1).asList.length:Int),((i:Nat):Int),(e.fld 2).asList,((e.fld 2).asList.length:Int),((k:Nat):Int),s,e)) (e.fld 2).asList (λx=>bif (bif (e.fld 0).asStr==nm then a8z n x else false)then some x else none) (λx=>.inl ((x.fld 0).asStr,s,e)) (.inr (nm,n,(s.fld 1).asList,((s.fld 1).asList.length:Int),((i:Nat):Int),s,e)) (λk z=>by
     simp only[Y11,S184_6,aaa,Ah z,Ad,Ae,decL k _ z,aao k (by omega),a8z];grind) (by
     simp only[Y11,S184_6,decN,Af]) _ 0 (Nat.zero_add _)
    rw[Ar]at t;refine t.trans ?_;unfold aki;grind
   simp only[Y6,S184_3,decL i _ m,Ad,aaa,Ah m,Ae,I];rw[q,Aa];cases aki nm n e with
   |some x=>rfl
   |none=>grind[Option.elim,abg,aao]) (by
   simp only[Y6,S184_3,decN,Af]) _ 0 (Nat.zero_add _)
  rw[Ar]at h;exact h
 unfold F184 auf;dsimp only;rw[H,Aa];cases(s.fld 1).asList.findSome? (aki nm n)<;>rfl
theorem a6m{t:Bn}(h:t.length<=100000000):F114 t=some (([46]:Bn)++t):=by
 have e:(([]:Bn).intercalate ([PV.str ([46]:Bn),PV.str t].map PV.asStr))=([46]:Bn)++t:=by simp[List.intercalate,PV.asStr]
 unfold F114 F185 amc;rw[e];have m:Nat.ble [PV.str ([46]:Bn),PV.str t].length 140737488355328=true:=rfl;grind[Nat.ble,Nat.ble_eq]
theorem bkh{s f:PV}(m:SOk s)(t:OkFld f):F113 s f=some (apg (s.fld 1).asList f):=by have G:=t.type;have z:F184 s ((f.fld 4).fld 1).asStr ((f.fld 7).fld 1).asInt=_:=azm m.len.e (λe o=>(m.enum e o).items);grind[F114,a6m,F113,apg,fk9,fk10,bc4,bc7,asInt,asBool]
theorem bde{c:List PV}{i:Nat}{a:PV}(h:i<c.length):(c.set i a).getD i .bad=a:=by grind
theorem biz{s z:PV}{L o t G H I J M:List PV}{n j:Int}{nm O U:Bn}{m:PV}(Z:SOk s)(X:OkMsg m):
 aad 0 (Y11 S75_8) ((),(),(),(),L,n,j,(),((m.fld 1).asList.length:Int),(0:Int),s,z,O,U,H,I,J,M,nm,(),o,t,G,(m.fld 1).asList)=some ((),(),(),(),L,n,j,s,z,O,U,H,I,J,M,nm,(),o,t,G,(m.fld 1).asList.map (apg (s.fld 1).asList)):=
 aed (step:=(Y11 S75_8)) (λi c=>((),(),(),(),L,n,j,(),((m.fld 1).asList.length:Int),((i:Nat):Int),s,z,O,U,H,I,J,M,nm,(),o,t,G,c)) (m.fld 1).asList (apg (s.fld 1).asList) (λc=>((),(),(),(),L,n,j,s,z,O,U,H,I,J,M,nm,(),o,t,G,c)) (λi c W V Y=>by
  have hl:=X.fields;simp only[Y11,S75_8,decL i _ W,Ad,aaa,Ah V,Ae,Y,bkh Z (X.field _ (aaw W)),Aa,aao i (by omega)]) (λc V=>by
  simp only[Y11,S75_8,decN,Af])
theorem bi0{s z:PV}{L o t G H I:List PV}{n j:Int}{nm J M:Bn}{m:PV}(V:OkSvc m):
 aad 0 (Y9 S75_19) ((),(),(),L,n,j,((m.fld 1).asList.length:Int),(0:Int),s,z,J,M,t,G,H,I,nm,(),o,(m.fld 1).asList)=some ((),(),(),L,n,j,s,z,J,M,t,G,H,I,nm,(),o,(m.fld 1).asList.map awp):=
 aed (step:=(Y9 S75_19)) (λi c=>((),(),(),L,n,j,((m.fld 1).asList.length:Int),((i:Nat):Int),s,z,J,M,t,G,H,I,nm,(),o,c)) (m.fld 1).asList awp (λc=>((),(),(),L,n,j,s,z,J,M,t,G,H,I,nm,(),o,c)) (λi c U O X=>by
  have hl:=V.meths;have W:=V.meth _ (aaw U);have Y:=W.inn;have Z:=W.out;simp only[Y9,S75_19,decL i _ U,Ad,aaa,Ah O,Ae,X,a6m (show(((m.fld 1).asList.getD i .bad).fld 1).asStr.length<=100000000 by omega),a6m (show(((m.fld 1).asList.getD i .bad).fld 2).asStr.length<=100000000 by omega),Aa,bde O,List.set_set,aao i (by omega)];rfl) (λc O=>by
  simp only[Y9,S75_19,decN,Af])
theorem bgw{s:PV}(h:SOk s):F75 s=some (apf s):=by
 have J:=h.len.m;have O:=h.len.e;have U:=h.len.v;have H:aad 0 (Y7 S75_4) ((),(),(),(s.fld 0).asList,((s.fld 0).asList.length:Int),(0:Int),s,zFil,([]:Bn),([]:Bn),[],[],(s.fld 1).asList,[])=_:=abe (step:=(Y7 S75_4)) (λi c=>((),(),(),(s.fld 0).asList,((s.fld 0).asList.length:Int),((i:Nat):Int),s,zFil,([]:Bn),([]:Bn),[],c,(s.fld 1).asList,[])) (s.fld 0).asList (a8b (s.fld 1).asList) (λc=>((),(),(),s,zFil,([]:Bn),([]:Bn),[],c,(s.fld 1).asList,[])) (by omega) (λi c o z=>by
  have t:=h.msg _ (aaw o);have G:=t.fields;simp only[Y7,S75_4,decL i _ o,Ad,aaa,Ah o,Ae,F69_v2,F69_v1,ang G,biz h t,Aa,aao i (by omega),ac7 z];rfl) (λc=>by
  simp only[Y7,S75_4,decN,Af])
 have I:∀M:List PV,aad 0 (Y6 S75_15) ((),(),(s.fld 2).asList,((s.fld 2).asList.length:Int),(0:Int),s,zFil,([]:Bn),([]:Bn),[],M,(s.fld 1).asList,[])=some ((),(),s,zFil,([]:Bn),([]:Bn),[],M,(s.fld 1).asList,(s.fld 2).asList.map azb):=λM=>abe (step:=(Y6 S75_15)) (λi c=>((),(),(s.fld 2).asList,((s.fld 2).asList.length:Int),((i:Nat):Int),s,zFil,([]:Bn),([]:Bn),[],M,(s.fld 1).asList,c)) (s.fld 2).asList azb (λc=>((),(),s,zFil,([]:Bn),([]:Bn),[],M,(s.fld 1).asList,c)) (by omega) (λi c o z=>by
  have t:=h.svc _ (aaw o);have G:=t.meths;simp only[Y6,S75_15,decL i _ o,Ad,aaa,Ah o,Ae,F73_v2,F73_v1,ang G,bi0 t,Aa,aao i (by omega),ac7 z];rfl) (λc=>by
  simp only[Y6,S75_15,decN,Af])
 unfold F75 apf;dsimp only;rw[show(PV.agg [(PV.str ([]:Bn)),(PV.str ([]:Bn)),(PV.slice []),(PV.slice []),(PV.slice []),(PV.slice [])])=zFil from rfl,H,Aa];grind
theorem a1f{s:PV}{b:Bool}(h:SOk s)(o:aah s<=1048576)(m:F55 s=some b):F48 s=some (bif b then canT s else[]):=by
 unfold F48;rw[am6 h,m,Aa];cases b with
 |false=>rfl
 |true=>simp only[An,Af];rw[bjw h m,Aa,Ad,bgw (bab h),Aa,bef _ (awq h o),Aa];rfl
theorem bi3{t:Bn}(h:t.length<=1000000):F65 t=F82 t:=by
 have q:∀(k i:Nat)(a:Int),i+k=t.length->aan (Y4 S65_4) (t,a,(t.length:Int),(i:Int))=aan (Y3 S82_4) (t,a,(i:Int)):=by
  intro k;induction k with
  |zero=>
   intro i a o;obtain rfl:i=t.length:=by omega
   rw[aae (y:=a) (by simp only[Y4,S65_4,decN,Af]),aae (y:=a) (by simp only[Y3,S82_4,decN,Af])]
  |succ k z=>
   intro i a o;have m:i<t.length:=by omega
   rw[aal (x1:=(t,IntKind.wrap .u64 ((aen .xor .u64 a (IntKind.wrap .u64 ((t.getD i 0).toNat:Int)))*(1099511628211:Int)),(t.length:Int),((i+1:Nat):Int))) (by
    simp only[Y4,S65_4,decL i _ m,Ad,aaa,Ah m,Ae,aao i (by omega)]),aal (x1:=(t,IntKind.wrap .u64 ((aen .xor .u64 a (IntKind.wrap .u64 ((t.getD i 0).toNat:Int)))*(1099511628211:Int)),((i+1:Nat):Int))) (by
    simp only[Y3,S82_4,decL i _ m,Ad,aaa,Ah m,Ae,aao i (by omega)])]
   exact z (i+1) _ (by omega)
 have q0:aad 0 (Y4 S65_4) (t,(14695981039346656037:Int),(t.length:Int),(0:Int))=aad 0 (Y3 S82_4) (t,(14695981039346656037:Int),(0:Int)):=q t.length 0 _ (Nat.zero_add _);grind[F65,F82]
theorem bbn{s:PV}(h:SOk s)(m:aah s<=1048576):F48 s=F58 s:=by grind[amb,a1f,af6]
theorem a5h{s:PV}(h:SOk s)(m:aah s<=1048576):F44 s=F54 s:=by
 obtain⟨b,o⟩:=amb h m;unfold F44 F54;rw[a1f h m o,af6 h m o,Aa,Aa,bi3];cases b with
 |false=>simp
 |true=>have:=a1a s;grind
end Go.Ab
