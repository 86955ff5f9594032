/- Annotations: what Find, Flag and Same compute, in the program and in the specification. -/
import Derived.Test.YtjogoleiodbfdaaGreatDoorPComparesT
set_option linter.unusedVariables false
set_option linter.unusedSimpArgs false
set_option linter.unnecessarySimpa false
namespace Go.Ab
open Go
def ac1 (p:PV->Bool):List PV->Nat->Int
 | [],_=>-1
 | x::r,i=>if p x then (i:Int) else ac1 p r (i+1)
theorem arx (p:PV->Bool):∀ (r:List PV) (i:Nat),(ac1 p r i=-1/\∀ x,x∈r->p x=false)\/∃ j:Nat,ac1 p r i=((i+j:Nat):Int)/\j<r.length/\p (r.getD j .bad)=true:=by
 intro r;induction r with
 | nil=>intro i;exact .inl ⟨rfl,λx M=>by cases M⟩
 | cons x r O=>
  intro i;unfold ac1;by_cases h:p x=true
  ·rw [if_pos h];exact .inr ⟨0,rfl,by simp,h⟩
  ·rw [if_neg h];rcases O (i+1) with ⟨o,I⟩ | ⟨j,o,I,J⟩
   ·refine .inl ⟨o,λy H=>?_⟩;rcases Bn.1 H with rfl | H
    ·simpa using h
    ·exact I y H
   ·exact .inr ⟨j+1,by rw [o];congr 1;omega,by simp;omega,by simpa using J⟩
def adt (h:Bt) (n:PV):Bool:=aeu n==h
def idxN (l:List PV) (h:Bt):Int:=ac1 (adt h) l 0
theorem axr {p:PV->Bool}{l:List PV}:ac1 p l 0<0\/∃ j:Nat,ac1 p l 0=(j:Int)/\j<l.length/\p (l.getD j .bad)=true:=by
 rcases arx p l 0 with ⟨h,_⟩ | ⟨j,o,H,I⟩
 ·exact .inl (by rw [h];decide)
 ·exact .inr ⟨j,by simpa using o,H,I⟩
theorem axt (l:List PV) (h:Bt) (O:l.length<=1048576):∀ (m i:Nat),l.length-i<=m->i<=l.length->
 aa9 (S138_3step 0) (l,(),(l.length:Int),(i:Int),h)=some (bif decide (ac1 (adt h) (l.drop i) i=-1) then .inr h else .inl (ac1 (adt h) (l.drop i) i,h)):=by
 intro m
 induction m with
 | zero=>
  intro i J I
  have o:¬i<l.length:=by omega
  rw [A7 (by omega)]
  exact aah (by simp only [S138_3step,S138_3,ac0,o,decide_false,Ah];rfl)
 | succ m M=>
  intro i J I
  by_cases o:i<l.length
  ·rw [aa8 o .bad,ac1];have e:F139 0 (l.getD i .bad) () h=some (adt h (l.getD i .bad),h):=rfl;by_cases H:adt h (l.getD i .bad)=true
   ·rw [if_pos H,An (by omega)];refine aah ?_;simp only [S138_3step,S138_3,ac0,aab,o,decide_true,Af,Ai,e,Aa,H];rfl
   ·rw [if_neg H,aaq (x1:=(l,(),(l.length:Int),((i+1:Nat):Int),h)),M (i+1) (by omega) (by omega)];rw [Bool.not_eq_true] at H;simp only [S138_3step,S138_3,ac0,aab,o,decide_true,Af,Ai,e,Aa,H,Ah,aof (i:=i) (by omega)]
  ·rw [A7 (by omega)];exact aah (by simp only [S138_3step,S138_3,ac0,o,decide_false,Ah];rfl)
theorem a4o (l:List PV) (o:Bt) (I:l.length<=1048576):F107 0 l o=some (idxN l o):=by
 have h:=axt l o I l.length 0 (by omega) (by omega);unfold F107 F138;rw [adq,show (0:Int)=((0:Nat):Int) from rfl,h,Ap];unfold idxN;by_cases H:ac1 (adt o) l 0=-1
 ·rw [Ag H,H];rfl
 ·rw [An H];rfl
theorem aqi (l:List PV) (h:Bt) (O:l.length<=1048576):∀ (m i:Nat),l.length-i<=m->i<=l.length->
 aa9 (S145_3step 0) (l,h,(i:Int))=some (bif decide (ac1 (adt h) (l.drop i) i=-1) then .inr () else .inl (ac1 (adt h) (l.drop i) i)):=by
 intro m
 induction m with
 | zero=>
  intro i J I
  have o:¬i<l.length:=by omega
  rw [A7 (by omega)]
  exact aah (by simp only [S145_3step,S145_3,ac0,o,decide_false,Ah];rfl)
 | succ m M=>
  intro i J I
  by_cases o:i<l.length
  ·rw [aa8 o .bad,ac1];have e:(((l.getD i .bad).fld 0).asStr==h)=adt h (l.getD i .bad):=rfl;by_cases H:adt h (l.getD i .bad)=true
   ·rw [if_pos H,An (by omega)];refine aah ?_;simp only [S145_3step,S145_3,ac0,aab,o,decide_true,Af,Ai,e,H];rfl
   ·rw [if_neg H,aaq (x1:=(l,h,((i+1:Nat):Int))),M (i+1) (by omega) (by omega)];rw [Bool.not_eq_true] at H;simp only [S145_3step,S145_3,ac0,aab,o,decide_true,Af,Ai,e,H,Ah,aof (i:=i) (by omega)]
  ·rw [A7 (by omega)];exact aah (by simp only [S145_3step,S145_3,ac0,o,decide_false,Ah];rfl)
theorem aus (l:List PV) (o:Bt) (I:l.length<=1048576):F145 0 l o=some (idxN l o):=by
 have h:=aqi l o I l.length 0 (by omega) (by omega);unfold F145;rw [adq,show (0:Int)=((0:Nat):Int) from rfl,h,Ap];unfold idxN;by_cases H:ac1 (adt o) l 0=-1
 ·rw [Ag H,H];rfl
 ·rw [An H];rfl
def a9q:PV:=PV.agg [(PV.int (0:Int)),(PV.int (0:Int)),(PV.str ([]:Bt)),(PV.slice []),(PV.slice []),(PV.slice []),(PV.slice [])]
def atz (l:List PV) (h:Bt):PV×Bool:=bif decide (idxN l h<0) then (a9q,false) else (nVal (l.getD (idxN l h).toNat .bad),true)
theorem a0c (l:List PV) (o:Bt):decide (idxN l o<0)=false->aaa (idxN l o) l.length=true:=by
 intro h;rcases axr (p:=adt o) (l:=l) with H | ⟨j,H,I,_⟩
 ·rw [show idxN l o=ac1 (adt o) l 0 from rfl,Ag H] at h;cases h
 ·rw [show idxN l o=(j:Int) from H,aab,Ag I]
theorem a8c (l:List PV) (o:Bt) (H:l.length<=1048576):F63 0 l o=some (atz l o):=by
 unfold F63 atz;rw [a4o l o H,Aa];cases h:decide (idxN l o<0) with
 | true=>rfl
 | false=>rw [a0c l o h];rfl
theorem aoz (l:List PV) (o:Bt) (H:l.length<=1048576):F113 0 l o=some (atz l o):=by
 unfold F113 atz;rw [aus l o H,Aa];cases h:decide (idxN l o<0) with
 | true=>rfl
 | false=>rw [a0c l o h];rfl
theorem a8d (l:List PV) (h:Bt) (o:l.length<=1048576):F25 0 l h=F78 0 l h:=by unfold F25 F78;rw [a8c l h o,aoz l h o]
end Go.Ab
namespace Go.Ab
open Go
set_option maxRecDepth 100000
theorem ako {J:Type} [BEq J] {c:J->J->Int}{key:PV->J}{both:PV->PV->List PV}{gone new:PV->PV}{A B:List PV}{e:PV} (h:e∈mrgF c key both gone new A B):(∃ x,x∈A/\∃ y,y∈B/\e∈both x y)\/(∃ x,x∈A/\e=gone x)\/∃ y,y∈B/\e=new y:=by
 unfold mrgF at h;obtain ⟨k,_,o⟩:=List.mem_flatMap.1 h;unfold blk at o;cases I:fst key k A with
 | some x=>
  rw [I] at o;cases H:fst key k B with
  | some y=>rw [H] at o;exact .inl ⟨x,aaz I,y,aaz H,o⟩
  | none=>rw [H] at o;exact .inr (.inl ⟨x,aaz I,List.mem_singleton.1 o⟩)
 | none=>
  rw [I] at o;cases H:fst key k B with
  | some y=>rw [H] at o;exact .inr (.inr ⟨y,aaz H,List.mem_singleton.1 o⟩)
  | none=>rw [H] at o;cases o
structure There (a e:PV):Prop where
 f:chK e=3->∃ m,m∈(a.fld 0).asList/\aac m=chD e/\∃ f,f∈(m.fld 1).asList/\kNum f=chN e
 i:chK e=14->∃ m,m∈(a.fld 1).asList/\aac m=chD e/\∃ f,f∈(m.fld 2).asList/\abc f=chN e
 m:chK e=19->∃ m,m∈(a.fld 2).asList/\aac m=chD e/\∃ f,f∈(m.fld 1).asList/\aac f=chO e
theorem There.of {a e:PV} (h:chK e≠3) (o:chK e≠14) (H:chK e≠19):There a e:=⟨λq=>absurd q h,λq=>absurd q o,λq=>absurd q H⟩
theorem There.chg {a:PV}{k n:Int}{d o w:Bt} (h:k≠3) (H:k≠14) (I:k≠19):There a (chg k d n o w):=.of h H I
theorem aox {a b e:PV} (h:e∈refC a b):There a e:=by
 unfold refC at h;rcases Bo.1 h with h | h
 ·rcases ako h with ⟨x,H,y,J,h⟩ | ⟨x,H,rfl⟩ | ⟨y,J,rfl⟩
  ·rcases ako h with ⟨f,o,g,I,h⟩ | ⟨f,o,rfl⟩ | ⟨g,I,rfl⟩
   ·have:=abo (P:=There a) (abv (.chg (by decide) (by decide) (by decide))) (abo (abv (.chg (by decide) (by decide) (by decide))) (abo (abv (.chg (by decide) (by decide) (by decide))) (abo (abv (.chg (by decide) (by decide) (by decide))) (abo (abv (.chg (by decide) (by decide) (by decide))) (abv (.chg (by decide) (by decide) (by decide))))))) e h;exact this
   ·exact ⟨λ_=>⟨x,H,rfl,f,o,rfl⟩,λq=>absurd q (by show (3:Int)≠14;decide),λq=>absurd q (by show (3:Int)≠19;decide)⟩
   ·exact .chg (by decide) (by decide) (by decide)
  ·exact .chg (by decide) (by decide) (by decide)
  ·exact .chg (by decide) (by decide) (by decide)
 rcases Bo.1 h with h | h
 ·rcases ako h with ⟨x,H,y,J,h⟩ | ⟨x,H,rfl⟩ | ⟨y,J,rfl⟩
  ·rcases Bo.1 h with h | h
   ·exact abv (P:=There a) (.chg (by decide) (by decide) (by decide)) e h
   rcases ako h with ⟨f,o,g,I,h⟩ | ⟨f,o,rfl⟩ | ⟨g,I,rfl⟩
   ·exact abv (P:=There a) (.chg (by decide) (by decide) (by decide)) e h
   ·exact ⟨λq=>absurd q (by show (14:Int)≠3;decide),λ_=>⟨x,H,rfl,f,o,rfl⟩,λq=>absurd q (by show (14:Int)≠19;decide)⟩
   ·exact .chg (by decide) (by decide) (by decide)
  ·exact .chg (by decide) (by decide) (by decide)
  ·exact .chg (by decide) (by decide) (by decide)
 ·rcases ako h with ⟨x,H,y,J,h⟩ | ⟨x,H,rfl⟩ | ⟨y,J,rfl⟩
  ·rcases ako h with ⟨f,o,g,I,h⟩ | ⟨f,o,rfl⟩ | ⟨g,I,rfl⟩
   ·exact abo (P:=There a) (abv (.chg (by decide) (by decide) (by decide))) (abv (.chg (by decide) (by decide) (by decide))) e h
   ·exact ⟨λq=>absurd q (by show (19:Int)≠3;decide),λq=>absurd q (by show (19:Int)≠14;decide),λ_=>⟨x,H,rfl,f,o,rfl⟩⟩
   ·exact .chg (by decide) (by decide) (by decide)
  ·exact .chg (by decide) (by decide) (by decide)
  ·exact .chg (by decide) (by decide) (by decide)
def depS:Bt:=[100,101,112,114,101,99,97,116,101,100]
def aha (l:List PV):Bool:=bif (bif (atz l depS).2 then (((atz l depS).1.fld 0).asInt==(1:Int)) else false) then (((atz l depS).1.fld 1).asInt==(1:Int)) else false
theorem ank {l:List PV} (h:l.length<=1048576):F78 0 l depS=some (aha l):=by unfold F78;rw [aoz l depS h];rfl
theorem ahy {l:List PV} (h:l.length<=1048576):F25 0 l depS=some (aha l):=(a8d l depS h).trans (ank h)
theorem akp {l:List PV} (h:l.length<=1048576):F38 0 l=some (aha l):=by show (F78 0 l depS).bind _=_;rw [ank h];rfl
theorem aci {h:Type} [BEq h] [LawfulBEq h] {key:PV->h}{l:List PV}{z x:PV}{k:h} (u:(l.map key).Nodup) (H:x∈l) (o:key x=k):dmem key k l z=(x,true):=by subst o;unfold dmem;rw [av7 u H]
theorem amj {o:Type} [BEq o] {P:PV->Prop}{key:PV->o}{l:List PV}{z:PV}{k:o} (h:∀ x,x∈l->P x) (I:P z):P (dmem key k l z).1:=by
 unfold dmem;cases H:fst key k l with
 | some x=>exact h x (aaz H)
 | none=>exact I
theorem a8f {c:UInt8} (hc:alnB c=false) (hl:letB c=false) (O:c≠46) {s:Bt} (h:aiv s=true):∀ b,b∈s->b≠c:=by
 have M:∀ p,adz p=true->∀ b,b∈p->b≠c:=by
  intro p J b o e;subst e;match p,J,o with
  | x::r,J,o=>
   simp only [adz,Aj,Bs] at J;rcases Bn.1 o with rfl | o
   ·rw [J.1.2] at hl;cases hl
   ·rw [J.2 b o] at hc;cases hc
 have Z:∀ (s:Bt) (b:UInt8),b∈s->b=46\/∃ p,p∈aa2 46 s/\b∈p:=by
  intro s;induction s with
  | nil=>intro b o;cases o
  | cons x r ih=>
   intro b o;unfold aa2;cases hx:(x==46) with
   | true=>
    rcases Bn.1 o with rfl | o
    ·exact .inl (eq_of_beq hx)
    ·rcases ih b o with h | ⟨p,H,I⟩
     ·exact .inl h
     ·exact .inr ⟨p,List.mem_cons_of_mem _ H,I⟩
   | false=>
    simp only [Ah];cases hq:aa2 46 r with
    | nil=>exact absurd hq (ahq 46 r)
    | cons q0 q=>
     simp only;rcases Bn.1 o with rfl | o
     ·exact .inr ⟨_,List.mem_cons_self,List.mem_cons_self⟩
     ·rcases ih b o with h | ⟨p,H,I⟩
      ·exact .inl h
      ·rw [hq] at H;rcases Bn.1 H with rfl | H
       ·exact .inr ⟨_,List.mem_cons_self,List.mem_cons_of_mem _ I⟩
       ·exact .inr ⟨p,List.mem_cons_of_mem _ H,I⟩
 intro b o;unfold aiv at h;rw [Aj] at h;rcases Z s b o with rfl | ⟨p,H,I⟩
 ·exact λe=>O e.symm
 ·exact M p (Bs.1 h.2 p H) b I
theorem a7q {c:UInt8}{t:Bt}:∀ {s:Bt},(∀ b,b∈s->b≠c)->Lib.indexByte (s++c::t) c=(s.length:Int):=by
 intro s;induction s with
 | nil=>intro _;simp [Lib.indexByte]
 | cons x r M=>
  intro h;have o:=M (λb J=>h b (List.mem_cons_of_mem _ J));have H:(x==c)=false:=by simpa using h x List.mem_cons_self
  have I:(((r.length:Nat):Int)==-1)=false:=by rw [Bl];omega
  simp only [Bm,Lib.indexByte,H,o,I];simp
theorem baa {c:UInt8}{s t:Bt} (h:∀ b,b∈s->b≠c):Lib.cut (s++[c]++t) [c]=(s,t,true):=by
 have o:Lib.index (s++[c]++t) [c]=(s.length:Int):=by rw [Lib.index_one,Ar];exact a7q h
 unfold Lib.cut;rw [o,if_pos (by omega)];simp
def depW (a e:PV):Bool:=
 if chK e=1 then aha ((dmem aac (chD e) (a.fld 0).asList zMsg).1.fld 4).asList
 else if chK e=3 then aha ((dmem kNum (chN e) ((dmem aac (chD e) (a.fld 0).asList zMsg).1.fld 1).asList zFld).1.fld 8).asList
 else if chK e=11 then aha ((dmem aac (chD e) (a.fld 1).asList acz).1.fld 4).asList
 else if chK e=14 then aha ((dmem abc (chN e) ((dmem aac (chD e) (a.fld 1).asList acz).1.fld 2).asList ak5).1.fld 2).asList
 else if chK e=17 then aha ((dmem aac (chD e) (a.fld 2).asList zSvc).1.fld 2).asList
 else aha ((dmem aac (chO e) ((dmem aac (chD e) (a.fld 2).asList zSvc).1.fld 1).asList agm).1.fld 4).asList
def ahc (k:Int):Bool:=bif k==1 then true else bif k==3 then true else bif k==11 then true else bif k==14 then true else bif k==17 then true else bif k==19 then true else false
theorem aoq {k:Int} (h:ahc k=true):k=1\/k=3\/k=11\/k=14\/k=17\/k=19:=by
 unfold ahc at h;cases o:(k==1) with
 | true=>exact .inl (eq_of_beq o)
 | false=>
 cases H:(k==3) with
 | true=>exact .inr (.inl (eq_of_beq H))
 | false=>
 cases I:(k==11) with
 | true=>exact .inr (.inr (.inl (eq_of_beq I)))
 | false=>
 cases J:(k==14) with
 | true=>exact .inr (.inr (.inr (.inl (eq_of_beq J))))
 | false=>
 cases M:(k==17) with
 | true=>exact .inr (.inr (.inr (.inr (.inl (eq_of_beq M)))))
 | false=>
 cases O:(k==19) with
 | true=>exact .inr (.inr (.inr (.inr (.inr (eq_of_beq O)))))
 | false=>rw [o,H,I,J,M,O] at h;cases h
theorem bag (l:List PV) (n:Bt) (h:l.length<=1048576):F69 0 l () n=some ((dmem aac n l agm).1,(dmem aac n l agm).2,n):=by
 have H:=abj (step:=S69_3step 0) (λi=>((),(),l,(l.length:Int),((i:Nat):Int),n,agm)) l (λx=>aac x==n) (λx=>.inl ((),true,n,x)) (.inr ((),n,agm)) (λi o=>by
  simp only [S69_3step,S69_3,decL i _ o,Af,aab,Ag o,Ai,aae o,F70,Aa,aax i (by omega),aac];cases ((l[i]).fld 0).asStr==n<;>rfl) (by
  simp only [S69_3step,S69_3,decN,Ah]) l.length 0 (by omega)
 rw [Ap] at H;have I:aag 0 (S69_3step 0) ((),(),l,(l.length:Int),(0:Int),n,agm)=_:=H;unfold F69;change (Option.bind (aag 0 (S69_3step 0) ((),(),l,(l.length:Int),(0:Int),n,agm)) _)=_;rw [I];unfold dmem fst;cases l.find? (λx=>aac x==n)<;>rfl
theorem a2x {a e:PV} (o:SOk a) (v:SchemaV a) (ht:There a e) (hk:ahc (chK e)=true) (ho:(chO e).length<=100000000):F11 0 a e=some (depW a e):=by
 have u:=v.uq;have z:([]:List PV).length<=1048576:=Nat.zero_le _;have hm:∀ k,OkMsg (dmem aac k (a.fld 0).asList zMsg).1\/(dmem aac k (a.fld 0).asList zMsg).1=zMsg:=λk=>amj (P:=λx=>OkMsg x\/x=zMsg) (λx hx=>.inl (o.msg x hx)) (.inr rfl);have he:∀ k,OkEnum (dmem aac k (a.fld 1).asList acz).1\/(dmem aac k (a.fld 1).asList acz).1=acz:=λk=>amj (P:=λx=>OkEnum x\/x=acz) (λx hx=>.inl (o.enum x hx)) (.inr rfl);have hs:∀ k,OkSvc (dmem aac k (a.fld 2).asList zSvc).1\/(dmem aac k (a.fld 2).asList zSvc).1=zSvc:=λk=>amj (P:=λx=>OkSvc x\/x=zSvc) (λx hx=>.inl (o.svc x hx)) (.inr rfl);rcases aoq hk with h | h | h | h | h | h
 ·have J:(e.fld 0).asInt=1:=h;have I:F11 0 a e=(F20 0 a (chD e)).bind λO=>(F25 0 ((O.1.fld 4).asList) depS).bind λM=>some M:=by
   unfold F11;rw [J];rfl
  have hl:((dmem aac (chD e) (a.fld 0).asList zMsg).1.fld 4).asList.length<=1048576:=by
   rcases hm (chD e) with q | q
   ·exact q.notes
   ·rw [q];exact z
  rw [I,av3 a _ o.len.m,Aa,ahy hl,Aa];unfold depW;rw [if_pos h]
 ·have J:(e.fld 0).asInt=3:=h;have I:F11 0 a e=(F20 0 a (chD e)).bind λO=>(F26 0 O.1 (chN e)).bind λy5=>(F25 0 ((y5.1.fld 8).asList) depS).bind λM=>some M:=by
   unfold F11;rw [J];rfl
  obtain ⟨m,H,m2,f,f1,f2⟩:=ht.f h;have Z:=aci (z:=zMsg) u.m H m2;have d2:=aci (z:=zFld) (u.ms m H) f1 f2;have om:=o.msg m H;rw [I,av3 a _ o.len.m,Aa,Z];simp only;rw [az4 _ _ om.fields,Aa,d2];simp only;rw [ahy (om.field f f1).notes,Aa];unfold depW;rw [if_neg (by rw [h];decide),if_pos h,Z];simp only;rw [d2]
 ·have J:(e.fld 0).asInt=11:=h;have I:F11 0 a e=(F22 0 a (chD e)).bind λO=>(F25 0 ((O.1.fld 4).asList) depS).bind λM=>some M:=by
   unfold F11;rw [J];rfl
  have hl:((dmem aac (chD e) (a.fld 1).asList acz).1.fld 4).asList.length<=1048576:=by
   rcases he (chD e) with q | q
   ·exact q.notes
   ·rw [q];exact z
  rw [I,av2 a _ o.len.e,Aa,ahy hl,Aa];unfold depW;rw [if_neg (by rw [h];decide),if_neg (by rw [h];decide),if_pos h]
 ·have J:(e.fld 0).asInt=14:=h;have I:F11 0 a e=(F22 0 a (chD e)).bind λO=>(F27 0 O.1 (chN e)).bind λy5=>(F25 0 ((y5.1.fld 2).asList) depS).bind λM=>some M:=by
   unfold F11;rw [J];rfl
  obtain ⟨m,H,m2,f,f1,f2⟩:=ht.i h;have Z:=aci (z:=acz) u.e H m2;have d2:=aci (z:=ak5) (u.es m H) f1 f2;have om:=o.enum m H;rw [I,av2 a _ o.len.e,Aa,Z];simp only;rw [az5 _ _ om.items,Aa,d2];simp only;rw [ahy (om.item f f1).notes,Aa];unfold depW;rw [if_neg (by rw [h];decide),if_neg (by rw [h];decide),if_neg (by rw [h];decide),if_pos h,Z];simp only;rw [d2]
 ·have J:(e.fld 0).asInt=17:=h;have I:F11 0 a e=(F23 0 a (chD e)).bind λO=>(F25 0 ((O.1.fld 2).asList) depS).bind λM=>some M:=by
   unfold F11;rw [J];rfl
  have hl:((dmem aac (chD e) (a.fld 2).asList zSvc).1.fld 2).asList.length<=1048576:=by
   rcases hs (chD e) with q | q
   ·exact q.notes
   ·rw [q];exact z
  rw [I,av4 a _ o.len.v,Aa,ahy hl,Aa];unfold depW;rw [if_neg (by rw [h];decide),if_neg (by rw [h];decide),if_neg (by rw [h];decide),if_neg (by rw [h];decide),if_pos h]
 ·have J:(e.fld 0).asInt=19:=h;obtain ⟨m,H,m2,f,f1,f2⟩:=ht.m h;have Z:=aci (z:=zSvc) u.v H m2;have d2:=aci (z:=agm) (u.vs m H) f1 f2;have om:=o.svc m H;have dn:defP (aac m)=true:=by
   obtain ⟨i,hi,q⟩:=List.mem_iff_getElem.1 H;have:=v.svcN i hi;rw [aae hi,q] at this;exact this
  have fn:aiv (chD e)=true:=by rw [m2] at dn;unfold defP at dn;rw [Aj] at dn;exact dn.1
  have hl:=av8 fn;have hc:Lib.cut (chD e++[47]++chO e) [47]=(chD e,chO e,true):=baa (a8f (by decide) (by decide) (by decide) fn);have I:F11 0 a e=bif decide ((chD e).length+([47]:Bt).length<=aao) then bif decide ((chD e++[47]).length+(chO e).length<=aao) then (F28 0 a (chD e++[47]++chO e)).bind λy5=>(F25 0 ((y5.1.fld 4).asList) depS).bind λM=>some M else none else none:=by unfold F11;rw [J];rfl
  have lc:Lcut 0 (chD e++[47]++chO e) [47]=some (chD e,chO e,true):=by unfold Lcut;rw [Ag (by simp only [Ak,Am,Ao];omega),Af,hc]
  have mt:F28 0 a (chD e++[47]++chO e)=some (f,true):=by unfold F28;rw [lc,Aa,av4 a _ o.len.v,Aa,Z];show (F69 0 (m.fld 1).asList () (chO e)).bind _=_;rw [bag _ _ om.meths,Aa,d2]
  have q1:decide ((chD e).length+([47]:Bt).length<=aao)=true:=Ag (by unfold aao;simp only [Am,Ao];omega);have q2:decide ((chD e++[47]).length+(chO e).length<=aao)=true:=Ag (by unfold aao;simp only [Ak,Am,Ao];omega);rw [I,q1,q2,Af,Af,mt,Aa];simp only;rw [ahy (om.meth f f1).notes,Aa];unfold depW;rw [if_neg (by rw [h];decide),if_neg (by rw [h];decide),if_neg (by rw [h];decide),if_neg (by rw [h];decide),if_neg (by rw [h];decide),Z];simp only;rw [d2]
theorem awi {Z τ O:Type}{step:Z->Option (Z⊕τ)} (st:Nat->Z) (xs:List O) (p:O->Bool) (H:Nat->O->τ) (h:τ)
 (M:∀ i (hi:i<xs.length),step (st i)=some (bif p xs[i] then .inr (H i xs[i]) else .inl (st (i+1)))) (o:step (st xs.length)=some (.inr h)):
 ∀ k i,i+k=xs.length->∃ j,aa9 step (st i)=some (match (xs.drop i).find? p with | some x=>H j x | none=>h):=by
 intro k
 induction k with
 | zero=>
  intro i hi
  have:i=xs.length:=by omega
  subst this
  rw [aah o]
  exact ⟨0,by simp⟩
 | succ k ih=>
  intro i hi
  have I:i<xs.length:=by omega
  have J:=M i I
  rw [List.drop_eq_getElem_cons I,List.find?_cons]
  cases hp:p xs[i] with
  | true=>
   rw [hp] at J
   exact ⟨i,by rw [aah J]⟩
  | false=>
   rw [hp] at J
   obtain ⟨j,hj⟩:=ih (i+1) (by omega)
   exact ⟨j,by rw [aaq J];exact hj⟩
theorem a1q (a:PV) (n:Bt) (h:(a.fld 0).asList.length<=1048576):∃ j,F36 0 a n=some ((dmem aac n (a.fld 0).asList zMsg).1,j):=by
 obtain ⟨j,H⟩:=awi (step:=S36_3step 0) (λi=>(n,(),(),((i:Nat):Int),a,zMsg)) (a.fld 0).asList (λx=>aac x==n) (λi x=>.inl ((),((i:Nat):Int),a,x)) (.inr ((),a,zMsg)) (λi o=>by
  simp only [S36_3step,S36_3,decL i _ o,Af,aab,Ag o,Ai,aae o,aax i (by omega),aac];cases ((((a.fld 0).asList)[i]).fld 0).asStr==n<;>rfl) (by
  simp only [S36_3step,S36_3,decN,Ah]) (a.fld 0).asList.length 0 (by omega)
 rw [Ap] at H;have I:aag 0 (S36_3step 0) (n,(),(),(0:Int),a,zMsg)=_:=H;unfold F36;change ∃ j,(Option.bind (aag 0 (S36_3step 0) (n,(),(),(0:Int),a,zMsg)) _)=_;rw [I];unfold dmem fst;cases (a.fld 0).asList.find? (λx=>aac x==n) with
 | none=>exact ⟨_,rfl⟩
 | some x=>exact ⟨_,rfl⟩
theorem ayf (a:PV) (n:Bt) (h:(a.fld 1).asList.length<=1048576):∃ j,F37 0 a n=some ((dmem aac n (a.fld 1).asList acz).1,j):=by
 obtain ⟨j,H⟩:=awi (step:=S37_3step 0) (λi=>(n,(),(),((i:Nat):Int),a,acz)) (a.fld 1).asList (λx=>aac x==n) (λi x=>.inl ((),((i:Nat):Int),a,x)) (.inr ((),a,acz)) (λi o=>by
  simp only [S37_3step,S37_3,decL i _ o,Af,aab,Ag o,Ai,aae o,aax i (by omega),aac];cases ((((a.fld 1).asList)[i]).fld 0).asStr==n<;>rfl) (by
  simp only [S37_3step,S37_3,decN,Ah]) (a.fld 1).asList.length 0 (by omega)
 rw [Ap] at H;have I:aag 0 (S37_3step 0) (n,(),(),(0:Int),a,acz)=_:=H;unfold F37;change ∃ j,(Option.bind (aag 0 (S37_3step 0) (n,(),(),(0:Int),a,acz)) _)=_;rw [I];unfold dmem fst;cases (a.fld 1).asList.find? (λx=>aac x==n) with
 | none=>exact ⟨_,rfl⟩
 | some x=>exact ⟨_,rfl⟩
theorem ag8 {h:Type} [BEq h] [LawfulBEq h] {key:PV->h}{l:List PV}{x:PV}{k:h} (u:(l.map key).Nodup) (H:x∈l) (o:key x=k):l.find? (λy=>key y==k)=some x:=by subst o;exact av7 u H
theorem depF {a e m h f:PV} (u:((m.fld 1).asList.map kNum).Nodup) (I:OkMsg m) (J:f∈(m.fld 1).asList) (M:kNum f=chN e):
 aag 0 (S14_11step 0) ((),(),(),(0:Int),a,e,m,h)=some (.inl (aha (f.fld 8).asList,a,e,m,h)):=by
 have O:=I.fields
 have H:=abj (step:=S14_11step 0) (λi=>((),(),(),((i:Nat):Int),a,e,m,h)) (m.fld 1).asList (λx=>kNum x==chN e) (λx=>.inl (aha (x.fld 8).asList,a,e,m,h)) (.inr ((),(),a,e,m,h)) (λi o=>by
  have q:=akp (I.field _ (List.getElem_mem o)).notes;simp only [S14_11step,S14_11,decL i _ o,Af,aab,Ag o,Ai,aae o,aax i (by omega),kNum,chN,q,Aa];cases ((((m.fld 1).asList)[i]).fld 0).asInt==(e.fld 2).asInt<;>rfl) (by
  simp only [S14_11step,S14_11,decN,Ah]) (m.fld 1).asList.length 0 (by omega)
 rw [Ap,ag8 u J M] at H
 exact H
theorem depI {a e m h f:PV} (u:((h.fld 2).asList.map abc).Nodup) (I:OkEnum h) (J:f∈(h.fld 2).asList) (M:abc f=chN e):
 aag 0 (S14_17step 0) ((),(),(),(0:Int),a,e,m,h)=some (.inl (aha (f.fld 2).asList,a,e,m,h)):=by
 have O:=I.items
 have H:=abj (step:=S14_17step 0) (λi=>((),(),(),((i:Nat):Int),a,e,m,h)) (h.fld 2).asList (λx=>abc x==chN e) (λx=>.inl (aha (x.fld 2).asList,a,e,m,h)) (.inr ((),(),a,e,m,h)) (λi o=>by
  have q:=akp (I.item _ (List.getElem_mem o)).notes;simp only [S14_17step,S14_17,decL i _ o,Af,aab,Ag o,Ai,aae o,aax i (by omega),abc,chN,q,Aa];cases ((((h.fld 2).asList)[i]).fld 1).asInt==(e.fld 2).asInt<;>rfl) (by
  simp only [S14_17step,S14_17,decN,Ah]) (h.fld 2).asList.length 0 (by omega)
 rw [Ap,ag8 u J M] at H
 exact H
theorem depM {a e m h s f:PV}{k:Nat} (H:k<(a.fld 2).asList.length) (J:(a.fld 2).asList[k]=s) (u:((s.fld 1).asList.map aac).Nodup) (M:OkSvc s) (O:f∈(s.fld 1).asList) (Z:aac f=chO e):
 aag 0 (S14_28step 0) ((),(),((k:Nat):Int),(0:Int),a,e,m,h)=some (.inl (aha (f.fld 4).asList,a,e,m,h)):=by
 have hl:=M.meths
 have I:=abj (step:=S14_28step 0) (λi=>((),(),((k:Nat):Int),((i:Nat):Int),a,e,m,h)) (s.fld 1).asList (λx=>aac x==chO e) (λx=>.inl (aha (x.fld 4).asList,a,e,m,h)) (.inr ((),(),((k:Nat):Int),a,e,m,h)) (λi o=>by
  have q:=akp (M.meth _ (List.getElem_mem o)).notes;simp only [S14_28step,S14_28,aab,Ag H,Ai,aae H,J,decL i _ o,Af,Ag o,aae o,aax i (by omega),aac,chO,q,Aa];cases ((((s.fld 1).asList)[i]).fld 0).asStr==(e.fld 3).asStr<;>rfl) (by
  simp only [S14_28step,S14_28,aab,Ag H,Ai,aae H,J,Af,decN,Ah]) (s.fld 1).asList.length 0 (by omega)
 rw [Ap,ag8 u O Z] at I
 exact I
theorem bab {a e:PV} (M:SOk a) (v:SchemaV a) (ht:There a e) (hk:ahc (chK e)=true):F14 0 a e=some (depW a e):=by
 have u:=v.uq;have z:([]:List PV).length<=1048576:=Nat.zero_le _;have hm:∀ k,OkMsg (dmem aac k (a.fld 0).asList zMsg).1\/(dmem aac k (a.fld 0).asList zMsg).1=zMsg:=λk=>amj (P:=λx=>OkMsg x\/x=zMsg) (λx hx=>.inl (M.msg x hx)) (.inr rfl);have he:∀ k,OkEnum (dmem aac k (a.fld 1).asList acz).1\/(dmem aac k (a.fld 1).asList acz).1=acz:=λk=>amj (P:=λx=>OkEnum x\/x=acz) (λx hx=>.inl (M.enum x hx)) (.inr rfl);obtain ⟨j1,l1⟩:=a1q a (chD e) M.len.m;obtain ⟨j2,l2⟩:=ayf a (chD e) M.len.e;have af:=M.len.v;have ab:F36 0 a ((e.fld 1).asStr)=_:=l1;have ad:F37 0 a ((e.fld 1).asStr)=_:=l2;unfold F14;rw [ab,Aa,ad,Aa];rcases aoq hk with h | h | h | h | h | h
 ·have H:(e.fld 0).asInt=1:=h;have hl:((dmem aac (chD e) (a.fld 0).asList zMsg).1.fld 4).asList.length<=1048576:=by
   rcases hm (chD e) with q | q
   ·exact q.notes
   ·rw [q];exact z
  rw [H];change (F38 0 ((dmem aac (chD e) (a.fld 0).asList zMsg).1.fld 4).asList).bind _=_;rw [akp hl];unfold depW;rw [if_pos h];rfl
 ·have H:(e.fld 0).asInt=3:=h;obtain ⟨m,o,m2,f,O,Z⟩:=ht.f h;have d1:=aci (z:=zMsg) u.m o m2;have d2:=aci (z:=zFld) (u.ms m o) O Z;rw [d1,H];change (Option.bind (aag 0 (S14_11step 0) ((),(),(),(0:Int),a,e,m,_)) _)=_;rw [depF (u.ms m o) (M.msg m o) O Z];unfold depW;rw [if_neg (by rw [h];decide),if_pos h,d1];simp only;rw [d2];rfl
 ·have H:(e.fld 0).asInt=11:=h;have hl:((dmem aac (chD e) (a.fld 1).asList acz).1.fld 4).asList.length<=1048576:=by
   rcases he (chD e) with q | q
   ·exact q.notes
   ·rw [q];exact z
  rw [H];change (F38 0 ((dmem aac (chD e) (a.fld 1).asList acz).1.fld 4).asList).bind _=_;rw [akp hl];unfold depW;rw [if_neg (by rw [h];decide),if_neg (by rw [h];decide),if_pos h];rfl
 ·have H:(e.fld 0).asInt=14:=h;obtain ⟨m,o,m2,f,O,Z⟩:=ht.i h;have d1:=aci (z:=acz) u.e o m2;have d2:=aci (z:=ak5) (u.es m o) O Z;rw [d1,H];change (Option.bind (aag 0 (S14_17step 0) ((),(),(),(0:Int),a,e,_,m)) _)=_;rw [depI (u.es m o) (M.enum m o) O Z];unfold depW;rw [if_neg (by rw [h];decide),if_neg (by rw [h];decide),if_neg (by rw [h];decide),if_pos h,d1];simp only;rw [d2];rfl
 ·have H:(e.fld 0).asInt=17:=h;generalize (dmem aac (chD e) (a.fld 0).asList zMsg).1=m;generalize (dmem aac (chD e) (a.fld 1).asList acz).1=I;have h1:=abj (step:=S14_22step 0) (λi=>((),(),((i:Nat):Int),a,e,m,I)) (a.fld 2).asList (λx=>aac x==chD e) (λx=>.inl (aha (x.fld 2).asList,a,e,m,I)) (.inr (a,e,m,I)) (λi J=>by
   have q:=akp (M.svc _ (List.getElem_mem J)).notes;simp only [S14_22step,S14_22,decL i _ J,Af,aab,Ag J,Ai,aae J,aax i (by omega),aac,chD,H,q,Aa,Br];cases ((((a.fld 2).asList)[i]).fld 0).asStr==(e.fld 1).asStr<;>rfl) (by
   simp only [S14_22step,S14_22,decN,Ah]) (a.fld 2).asList.length 0 (by omega)
  rw [Ap] at h1;have h2:aag 0 (S14_22step 0) ((),(),(0:Int),a,e,m,I)=_:=h1;rw [H];change (Option.bind (aag 0 (S14_22step 0) ((),(),(0:Int),a,e,m,I)) _)=_;rw [h2];unfold depW;rw [if_neg (by rw [h];decide),if_neg (by rw [h];decide),if_neg (by rw [h];decide),if_neg (by rw [h];decide),if_pos h];unfold dmem fst;cases (a.fld 2).asList.find? (λx=>aac x==chD e)<;>rfl
 ·have H:(e.fld 0).asInt=19:=h;obtain ⟨s,o,m2,f,O,Z⟩:=ht.m h;have d1:=aci (z:=zSvc) u.v o m2;have d2:=aci (z:=agm) (u.vs s o) O Z;have fs:=ag8 u.v o m2;generalize (dmem aac (chD e) (a.fld 0).asList zMsg).1=m;generalize (dmem aac (chD e) (a.fld 1).asList acz).1=I;have h1:=abj (step:=S14_22step 0) (λi=>((),(),((i:Nat):Int),a,e,m,I)) (a.fld 2).asList (λx=>aac x==chD e) (λx=>.inl (aha (f.fld 4).asList,a,e,m,I)) (.inr (a,e,m,I)) (λi J=>by
   have ae:((19:Int)==17)=false:=rfl;simp only [S14_22step,S14_22,decL i _ J,Af,aab,Ag J,Ai,aae J,aax i (by omega),H,ae,Ah];cases hp:(aac (a.fld 2).asList[i]==chD e) with
   | false=>have aa:(((((a.fld 2).asList)[i]).fld 0).asStr==(e.fld 1).asStr)=false:=hp;rw [aa];rfl
   | true=>
    have aa:(((((a.fld 2).asList)[i]).fld 0).asStr==(e.fld 1).asStr)=true:=hp;have es:(a.fld 2).asList[i]=s:=by have:=ag8 u.v (List.getElem_mem J) (eq_of_beq hp);rw [fs] at this;exact (Option.some.inj this).symm
    rw [aa,depM J es (u.vs s o) (M.svc s o) O Z];rfl) (by
   simp only [S14_22step,S14_22,decN,Ah]) (a.fld 2).asList.length 0 (by omega)
  rw [Ap,fs] at h1;have h2:aag 0 (S14_22step 0) ((),(),(0:Int),a,e,m,I)=_:=h1;rw [H];change (Option.bind (aag 0 (S14_22step 0) ((),(),(0:Int),a,e,m,I)) _)=_;rw [h2];unfold depW;rw [if_neg (by rw [h];decide),if_neg (by rw [h];decide),if_neg (by rw [h];decide),if_neg (by rw [h];decide),if_neg (by rw [h];decide),d1];simp only;rw [d2];rfl
def amr (a:PV) (l:List PV):List PV:=l.flatMap λe=>dif (ahc (chK e)&&!depW a e) e
theorem akj (a:PV) (l:List PV):(amr a l).length<=l.length:=by
 unfold amr;induction l with
 | nil=>exact Nat.le_refl _
 | cons x r h=>have:=ab2 (ahc (chK x)&&!depW a x) x;rw [List.flatMap_cons,Ak,Am];omega
theorem a4g (e:PV):F13 0 e=some (ahc (chK e)):=by unfold F13 ahc chK;dsimp only;cases (e.fld 0).asInt==1<;>cases (e.fld 0).asInt==3<;>cases (e.fld 0).asInt==11<;>cases (e.fld 0).asInt==14<;>cases (e.fld 0).asInt==17<;>cases (e.fld 0).asInt==19<;>rfl
theorem a4j {a b:PV} (ha:SOk a) (hb:SOk b) (I:SchemaV a) (Z:SchemaV b) (ba:aat a<=1048576) (bb:aat b<=1048576):F6 0 a b=some (amr a (refC a b)):=by
 have hL:(refC a b).length<=90000000:=by rw [(af0 I.up.uq Z.up.uq).length_eq];exact anh I.up.uq Z.up.uq ba bb
 have hw:∀ e,e∈refC a b->ahc (chK e)=true->F11 0 a e=some (depW a e):=λe M H=>a2x ha I (aox M) H (a7b ha hb e ((af0 I.up.uq Z.up.uq).mem_iff.1 M)).1;have hh:=akj a (refC a b);unfold F6;rw [atp ha hb I.up Z.up ba bb,Aa];generalize refC a b=L at hL hw hh ⊢;have o:=aa1 (step:=S6_4step 0) (λi c=>((),c,L,(L.length:Int),((i:Nat):Int),a,b)) L (λe=>dif (ahc (chK e)&&!depW a e) e) (λc=>(c,a,b)) 90000000 (λi c O hc=>by
  have q:=hw _ (List.getElem_mem O);have aa:c.length<=90000000:=by omega
  have hd:∀ x:PV,decide (c.length+[x].length<=aaf)=true:=λx=>Ag (by unfold aaf;simp only [Am,Ao];omega);simp only [S6_4step,S6_4,decL i _ O,Af,aab,Ag O,Ai,aae O,aax i (by omega),hd];generalize L[i]=e at q ⊢;have h:∀ (k:Int),ahc k=true->chK e=k->((F11 0 a e).bind λy=>bif !y then some (Sum.inl ((),c++[e],L,(L.length:Int),(((i+1:Nat)):Int),a,b)) else some (.inl ((),c,L,(L.length:Int),(((i+1:Nat)):Int),a,b)))=some (Sum.inl (β:=(List PV)×PV×PV) ((),c++dif (ahc (chK e)&&!depW a e) e,L,(L.length:Int),(((i+1:Nat)):Int),a,b)):=by intro k H M;rw [<-M] at H;rw [q H,H];cases depW a e<;>simp [dif]
  unfold chK at h;unfold chK;cases o:((e.fld 0).asInt==1) with
  | true=>exact h 1 rfl (eq_of_beq o)
  | false=>
  cases J:((e.fld 0).asInt==3) with
  | true=>exact h 3 rfl (eq_of_beq J)
  | false=>
  cases h3:((e.fld 0).asInt==11) with
  | true=>exact h 11 rfl (eq_of_beq h3)
  | false=>
  cases h4:((e.fld 0).asInt==14) with
  | true=>exact h 14 rfl (eq_of_beq h4)
  | false=>
  cases h5:((e.fld 0).asInt==17) with
  | true=>exact h 17 rfl (eq_of_beq h5)
  | false=>
  cases h6:((e.fld 0).asInt==19) with
  | true=>exact h 19 rfl (eq_of_beq h6)
  | false=>
   have hg:ahc (e.fld 0).asInt=false:=by unfold ahc;rw [o,J,h3,h4,h5,h6];rfl
   rw [hg];simp [dif]) (λc=>by
  simp only [S6_4step,S6_4,decN,Ah]) L.length 0 [] (by omega) (by rw [Ap];show 0+(amr a L).length<=_;omega)
 rw [Ap,Ba] at o;have J:aag 0 (S6_4step 0) ((),[],L,(L.length:Int),(0:Int),a,b)=_:=o;rw [J];rfl
theorem aur {a b:PV} (O:SOk a) (hb:SOk b) (h:SchemaV a) (H:SchemaV b) (I:aat a<=1048576) (J:aat b<=1048576):F7 0 a b=some (amr a (refC a b)):=by
 have hL:(refC a b).length<=90000000:=by rw [(af0 h.up.uq H.up.uq).length_eq];exact anh h.up.uq H.up.uq I J
 have Z:∀ e,e∈refC a b->ahc (chK e)=true->F14 0 a e=some (depW a e):=λe he hk=>bab O h (aox he) hk;have hh:=akj a (refC a b);unfold F7;rw [a3r O hb h.up H.up h H I J,Aa];generalize refC a b=L at hL Z hh ⊢;have M:=aa1 (step:=S7_5step 0) (λi c=>((),c,L,((i:Nat):Int),a,b)) L (λe=>dif (ahc (chK e)&&!depW a e) e) (λc=>(c,a,b)) 90000000 (λi c o hc=>by
  have q:=Z _ (List.getElem_mem o);have aa:c.length<=90000000:=by omega
  have hd:∀ x:PV,decide (c.length+[x].length<=aaf)=true:=λx=>Ag (by unfold aaf;simp only [Am,Ao];omega);simp only [S7_5step,S7_5,decL i _ o,Af,aab,Ag o,Ai,aae o,aax i (by omega),hd,a4g,Aa];generalize L[i]=e at q ⊢;cases hg:ahc (chK e) with
  | false=>simp [imp,dif]
  | true=>simp only [imp,Af,q hg,Aa];cases depW a e<;>simp [dif]) (λc=>by
  simp only [S7_5step,S7_5,decN,Ah]) L.length 0 [] (by omega) (by rw [Ap];show 0+(amr a L).length<=_;omega)
 rw [Ap,Ba] at M;have h2:aag 0 (S7_5step 0) ((),[],L,(0:Int),a,b)=_:=M;rw [h2];rfl
theorem azz {s:PV} (o:SOk s) (bs:aat s<=1048576):∃ v,F4 0 s=some v/\(v=true->SchemaV s):=by
 obtain ⟨v,H,I⟩:=a2u o bs;unfold F4;generalize (bif (bif (decide ((((s.fld 0).asList).length:Int)<=(8:Int))) then (decide ((((s.fld 1).asList).length:Int)<=(8:Int))) else false) then (decide ((((s.fld 2).asList).length:Int)<=(8:Int))) else false)=x;cases x with
 | false=>exact ⟨false,rfl,λh=>by cases h⟩
 | true=>refine ⟨v,?_,I⟩;simp only [Af,H,Aa]
theorem aum {a b:PV} (J:SOk a) (M:SOk b) (h:aat a<=1048576) (o:aat b<=1048576):F3 0 a b=some true:=by
 have O:apa 0=some true:=rfl;obtain ⟨va,Z,v2⟩:=azz J h;obtain ⟨vb,w1,w2⟩:=azz M o;unfold F3;rw [Z];cases va with
 | false=>simp only [Aa,Ay,Az,Af,Ah]
 | true=>
  simp only [Aa,Az,Ay,Af,Ah,w1];cases vb with
  | false=>simp only [Ay,Af]
  | true=>
   have H:=v2 rfl;have I:=w2 rfl;have hL:(refC a b).length<=90000000:=by rw [(af0 H.up.uq I.up.uq).length_eq];exact anh H.up.uq I.up.uq h o
   have hh:=akj a (refC a b);simp only [Az,Ah,Aa,a4j J M H I h o,aur J M H I h o,a1y (amr a (refC a b)) (by omega),Af,O]
end Go.Ab
