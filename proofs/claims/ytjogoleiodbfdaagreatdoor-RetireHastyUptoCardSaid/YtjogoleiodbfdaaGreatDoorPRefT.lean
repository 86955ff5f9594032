/- The changes in the order of the specification: merged by keys; they ascend strictly. -/
import Derived.Test.YtjogoleiodbfdaaGreatDoorPTurnT
set_option linter.unusedVariables false
set_option linter.unusedSimpArgs false
set_option linter.unnecessarySimpa false
namespace Go.Ab
open Go
set_option maxRecDepth 100000
theorem Lin.ltt {H:Type}{c:H->H->Int} (h:Lin c) {x y z:H} (I:c x y<0) (J:c y z<0):c x z<0:=by
 have:=h.tr x y z (by omega) (by omega);rcases Int.lt_or_eq_of_le this.1 with o | o
 ·exact o
 ·have:=(this.2 o).1;omega
structure Key {κ:Type} (c:κ->κ->Int):Prop where
 lin:Lin c
 zero:∀ x y,c x y=0 ↔ x=y
theorem Key.cI:Key Ab.cI:=⟨Lin.cI,λ_ _=>cI_zero⟩
theorem Key.cB:Key Ab.cB:=⟨Lin.cB,λ_ _=>cB_zero⟩
def insK {κ:Type} (c:κ->κ->Int) (s:κ):List κ->List κ
 | []=>[s]
 | x::r=>if c x s=0 then x::r else if c s x<0 then s::x::r else x::insK c s r
def ab9 {κ:Type} (c:κ->κ->Int) (key:PV->κ) (l:List PV) (acc:List κ):List κ:=l.foldl (λa x=>insK c (key x) a) acc
theorem awb {κ:Type}{c:κ->κ->Int} (I:Key c) {s y:κ}:∀ {l:List κ},y∈insK c s l ↔ y=s\/y∈l:=by
 intro l;induction l with
 | nil=>simp [insK]
 | cons x r J=>
  unfold insK;by_cases o:c x s=0
  ·have e:=(I.zero x s).1 o;subst e;rw [if_pos o];simp
  ·rw [if_neg o];by_cases H:c s x<0
   ·rw [if_pos H];simp
   ·rw [if_neg H,Bn,J,Bn];constructor<;>(intro h;rcases h with h | h | h<;>simp [h])
theorem a8j {κ:Type}{c:κ->κ->Int} (I:Key c) {s:κ}:∀ {l:List κ},l.Pairwise (λx y=>c x y<0)->(insK c s l).Pairwise λx y=>c x y<0:=by
 intro l;induction l with
 | nil=>intro _;exact .cons (λ_ h=>by cases h) .nil
 | cons x r Z=>
  intro h;obtain ⟨M,O⟩:=List.pairwise_cons.1 h;unfold insK;by_cases J:c x s=0
  ·rw [if_pos J];exact h
  ·rw [if_neg J];by_cases H:c s x<0
   ·rw [if_pos H];refine .cons (λy o=>?_) h;rcases Bn.1 o with rfl | o
    ·exact H
    ·exact I.lin.ltt H (M y o)
   ·rw [if_neg H];refine .cons (λy o=>?_) (Z O);rcases (awb I).1 o with rfl | o
    ·have:=I.lin.anti x y;omega
    ·exact M y o
theorem ahe {κ:Type}{c:κ->κ->Int} (o:Key c) {key:PV->κ}{y:κ}:∀ {l:List PV}{acc:List κ},y∈ab9 c key l acc ↔ y∈l.map key\/y∈acc:=by
 intro l;induction l with
 | nil=>intro acc;simp [ab9]
 | cons x r H=>
  intro acc;show y∈ab9 c key r (insK c (key x) acc) ↔ _;rw [H,awb o,Bh,Bn];constructor
  ·rintro (h | h | h)
   ·exact .inl (.inr h)
   ·exact .inl (.inl h)
   ·exact .inr h
  ·rintro ((h | h) | h)
   ·exact .inr (.inl h)
   ·exact .inl h
   ·exact .inr (.inr h)
theorem alx {κ:Type}{c:κ->κ->Int} (o:Key c) {key:PV->κ}:∀ {l:List PV}{acc:List κ},acc.Pairwise (λx y=>c x y<0)->(ab9 c key l acc).Pairwise λx y=>c x y<0:=by
 intro l;induction l with
 | nil=>intro acc h;exact h
 | cons x r H=>intro acc h;exact H (a8j o h)
section
variable {κ:Type} [BEq κ] [LawfulBEq κ] {key:PV->κ}{c:κ->κ->Int}
def blk (key:PV->κ) (both:PV->PV->List PV) (gone new:PV->PV) (A B:List PV) (k:κ):List PV:=
 match fst key k A with
 | some x=>(match fst key k B with | some y=>both x y | none=>[gone x])
 | none=>(match fst key k B with | some y=>[new y] | none=>[])
def mrgF (c:κ->κ->Int) (key:PV->κ) (both:PV->PV->List PV) (gone new:PV->PV) (A B:List PV):List PV:=(ab9 c key B (ab9 c key A [])).flatMap (blk key both gone new A B)
theorem a8z {G:List PV}{k:κ}:∀ {ks:List κ},ks.Nodup->k∈ks->(ks.flatMap λj=>bif k==j then G else [])=G:=by
 intro ks;induction ks with
 | nil=>intro _ h;cases h
 | cons a r Z=>
  intro O o;obtain ⟨H,I⟩:=List.nodup_cons.1 O;rw [List.flatMap_cons];cases h:k==a with
  | true=>
   have e:=eq_of_beq h;subst e;have:(r.flatMap λj=>bif k==j then G else [])=r.flatMap λ_=>[]:=adx λj M=>by
    cases J:k==j with
    | false=>rfl
    | true=>exact absurd (by rw [eq_of_beq J];exact M) H
   rw [this,apw,List.append_nil];rfl
  | false=>
   rcases Bn.1 o with rfl | o
   ·simp at h
   ·rw [Z I o];rfl
theorem ar3 {G:PV->List PV}{ks:List κ}{A:List PV} (H:ks.Nodup) (M:(A.map key).Nodup) (I:∀ x,x∈A->key x∈ks):(ks.flatMap λk=>match fst key k A with | some x=>G x | none=>[]).Perm (A.flatMap G):=by have h:(ks.flatMap λk=>match fst key k A with | some x=>G x | none=>[])=ks.flatMap λk=>A.flatMap λx=>bif key x==k then G x else []:=adx λk _=>at2 M;have o:(A.flatMap λx=>ks.flatMap λk=>bif key x==k then G x else [])=A.flatMap G:=adx λx J=>a8z H (I x J);rw [h];refine (asf (λk x=>bif key x==k then G x else []) A ks).trans ?_;rw [o]
theorem a4c {k:κ}{l:List PV} (h:fst key k l=none):∀ x,x∈l->key x≠k:=λx o e=>by unfold fst at h;have:=List.find?_eq_none.1 h x o;simp [e] at this
theorem av7 {A:List PV} (H:(A.map key).Nodup) {x:PV} (o:x∈A):fst key (key x) A=some x:=by
 induction A with
 | nil=>cases o
 | cons a r I=>
  rw [Bh,List.nodup_cons] at H;unfold fst at I ⊢;rw [List.find?_cons];rcases Bn.1 o with rfl | o
  ·simp
  ·have:(key a==key x)=false:=by
    cases h:key a==key x with
    | false=>rfl
    | true=>exact absurd (by rw [eq_of_beq h];exact List.mem_map_of_mem o) H.1
   rw [this];exact I H.2 o
theorem ah5 {both:PV->PV->List PV}{gone new:PV->PV}{A B:List PV} (h:Key c) (uA:(A.map key).Nodup) (uB:(B.map key).Nodup):(mrgF c key both gone new A B).Perm (A.flatMap (cmn key both gone B)++B.flatMap (nws key new A)):=by
 have Z:(ab9 c key B (ab9 c key A [])).Pairwise λx y=>c x y<0:=alx h (alx h .nil);have I:=al1 h.lin Z;have M:∀ x,x∈A->key x∈ab9 c key B (ab9 c key A []):=λx J=>(ahe h).2 (Or.inr ((ahe h).2 (Or.inl (List.mem_map_of_mem J))));have hB:∀ x,x∈B->key x∈ab9 c key B (ab9 c key A []):=λx J=>(ahe h).2 (Or.inl (List.mem_map_of_mem J));unfold mrgF;generalize ab9 c key B (ab9 c key A [])=ks at I M hB ⊢;have e:ks.flatMap (blk key both gone new A B)=ks.flatMap λk=>(match fst key k A with | some x=>cmn key both gone B x | none=>[])++(match fst key k B with | some y=>nws key new A y | none=>[]):=adx λk _=>by
  unfold blk cmn nws;cases H:fst key k A with
  | some x=>
   have O:=fst_key H;cases o:fst key k B with
   | some y=>dsimp only;rw [O,o,fst_key o,H];simp
   | none=>dsimp only;rw [O,o];simp
  | none=>
   cases o:fst key k B with
   | some y=>dsimp only;rw [fst_key o,H];simp
   | none=>simp
 rw [e];exact (adl _ _ ks).trans ((ar3 I uA M).append (ar3 I uB hB))
theorem apj {both o:PV->PV->List PV}{gone:PV->PV}{A B:List PV} (h:∀ x,x∈A->∀ y,y∈B->key x=key y->(both x y).Perm (o x y)):(A.flatMap (cmn key both gone B)).Perm (A.flatMap (cmn key o gone B)):=anb λx I=>by
 unfold cmn;cases H:fst key (key x) B with
 | some y=>exact h x I y (aaz H) (fst_key H).symm
 | none=>exact .refl _
theorem aeh {both:PV->PV->List PV}{gone new:PV->PV}{A B:List PV}{S:κ->PV->Prop}{R:PV->PV->Prop} (hc:Key c) (ab:∀ k O e M,c k O<0->S k e->S O M->R e M)
 (hb:∀ x,x∈A->∀ y,y∈B->key x=key y->(both x y).Pairwise R/\∀ e,e∈both x y->S (key x) e) (hg:∀ x,x∈A->S (key x) (gone x)) (hn:∀ y,y∈B->S (key y) (new y)):
 (mrgF c key both gone new A B).Pairwise R/\∀ e,e∈mrgF c key both gone new A B->∃ k,S k e/\(k∈A.map key\/k∈B.map key):=by
 have hp:(ab9 c key B (ab9 c key A [])).Pairwise λx y=>c x y<0:=alx hc (alx hc .nil)
 have Z:∀ k e,e∈blk key both gone new A B k->S k e/\(k∈A.map key\/k∈B.map key):=λk e H=>by
  unfold blk at H;cases I:fst key k A with
  | some x=>
   have J:=fst_key I;have mx:k∈A.map key:=by rw [<-J];exact List.mem_map_of_mem (aaz I)
   cases o:fst key k B with
   | some y=>rw [I,o] at H;rw [<-J];exact ⟨(hb x (aaz I) y (aaz o) (J.trans (fst_key o).symm)).2 e H,Or.inl (by rw [J];exact mx)⟩
   | none=>rw [I,o] at H;rw [List.mem_singleton.1 H,<-J];exact ⟨hg x (aaz I),Or.inl (by rw [J];exact mx)⟩
  | none=>
   cases o:fst key k B with
   | some y=>
    rw [I,o] at H;have my:k∈B.map key:=by rw [<-fst_key o];exact List.mem_map_of_mem (aaz o)
    rw [List.mem_singleton.1 H];exact ⟨by rw [<-fst_key o];exact hn y (aaz o),Or.inr my⟩
   | none=>rw [I,o] at H;cases H
 refine ⟨?_,λe H=>?_⟩
 ·unfold mrgF;rw [List.pairwise_flatMap];refine ⟨λk hk=>?_,hp.imp λ{k O} h e H M aa=>ab k O e M h (Z k e H).1 (Z O M aa).1⟩;unfold blk;cases I:fst key k A with
  | some x=>
   cases o:fst key k B with
   | some y=>exact (hb x (aaz I) y (aaz o) ((fst_key I).trans (fst_key o).symm)).1
   | none=>exact .cons (λ_ h=>by cases h) .nil
  | none=>
   cases o:fst key k B with
   | some y=>exact .cons (λ_ h=>by cases h) .nil
   | none=>exact .nil
 ·obtain ⟨k,_,hk⟩:=List.mem_flatMap.1 H;exact ⟨k,(Z k e hk).1,(Z k e hk).2⟩
end
theorem am8 {x y:Int} (h:x<0):or2 x y<0:=by unfold or2;rw [if_neg (by omega)];exact h
theorem afb {x y:Int} (h:x=0):or2 x y=y:=by unfold or2;rw [if_pos h]
theorem cmp_g {a b:PV} (h:grp (chK a)<grp (chK b)):cmpC a b<0:=by unfold cmpC orL;exact am8 (by unfold cI;rw [if_pos h];omega)
theorem cmp_d {a b:PV} (o:grp (chK a)=grp (chK b)) (h:cB (chD a) (chD b)<0):cmpC a b<0:=by unfold cmpC orL;rw [afb (cI_zero.2 o)];exact am8 h
theorem a7w {a b:PV} (o:grp (chK a)=grp (chK b)) (H:chD a=chD b) (h:chN a<chN b):cmpC a b<0:=by unfold cmpC orL orL;rw [afb (cI_zero.2 o),afb (cB_zero.2 H)];exact am8 (by unfold cI;rw [if_pos h];omega)
theorem cmp_m {a b:PV} (o:grp (chK a)=grp (chK b)) (H:chD a=chD b) (I:chN a=chN b) (h:cB (mth a) (mth b)<0):cmpC a b<0:=by unfold cmpC orL orL orL;rw [afb (cI_zero.2 o),afb (cB_zero.2 H),afb (cI_zero.2 I)];exact am8 h
theorem cmp_k {a b:PV} (o:grp (chK a)=grp (chK b)) (H:chD a=chD b) (I:chN a=chN b) (J:mth a=mth b) (h:chK a<chK b):cmpC a b<0:=by unfold cmpC orL orL orL orL;rw [afb (cI_zero.2 o),afb (cB_zero.2 H),afb (cI_zero.2 I),afb (cB_zero.2 J)];exact am8 (by unfold cI;rw [if_pos h];omega)
abbrev Lt (a b:PV):Prop:=cmpC a b<0
structure At (g:Int) (d:Bt) (n:Int) (m:Bt) (e:PV):Prop where
 g:grp (chK e)=g
 d:chD e=d
 n:chN e=n
 m:mth e=m
theorem At.lt {g n:Int}{d m:Bt}{e H:PV} (h:At g d n m e) (o:At g d n m H) (k:chK e<chK H):Lt e H:=cmp_k (h.g.trans o.g.symm) (h.d.trans o.d.symm) (h.n.trans o.n.symm) (h.m.trans o.m.symm) k
theorem anf {g n:Int}{d m:Bt}{b:Bool}{x:PV}{l:List PV} (H:At g d n m x) (h:l.Pairwise Lt/\∀ e,e∈l->At g d n m e/\chK x<chK e) {k:Int} (I:k<chK x):(dif b x++l).Pairwise Lt/\∀ e,e∈dif b x++l->At g d n m e/\k<chK e:=by
 cases b with
 | false=>exact ⟨h.1,λe o=>⟨(h.2 e o).1,by have:=(h.2 e o).2;omega⟩⟩
 | true=>
  refine ⟨.cons (λe o=>H.lt (h.2 e o).1 (h.2 e o).2) h.1,λe o=>?_⟩;rcases Bn.1 o with rfl | o
  ·exact ⟨H,I⟩
  ·exact ⟨(h.2 e o).1,by have:=(h.2 e o).2;omega⟩
theorem a6z {g n:Int}{d m:Bt}{b:Bool}{x:PV} (H:At g d n m x) {k:Int} (o:k<chK x):(dif b x).Pairwise Lt/\∀ e,e∈dif b x->At g d n m e/\k<chK e:=by have:=anf (b:=b) H (l:=[]) ⟨.nil,λe h=>by cases h⟩ o;rw [List.append_nil] at this;exact this
theorem av1 (d:Bt) (x y:PV):(act d x y).Pairwise Lt/\∀ e,e∈act d x y->At 1 d (kNum x) [] e:=by
 have a:∀ (k:Int) (o w:Bt),5<=k->k<=10->At 1 d (kNum x) [] (chg k d (x.fld 0).asInt o w):=λk o w J H=>by
  refine ⟨?_,rfl,rfl,?_⟩
  ·show grp k=1;unfold grp;rw [if_pos ⟨by omega,H⟩]
  ·unfold mth;have e:chK (chg k d (x.fld 0).asInt o w)=k:=rfl;rw [e,if_neg (by omega),if_neg (by omega),if_neg (by omega)]
 have h:=anf (b:=ne5 x y) (a 5 (x.fld 1).asStr (y.fld 1).asStr (by omega) (by omega)) (anf (b:=ne6 x y) (a 6 (agy (x.fld 4)) (agy (y.fld 4)) (by omega) (by omega)) (anf (b:=ne7 x y) (a 7 (ag2 (x.fld 2).asInt) (ag2 (y.fld 2).asInt) (by omega) (by omega)) (anf (b:=ne8 x y) (a 8 (kw (x.fld 3).asInt) (kw (y.fld 3).asInt) (by omega) (by omega)) (anf (b:=ne9 x y) (a 9 (x.fld 5).asStr (y.fld 5).asStr (by omega) (by omega)) (a6z (b:=ne10 x y) (a 10 (litF x) (litF y) (by omega) (by omega)) (show (9:Int)<10 by omega)) (show (8:Int)<9 by omega)) (show (7:Int)<8 by omega)) (show (6:Int)<7 by omega)) (show (5:Int)<6 by omega)) (show (0:Int)<5 by omega);exact ⟨h.1,λe I=>(h.2 e I).1⟩
def InD (g:Int) (d:Bt) (e:PV):Prop:=grp (chK e)=g/\chD e=d
noncomputable def afa (a b:PV):List PV:=mrgF cI kNum (act (aac a)) (λf=>chg 3 (aac a) (f.fld 0).asInt (f.fld 1).asStr []) (λf=>chg 4 (aac a) (f.fld 0).asInt [] (f.fld 1).asStr) (a.fld 1).asList (b.fld 1).asList
theorem axj (a b:PV):(afa a b).Pairwise Lt/\∀ e,e∈afa a b->InD 1 (aac a) e:=by
 have h:=aeh (key:=kNum) (c:=cI) (both:=act (aac a)) (gone:=λf=>chg 3 (aac a) (f.fld 0).asInt (f.fld 1).asStr []) (new:=λf=>chg 4 (aac a) (f.fld 0).asInt [] (f.fld 1).asStr) (A:=(a.fld 1).asList) (B:=(b.fld 1).asList)
  (S:=λk e=>InD 1 (aac a) e/\chN e=k) (R:=Lt) Key.cI (λk M e J o h H=>a7w (h.1.1.trans H.1.1.symm) (h.1.2.trans H.1.2.symm) (by
   rw [h.2,H.2];unfold cI at o;split at o
   ·assumption
   ·split at o<;>omega))
  (λx _ y _ _=>⟨(av1 _ x y).1,λe I=>by have q:=(av1 (aac a) x y).2 e I;exact ⟨⟨q.g,q.d⟩,q.n⟩⟩) (λx _=>⟨⟨rfl,rfl⟩,rfl⟩) (λy _=>⟨⟨rfl,rfl⟩,rfl⟩)
 exact ⟨h.1,λe I=>by obtain ⟨k,o,_⟩:=h.2 e I;exact o.1⟩
theorem ars {a b:PV} (h:((a.fld 1).asList.map kNum).Nodup) (o:((b.fld 1).asList.map kNum).Nodup):(afa a b).Perm (adi a b):=ah5 Key.cI h o
def a6t (a b:PV):List PV:=mrgF cI abc (aif (aac a)) (λf=>chg 14 (aac a) (f.fld 1).asInt (f.fld 0).asStr []) (λf=>chg 15 (aac a) (f.fld 1).asInt [] (f.fld 0).asStr) (a.fld 2).asList (b.fld 2).asList
def aml (a b:PV):List PV:=akq a b++a6t a b
theorem a3x {a b:PV} (pa:∀ x,x∈(a.fld 2).asList->0<=abc x) (pb:∀ x,x∈(b.fld 2).asList->0<=abc x):(aml a b).Pairwise Lt/\∀ e,e∈aml a b->InD 2 (aac a) e:=by
 have h:=aeh (key:=abc) (c:=cI) (both:=aif (aac a)) (gone:=λf=>chg 14 (aac a) (f.fld 1).asInt (f.fld 0).asStr []) (new:=λf=>chg 15 (aac a) (f.fld 1).asInt [] (f.fld 0).asStr) (A:=(a.fld 2).asList) (B:=(b.fld 2).asList)
  (S:=λk e=>InD 2 (aac a) e/\chN e=k) (R:=Lt) Key.cI (λk k' e O o h I=>a7w (h.1.1.trans I.1.1.symm) (h.1.2.trans I.1.2.symm) (by
   rw [h.2,I.2];unfold cI at o;split at o
   ·assumption
   ·split at o<;>omega))
  (λx _ y _ _=>⟨by unfold aif dif;cases (!((x.fld 0).asStr==(y.fld 0).asStr))<;>simp,abv ⟨⟨rfl,rfl⟩,rfl⟩⟩) (λx _=>⟨⟨rfl,rfl⟩,rfl⟩) (λy _=>⟨⟨rfl,rfl⟩,rfl⟩)
 have ho:∀ e,e∈akq a b->InD 2 (aac a) e/\chN e=-1:=abv ⟨⟨rfl,rfl⟩,rfl⟩;have Z:∀ e,e∈a6t a b->InD 2 (aac a) e/\0<=chN e:=λe H=>by
  obtain ⟨k,⟨h1,h2⟩,o⟩:=h.2 e H;refine ⟨h1,?_⟩;rw [h2];rcases o with o | o
  ·obtain ⟨x,M,rfl⟩:=List.mem_map.1 o;exact pa x M
  ·obtain ⟨x,M,rfl⟩:=List.mem_map.1 o;exact pb x M
 refine ⟨?_,abo (λe H=>(ho e H).1) (λe H=>(Z e H).1)⟩;unfold aml;rw [List.pairwise_append];refine ⟨by unfold akq dif;cases (!((a.fld 1).asBool==(b.fld 1).asBool))<;>simp,h.1,λe H O J=>?_⟩;have q:=ho e H;have q':=Z O J;exact a7w (q.1.1.trans q'.1.1.symm) (q.1.2.trans q'.1.2.symm) (by rw [q.2];omega)
theorem axc {a b:PV} (h:((a.fld 2).asList.map abc).Nodup) (o:((b.fld 2).asList.map abc).Nodup):(aml a b).Perm (aje a b):=(List.Perm.refl _).append (ah5 Key.cI h o)
theorem axu:∀ {n:Bt} (r:Bt),(∀ b,b∈n->b≠58)->Lib.index (n++([58,32]++r)) [58,32]=n.length:=by
 intro n;induction n with
 | nil=>intro r _;simp [Lib.index,List.isPrefixOf]
 | cons b n o=>
  intro r h;have o:=o r λx J=>h x (List.mem_cons_of_mem _ J);have H:b≠58:=h b (List.mem_cons_self ..);have I:([58,32]:Bt).isPrefixOf (b::(n++([58,32]++r)))=false:=by
   simp only [List.isPrefixOf];have:((58:UInt8)==b)=false:=by simpa using λe=>H e.symm
   rw [this,Bool.false_and]
  rw [Bm,Lib.index,I,o,if_neg (by decide)];have:(((n.length:Nat):Int)==-1)=false:=by simp
  rw [this,if_neg (by decide),Am];omega
theorem avx {n:Bt} (r:Bt) (h:∀ b,b∈n->b≠58):(Lib.cut (n++([58,32]++r)) [58,32]).1=n:=by unfold Lib.cut;rw [axu r h,if_pos (by omega)];simp
theorem ao5 {s:Bt} (h:aj3 s=true):∀ b,b∈s->b≠58:=by
 unfold aj3 at h;rw [Aj] at h;have h:=h.1;intro b o e;subst e;match s,h,o with
 | c::r,h,o=>
  simp only [adz,Aj,Bs] at h;rcases Bn.1 o with rfl | o
  ·exact absurd h.1.2 (by decide)
  ·exact absurd (h.2 58 o) (by decide)
def svcR (a b:PV):List PV:=mrgF cB aac (agd (aac a)) (λf=>chg 19 (aac a) (-1) (f.fld 0).asStr []) (λf=>chg 20 (aac a) (-1) [] (f.fld 0).asStr) (a.fld 1).asList (b.fld 1).asList
theorem a8u {d:Bt}{x y:PV} (o:aj3 (aac x)=true):(agd d x y).Pairwise Lt/\∀ e,e∈agd d x y->At 3 d (-1) (aac x) e:=by
 have H:At 3 d (-1) (aac x) (chg 21 d (-1) (acx x) (acx y)):=⟨rfl,rfl,rfl,by show (Lib.cut (acx x) [58,32]).1=_;unfold acx;rw [Ar,Ar,Ar];exact avx _ (ao5 o)⟩
 have I:At 3 d (-1) (aac x) (chg 22 d (-1) (shT x x) (shT x y)):=⟨rfl,rfl,rfl,by show (Lib.cut (shT x x) [58,32]).1=_;unfold shT;rw [Ar];exact avx _ (ao5 o)⟩
 have h:=anf (b:=ne21 x y) H (a6z (b:=ne22 x y) I (show (21:Int)<22 by omega)) (show (0:Int)<21 by omega);exact ⟨h.1,λe J=>(h.2 e J).1⟩
theorem a9g {a b:PV} (M:∀ x,x∈(a.fld 1).asList->aj3 (aac x)=true):(svcR a b).Pairwise Lt/\∀ e,e∈svcR a b->InD 3 (aac a) e:=by
 have h:=aeh (key:=aac) (c:=cB) (both:=agd (aac a)) (gone:=λf=>chg 19 (aac a) (-1) (f.fld 0).asStr []) (new:=λf=>chg 20 (aac a) (-1) [] (f.fld 0).asStr) (A:=(a.fld 1).asList) (B:=(b.fld 1).asList)
  (S:=λk e=>At 3 (aac a) (-1) k e) (R:=Lt) Key.cB (λk Z e O H h o=>cmp_m (h.g.trans o.g.symm) (h.d.trans o.d.symm) (h.n.trans o.n.symm) (by rw [h.m,o.m];exact H))
  (λx J y _ _=>a8u (M x J)) (λx _=>⟨rfl,rfl,rfl,rfl⟩) (λy _=>⟨rfl,rfl,rfl,rfl⟩)
 exact ⟨h.1,λe I=>by obtain ⟨k,H,_⟩:=h.2 e I;exact ⟨H.g,H.d⟩⟩
theorem a2i {a b:PV} (h:((a.fld 1).asList.map aac).Nodup) (o:((b.fld 1).asList.map aac).Nodup):(svcR a b).Perm (svcC a b):=ah5 Key.cB h o
noncomputable def rM (a b:PV):List PV:=mrgF cB aac afa (λm=>chg 1 (aac m) (-1) [] []) (λm=>chg 2 (aac m) (-1) [] []) (a.fld 0).asList (b.fld 0).asList
def rE (a b:PV):List PV:=mrgF cB aac aml (λm=>chg 11 (aac m) (-1) [] []) (λm=>chg 12 (aac m) (-1) [] []) (a.fld 1).asList (b.fld 1).asList
def rS (a b:PV):List PV:=mrgF cB aac svcR (λm=>chg 17 (aac m) (-1) [] []) (λm=>chg 18 (aac m) (-1) [] []) (a.fld 2).asList (b.fld 2).asList
noncomputable def refC (a b:PV):List PV:=rM a b++(rE a b++rS a b)
structure SUp (s:PV):Prop where
 uq:SUq s
 item:∀ m,m∈(s.fld 1).asList->∀ x,x∈(m.fld 2).asList->0<=abc x
 meth:∀ m,m∈(s.fld 2).asList->∀ x,x∈(m.fld 1).asList->aj3 (aac x)=true
theorem SchemaV.up {s:PV} (h:SchemaV s):SUp s:=by
 have o:∀ {l:List PV}{x:PV},x∈l->∃ i,i<l.length/\l.getD i .bad=x:=λ{l x} I=>by obtain ⟨i,H,rfl⟩:=List.mem_iff_getElem.1 I;exact ⟨i,H,aae H⟩
 refine ⟨h.uq,λm M x I=>?_,λm M x I=>?_⟩
 ·obtain ⟨i,H,rfl⟩:=o M;obtain ⟨j,J,rfl⟩:=o I;exact (h.enum i H j J).pos
 ·obtain ⟨i,H,rfl⟩:=o M;obtain ⟨j,J,rfl⟩:=o I;exact (h.svc i H j J).name
theorem af0 {a b:PV} (h:SUq a) (o:SUq b):(refC a b).Perm (raw a b):=by have J:(rM a b).Perm (gM a b++nM a b):=(ah5 Key.cB h.m o.m).trans ((apj λx H y I _=>ars (h.ms x H) (o.ms y I)).append (.refl _));have M:(rE a b).Perm (gE a b++nE a b):=(ah5 Key.cB h.e o.e).trans ((apj λx H y I _=>axc (h.es x H) (o.es y I)).append (.refl _));have O:(rS a b).Perm (gS a b++nS a b):=(ah5 Key.cB h.v o.v).trans ((apj λx H y I _=>a2i (h.vs x H) (o.vs y I)).append (.refl _));exact (J.append (M.append O)).trans (a9b ..).symm
theorem ap8 {g:Int}:∀ (k H:Bt) (e o:PV),cB k H<0->InD g k e->InD g H o->Lt e o:=λk H e o J h I=>cmp_d (h.1.trans I.1.symm) (by rw [h.2,I.2];exact J)
theorem a9d {a b:PV} (ua:SUp a) (ub:SUp b):(refC a b).Pairwise Lt/\∀ e,e∈refC a b->∃ i,i<3/\(chD e∈(a.fld i).asList.map aac\/chD e∈(b.fld i).asList.map aac):=by
 have h1:=aeh (key:=aac) (c:=cB) (both:=afa) (gone:=λm=>chg 1 (aac m) (-1) [] []) (new:=λm=>chg 2 (aac m) (-1) [] []) (A:=(a.fld 0).asList) (B:=(b.fld 0).asList) (S:=λk e=>InD 1 k e) (R:=Lt) Key.cB ap8 (λx _ y _ _=>axj x y) (λx _=>⟨rfl,rfl⟩) (λy _=>⟨rfl,rfl⟩);have O:=aeh (key:=aac) (c:=cB) (both:=aml) (gone:=λm=>chg 11 (aac m) (-1) [] []) (new:=λm=>chg 12 (aac m) (-1) [] []) (A:=(a.fld 1).asList) (B:=(b.fld 1).asList) (S:=λk e=>InD 2 k e) (R:=Lt) Key.cB ap8 (λx hx y hy _=>a3x (ua.item x hx) (ub.item y hy)) (λx _=>⟨rfl,rfl⟩) (λy _=>⟨rfl,rfl⟩);have Z:=aeh (key:=aac) (c:=cB) (both:=svcR) (gone:=λm=>chg 17 (aac m) (-1) [] []) (new:=λm=>chg 18 (aac m) (-1) [] []) (A:=(a.fld 2).asList) (B:=(b.fld 2).asList) (S:=λk e=>InD 3 k e) (R:=Lt) Key.cB ap8 (λx hx y hy _=>a9g (ua.meth x hx)) (λx _=>⟨rfl,rfl⟩) (λy _=>⟨rfl,rfl⟩);have g:∀ {g g':Int}{k k':Bt}{e I:PV},InD g k e->InD g' k' I->g<g'->Lt e I:=λh h' hl=>cmp_g (by rw [h.1,h'.1];exact hl);refine ⟨?_,abo (λe H=>?_) (abo (λe H=>?_) (λe H=>?_))⟩
 ·unfold refC;rw [List.pairwise_append,List.pairwise_append];refine ⟨h1.1,⟨O.1,Z.1,λe H I o=>?_⟩,λe H I o=>?_⟩
  ·obtain ⟨k,q,_⟩:=O.2 e H;obtain ⟨k',M,_⟩:=Z.2 I o;exact g q M (by omega)
  ·obtain ⟨k,q,_⟩:=h1.2 e H;rcases Bo.1 o with o | o
   ·obtain ⟨k',M,_⟩:=O.2 I o;exact g q M (by omega)
   ·obtain ⟨k',M,_⟩:=Z.2 I o;exact g q M (by omega)
 ·obtain ⟨k,q,J⟩:=h1.2 e H;exact ⟨0,by omega,by rw [q.2];exact J⟩
 ·obtain ⟨k,q,J⟩:=O.2 e H;exact ⟨1,by omega,by rw [q.2];exact J⟩
 ·obtain ⟨k,q,J⟩:=Z.2 e H;exact ⟨2,by omega,by rw [q.2];exact J⟩
theorem atp {a b:PV} (ha:SOk a) (hb:SOk b) (o:SUp a) (H:SUp b) (I:aat a<=1048576) (J:aat b<=1048576):F10 0 a b=some (refC a b):=by obtain ⟨ys,M,O,Z⟩:=a3s ha hb o.uq H.uq I J;have p:=af0 o.uq H.uq;have t:=(a5i H.uq o.uq).symm;have e:ys=refC a b:=ays (l:=raw b a) (O.trans t) (p.trans t) Z ((a9d o H).1.imp λ{x y} h=>by unfold leC;omega);rw [M,e]
end Go.Ab
