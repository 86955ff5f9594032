/- The changes in the order of the specification: merged by keys; they ascend strictly. -/
import Derived.Test.YtodichgnoiaanaaGreatDoorPTurnT
set_option linter.unusedVariables false
set_option linter.unusedSimpArgs false
set_option linter.unnecessarySimpa false
namespace Go.Ab
open Go
set_option maxRecDepth 100000
theorem Lin.ltt {o:Type}{c:o->o->Int} (h:Lin c) {x y z:o} (H:c x y<0) (I:c y z<0):c x z<0:=by have:=h.tr x y z (by omega) (by omega);grind
structure Key {κ:Type} (c:κ->κ->Int):Prop where
 lin:Lin c
 zero:∀ x y,c x y=0 ↔ x=y
theorem Key.cI:Key Ab.cI:=⟨Lin.cI,λ_ _=>cI_zero⟩
theorem Key.cB:Key Ab.cB:=⟨Lin.cB,λ_ _=>cB_zero⟩
def insK {κ:Type} (c:κ->κ->Int) (s:κ):List κ->List κ
 | []=>[s]
 | x::r=>if c x s=0 then x::r else if c s x<0 then s::x::r else x::insK c s r
def aca {κ:Type} (c:κ->κ->Int) (key:PV->κ) (l:List PV) (acc:List κ):List κ:=l.foldl (λa x=>insK c (key x) a) acc
theorem arq {κ:Type}{c:κ->κ->Int} (o:Key c) {s y:κ}:∀ {l:List κ},y∈insK c s l ↔ y=s\/y∈l:=by
 intro l;induction l with
 | nil=>simp [insK]
 | cons x r z=>
  unfold insK;by_cases h:c x s=0
  ·have e:=(o.zero x s).1 h;grind
  grind
theorem a3o {κ:Type}{c:κ->κ->Int} (H:Key c) {s:κ}:∀ {l:List κ},l.Pairwise (λx y=>c x y<0)->(insK c s l).Pairwise λx y=>c x y<0:=by
 intro l;induction l with
 | nil=>intro _;exact .cons (λ_ h=>by cases h) .nil
 | cons x r O=>
  intro h;obtain ⟨I,M⟩:=List.pairwise_cons.1 h;unfold insK;by_cases J:c x s=0
  ·grind
  ·rw [if_neg J];by_cases z:c s x<0
   ·rw [if_pos z];refine .cons (λy o=>?_) h;rcases List.mem_cons.1 o with rfl | o
    ·exact z
    ·exact H.lin.ltt z (I y o)
   ·rw [if_neg z];refine .cons (λy o=>?_) (O M);rcases (arq H).1 o with rfl | o
    ·have:=H.lin.anti x y;omega
    ·exact I y o
theorem akf {κ:Type}{c:κ->κ->Int} (h:Key c) {key:PV->κ}{y:κ}:∀ {l:List PV}{acc:List κ},y∈aca c key l acc ↔ y∈l.map key\/y∈acc:=by
 intro l;induction l with
 | nil=>grind [aca]
 | cons x r o=>intro acc;show y∈aca c key r (insK c (key x) acc) ↔ _;grind [arq]
theorem am3 {κ:Type}{c:κ->κ->Int} (o:Key c) {key:PV->κ}:∀ {l:List PV}{acc:List κ},acc.Pairwise (λx y=>c x y<0)->(aca c key l acc).Pairwise λx y=>c x y<0:=by
 intro l;induction l with
 | nil=>intro acc h;exact h
 | cons x r z=>intro acc h;exact z (a3o o h)
section
variable {κ:Type} [BEq κ] [LawfulBEq κ] {key:PV->κ}{c:κ->κ->Int}
def blk (key:PV->κ) (both:PV->PV->List PV) (gone new:PV->PV) (A B:List PV) (k:κ):List PV:=
 match fst key k A with
 | some x=>(match fst key k B with | some y=>both x y | none=>[gone x])
 | none=>(match fst key k B with | some y=>[new y] | none=>[])
def mrgF (c:κ->κ->Int) (key:PV->κ) (both:PV->PV->List PV) (gone new:PV->PV) (A B:List PV):List PV:=(aca c key B (aca c key A [])).flatMap (blk key both gone new A B)
theorem bcr {G:List PV}{k:κ}:∀ {ks:List κ},ks.Nodup->k∈ks->(ks.flatMap λj=>bif k==j then G else [])=G:=by
 intro ks;induction ks with
 | nil=>grind
 | cons a r M=>
  intro o J;obtain ⟨z,H⟩:=List.nodup_cons.1 o;rw [List.flatMap_cons];cases h:k==a with
  | true=>
   have e:=eq_of_beq h;subst e;have:(r.flatMap λj=>bif k==j then G else [])=r.flatMap λ_=>[]:=af4 λj I=>by grind
   grind [a8d]
  | false=>grind
theorem at9 {G:PV->List PV}{ks:List κ}{A:List PV} (z:ks.Nodup) (J:(A.map key).Nodup) (H:∀ x,x∈A->key x∈ks):(ks.flatMap λk=>match fst key k A with | some x=>G x | none=>[]).Perm (A.flatMap G):=by have h:(ks.flatMap λk=>match fst key k A with | some x=>G x | none=>[])=ks.flatMap λk=>A.flatMap λx=>bif key x==k then G x else []:=af4 λk _=>awi J;have o:(A.flatMap λx=>ks.flatMap λk=>bif key x==k then G x else [])=A.flatMap G:=af4 λx I=>bcr z (H x I);rw [h];refine (auq (λk x=>bif key x==k then G x else []) A ks).trans ?_;rw [o]
theorem a8f {k:κ}{l:List PV} (h:fst key k l=none):∀ x,x∈l->key x≠k:=λx o e=>by grind [fst,List.find?_eq_none]
theorem aiq {both:PV->PV->List PV}{gone new:PV->PV}{A B:List PV} (h:Key c) (J:(A.map key).Nodup) (M:(B.map key).Nodup):(mrgF c key both gone new A B).Perm (A.flatMap (cmn key both gone B)++B.flatMap (nws key new A)):=by
 have I:(aca c key B (aca c key A [])).Pairwise λx y=>c x y<0:=am3 h (am3 h .nil);have o:=am7 h.lin I;have H:∀ x,x∈A->key x∈aca c key B (aca c key A []):=λx z=>(akf h).2 (Or.inr ((akf h).2 (Or.inl (List.mem_map_of_mem z))));have hB:∀ x,x∈B->key x∈aca c key B (aca c key A []):=λx z=>(akf h).2 (Or.inl (List.mem_map_of_mem z));unfold mrgF;generalize aca c key B (aca c key A [])=ks at o H hB ⊢;have e:ks.flatMap (blk key both gone new A B)=ks.flatMap λk=>(match fst key k A with | some x=>cmn key both gone B x | none=>[])++(match fst key k B with | some y=>nws key new A y | none=>[]):=af4 λk _=>by grind [blk,cmn,nws,fst,fst_key]
 rw [e];exact (adv _ _ ks).trans ((at9 o J H).append (at9 o M hB))
theorem aq3 {both o:PV->PV->List PV}{gone:PV->PV}{A B:List PV} (h:∀ x,x∈A->∀ y,y∈B->key x=key y->(both x y).Perm (o x y)):(A.flatMap (cmn key both gone B)).Perm (A.flatMap (cmn key o gone B)):=aoo λx H=>by
 unfold cmn;cases z:fst key (key x) B with
 | some y=>grind [abf,fst_key]
 | none=>exact .refl _
theorem aes {both:PV->PV->List PV}{gone new:PV->PV}{A B:List PV}{S:κ->PV->Prop}{R:PV->PV->Prop} (O:Key c) (J:∀ k H e o,c k H<0->S k e->S H o->R e o)
 (hb:∀ x,x∈A->∀ y,y∈B->key x=key y->(both x y).Pairwise R/\∀ e,e∈both x y->S (key x) e) (hg:∀ x,x∈A->S (key x) (gone x)) (hn:∀ y,y∈B->S (key y) (new y)):
 (mrgF c key both gone new A B).Pairwise R/\∀ e,e∈mrgF c key both gone new A B->∃ k,S k e/\(k∈A.map key\/k∈B.map key):=by
 have hp:(aca c key B (aca c key A [])).Pairwise λx y=>c x y<0:=am3 O (am3 O .nil)
 have M:∀ k e,e∈blk key both gone new A B k->S k e/\(k∈A.map key\/k∈B.map key):=λk e z=>by
  unfold blk at z;cases Z:fst key k A with
  | some x=>grind [fst_key,List.mem_map_of_mem,abf,fst,List.mem_singleton]
  | none=>grind [fst,fst_key,List.mem_map_of_mem,abf,List.mem_singleton]
 refine ⟨?_,λe z=>?_⟩
 ·unfold mrgF;rw [List.pairwise_flatMap];refine ⟨λk hk=>?_,hp.imp λ{k H} h e z o I=>J k H e o h (M k e z).1 (M H o I).1⟩;unfold blk;cases Z:fst key k A with
  | some x=>grind [fst,abf,fst_key]
  | none=>
   cases aa:fst key k B with
   | some y=>grind
   | none=>exact .nil
 ·obtain ⟨k,_,hk⟩:=List.mem_flatMap.1 z;grind
end
theorem aol {x y:Int} (h:x<0):or2 x y<0:=by unfold or2;grind
theorem afu {x y:Int} (h:x=0):or2 x y=y:=by unfold or2;rw [if_pos h]
theorem cmp_g {a b:PV} (h:grp (chK a)<grp (chK b)):cmpC a b<0:=by unfold cmpC orL;exact aol (by unfold cI;grind)
theorem cmp_d {a b:PV} (o:grp (chK a)=grp (chK b)) (h:cB (chD a) (chD b)<0):cmpC a b<0:=by unfold cmpC orL;rw [afu (cI_zero.2 o)];exact aol h
theorem bb0 {a b:PV} (o:grp (chK a)=grp (chK b)) (z:chD a=chD b) (h:chN a<chN b):cmpC a b<0:=by unfold cmpC orL orL;rw [afu (cI_zero.2 o),afu (cB_zero.2 z)];exact aol (by unfold cI;grind)
theorem cmp_m {a b:PV} (o:grp (chK a)=grp (chK b)) (z:chD a=chD b) (H:chN a=chN b) (h:cB (mth a) (mth b)<0):cmpC a b<0:=by unfold cmpC orL orL orL;rw [afu (cI_zero.2 o),afu (cB_zero.2 z),afu (cI_zero.2 H)];exact aol h
theorem cmp_k {a b:PV} (o:grp (chK a)=grp (chK b)) (z:chD a=chD b) (H:chN a=chN b) (I:mth a=mth b) (h:chK a<chK b):cmpC a b<0:=by unfold cmpC orL orL orL orL;rw [afu (cI_zero.2 o),afu (cB_zero.2 z),afu (cI_zero.2 H),afu (cB_zero.2 I)];exact aol (by unfold cI;grind)
abbrev Lt (a b:PV):Prop:=cmpC a b<0
structure At (g:Int) (d:Bo) (n:Int) (m:Bo) (e:PV):Prop where
 g:grp (chK e)=g
 d:chD e=d
 n:chN e=n
 m:mth e=m
theorem At.lt {g n:Int}{d m:Bo}{e z:PV} (h:At g d n m e) (o:At g d n m z) (k:chK e<chK z):Lt e z:=cmp_k (h.g.trans o.g.symm) (h.d.trans o.d.symm) (h.n.trans o.n.symm) (h.m.trans o.m.symm) k
theorem aoq {g n:Int}{d m:Bo}{b:Bool}{x:PV}{l:List PV} (z:At g d n m x) (h:l.Pairwise Lt/\∀ e,e∈l->At g d n m e/\chK x<chK e) {k:Int} (H:k<chK x):(dif b x++l).Pairwise Lt/\∀ e,e∈dif b x++l->At g d n m e/\k<chK e:=by
 cases b with
 | false=>exact ⟨h.1,λe o=>⟨(h.2 e o).1,by have:=(h.2 e o).2;omega⟩⟩
 | true=>
  refine ⟨.cons (λe o=>z.lt (h.2 e o).1 (h.2 e o).2) h.1,λe o=>?_⟩;rcases List.mem_cons.1 o with rfl | o
  ·grind
  ·exact ⟨(h.2 e o).1,by have:=(h.2 e o).2;omega⟩
theorem bbh {g n:Int}{d m:Bo}{b:Bool}{x:PV} (z:At g d n m x) {k:Int} (o:k<chK x):(dif b x).Pairwise Lt/\∀ e,e∈dif b x->At g d n m e/\k<chK e:=by have:=aoq (b:=b) z (l:=[]) ⟨.nil,λe h=>by cases h⟩ o;grind
theorem ayj (d:Bo) (x y:PV):(acw d x y).Pairwise Lt/\∀ e,e∈acw d x y->At 1 d (kNum x) [] e:=by
 have a:∀ (k:Int) (o w:Bo),5<=k->k<=10->At 1 d (kNum x) [] (chg k d (x.fld 0).asInt o w):=λk o w H I=>by
  refine ⟨?_,rfl,rfl,?_⟩
  ·show grp k=1;unfold grp;grind
  ·unfold mth;have e:chK (chg k d (x.fld 0).asInt o w)=k:=rfl;grind
 have h:=aoq (b:=ne5 x y) (a 5 (x.fld 1).asStr (y.fld 1).asStr (by omega) (by omega)) (aoq (b:=ne6 x y) (a 6 (ahi (x.fld 4)) (ahi (y.fld 4)) (by omega) (by omega)) (aoq (b:=ne7 x y) (a 7 (aiy (x.fld 2).asInt) (aiy (y.fld 2).asInt) (by omega) (by omega)) (aoq (b:=ne8 x y) (a 8 (kw (x.fld 3).asInt) (kw (y.fld 3).asInt) (by omega) (by omega)) (aoq (b:=ne9 x y) (a 9 (x.fld 5).asStr (y.fld 5).asStr (by omega) (by omega)) (bbh (b:=ne10 x y) (a 10 (litF x) (litF y) (by omega) (by omega)) (show (9:Int)<10 by omega)) (show (8:Int)<9 by omega)) (show (7:Int)<8 by omega)) (show (6:Int)<7 by omega)) (show (5:Int)<6 by omega)) (show (0:Int)<5 by omega);exact ⟨h.1,λe z=>(h.2 e z).1⟩
def InD (g:Int) (d:Bo) (e:PV):Prop:=grp (chK e)=g/\chD e=d
noncomputable def afr (a b:PV):List PV:=mrgF cI kNum (acw (aad a)) (λf=>chg 3 (aad a) (f.fld 0).asInt (f.fld 1).asStr []) (λf=>chg 4 (aad a) (f.fld 0).asInt [] (f.fld 1).asStr) (a.fld 1).asList (b.fld 1).asList
theorem az2 (a b:PV):(afr a b).Pairwise Lt/\∀ e,e∈afr a b->InD 1 (aad a) e:=by
 have h:=aes (key:=kNum) (c:=cI) (both:=acw (aad a)) (gone:=λf=>chg 3 (aad a) (f.fld 0).asInt (f.fld 1).asStr []) (new:=λf=>chg 4 (aad a) (f.fld 0).asInt [] (f.fld 1).asStr) (A:=(a.fld 1).asList) (B:=(b.fld 1).asList)
  (S:=λk e=>InD 1 (aad a) e/\chN e=k) (R:=Lt) Key.cI (λk J e I H h z=>bb0 (h.1.1.trans z.1.1.symm) (h.1.2.trans z.1.2.symm) (by grind [cI]))
  (λx _ y _ _=>⟨(ayj _ x y).1,λe o=>by have q:=(ayj (aad a) x y).2 e o;exact ⟨⟨q.g,q.d⟩,q.n⟩⟩) (λx _=>⟨⟨rfl,rfl⟩,rfl⟩) (λy _=>⟨⟨rfl,rfl⟩,rfl⟩)
 exact ⟨h.1,λe o=>by obtain ⟨k,H,_⟩:=h.2 e o;exact H.1⟩
theorem att {a b:PV} (h:((a.fld 1).asList.map kNum).Nodup) (o:((b.fld 1).asList.map kNum).Nodup):(afr a b).Perm (ads a b):=aiq Key.cI h o
def bbb (a b:PV):List PV:=mrgF cI abj (ai0 (aad a)) (λf=>chg 14 (aad a) (f.fld 1).asInt (f.fld 0).asStr []) (λf=>chg 15 (aad a) (f.fld 1).asInt [] (f.fld 0).asStr) (a.fld 2).asList (b.fld 2).asList
def anz (a b:PV):List PV:=alm a b++bbb a b
theorem a8a {a b:PV} (pa:∀ x,x∈(a.fld 2).asList->0<=abj x) (pb:∀ x,x∈(b.fld 2).asList->0<=abj x):(anz a b).Pairwise Lt/\∀ e,e∈anz a b->InD 2 (aad a) e:=by
 have h:=aes (key:=abj) (c:=cI) (both:=ai0 (aad a)) (gone:=λf=>chg 14 (aad a) (f.fld 1).asInt (f.fld 0).asStr []) (new:=λf=>chg 15 (aad a) (f.fld 1).asInt [] (f.fld 0).asStr) (A:=(a.fld 2).asList) (B:=(b.fld 2).asList)
  (S:=λk e=>InD 2 (aad a) e/\chN e=k) (R:=Lt) Key.cI (λk k' e H Z h I=>bb0 (h.1.1.trans I.1.1.symm) (h.1.2.trans I.1.2.symm) (by grind [cI]))
  (λx _ y _ _=>⟨by unfold ai0 dif;cases (!((x.fld 0).asStr==(y.fld 0).asStr))<;>simp,ad7 ⟨⟨rfl,rfl⟩,rfl⟩⟩) (λx _=>⟨⟨rfl,rfl⟩,rfl⟩) (λy _=>⟨⟨rfl,rfl⟩,rfl⟩)
 have M:∀ e,e∈alm a b->InD 2 (aad a) e/\chN e=-1:=ad7 ⟨⟨rfl,rfl⟩,rfl⟩;have J:∀ e,e∈bbb a b->InD 2 (aad a) e/\0<=chN e:=λe o=>by obtain ⟨k,⟨h1,h2⟩,Z⟩:=h.2 e o;grind
 refine ⟨?_,acm (λe o=>(M e o).1) (λe o=>(J e o).1)⟩;unfold anz;rw [List.pairwise_append];refine ⟨by unfold alm dif;cases (!((a.fld 1).asBool==(b.fld 1).asBool))<;>simp,h.1,λe o H z=>?_⟩;have q:=M e o;have O:=J H z;exact bb0 (q.1.1.trans O.1.1.symm) (q.1.2.trans O.1.2.symm) (by rw [q.2];omega)
theorem azv {a b:PV} (h:((a.fld 2).asList.map abj).Nodup) (o:((b.fld 2).asList.map abj).Nodup):(anz a b).Perm (aj5 a b):=(List.Perm.refl _).append (aiq Key.cI h o)
theorem a0b:∀ {n:Bo} (r:Bo),(∀ b,b∈n->b≠58)->Lib.index (n++([58,32]++r)) [58,32]=n.length:=by
 intro n;induction n with
 | nil=>grind [Lib.index,List.isPrefixOf]
 | cons b n o=>
  intro r h;have o:=o r λx H=>h x (List.mem_cons_of_mem _ H);have I:b≠58:=h b (List.mem_cons_self ..);have z:([58,32]:Bo).isPrefixOf (b::(n++([58,32]++r)))=false:=by grind
  rw [Bl,Lib.index,z,o,if_neg (by decide)];grind
theorem ayf {n:Bo} (r:Bo) (h:∀ b,b∈n->b≠58):(Lib.cut (n++([58,32]++r)) [58,32]).1=n:=by unfold Lib.cut;rw [a0b r h,if_pos (by omega)];simp
theorem aqo {s:Bo} (h:alr s=true):∀ b,b∈s->b≠58:=by
 unfold alr at h;rw [Aj] at h;have h:=h.1;intro b o e;subst e;match s,h,o with
 | c::r,h,o=>
  simp only [aeh,Aj,Bj] at h;rcases List.mem_cons.1 o with rfl | o
  ·exact absurd h.1.2 (by decide)
  ·exact absurd (h.2 58 o) (by decide)
def svcR (a b:PV):List PV:=mrgF cB aad (ag1 (aad a)) (λf=>chg 19 (aad a) (-1) (f.fld 0).asStr []) (λf=>chg 20 (aad a) (-1) [] (f.fld 0).asStr) (a.fld 1).asList (b.fld 1).asList
theorem bck {d:Bo}{x y:PV} (o:alr (aad x)=true):(ag1 d x y).Pairwise Lt/\∀ e,e∈ag1 d x y->At 3 d (-1) (aad x) e:=by
 have z:At 3 d (-1) (aad x) (chg 21 d (-1) (adn x) (adn y)):=⟨rfl,rfl,rfl,by show (Lib.cut (adn x) [58,32]).1=_;unfold adn;rw [As,As,As];exact ayf _ (aqo o)⟩
 have H:At 3 d (-1) (aad x) (chg 22 d (-1) (shT x x) (shT x y)):=⟨rfl,rfl,rfl,by show (Lib.cut (shT x x) [58,32]).1=_;unfold shT;rw [As];exact ayf _ (aqo o)⟩
 have h:=aoq (b:=ne21 x y) z (bbh (b:=ne22 x y) H (show (21:Int)<22 by omega)) (show (0:Int)<21 by omega);exact ⟨h.1,λe I=>(h.2 e I).1⟩
theorem bcy {a b:PV} (J:∀ x,x∈(a.fld 1).asList->alr (aad x)=true):(svcR a b).Pairwise Lt/\∀ e,e∈svcR a b->InD 3 (aad a) e:=by
 have h:=aes (key:=aad) (c:=cB) (both:=ag1 (aad a)) (gone:=λf=>chg 19 (aad a) (-1) (f.fld 0).asStr []) (new:=λf=>chg 20 (aad a) (-1) [] (f.fld 0).asStr) (A:=(a.fld 1).asList) (B:=(b.fld 1).asList)
  (S:=λk e=>At 3 (aad a) (-1) k e) (R:=Lt) Key.cB (λk O e M z h o=>cmp_m (h.g.trans o.g.symm) (h.d.trans o.d.symm) (h.n.trans o.n.symm) (by rw [h.m,o.m];exact z))
  (λx I y _ _=>bck (J x I)) (λx _=>⟨rfl,rfl,rfl,rfl⟩) (λy _=>⟨rfl,rfl,rfl,rfl⟩)
 exact ⟨h.1,λe H=>by obtain ⟨k,z,_⟩:=h.2 e H;exact ⟨z.g,z.d⟩⟩
theorem a6i {a b:PV} (h:((a.fld 1).asList.map aad).Nodup) (o:((b.fld 1).asList.map aad).Nodup):(svcR a b).Perm (svcC a b):=aiq Key.cB h o
noncomputable def rM (a b:PV):List PV:=mrgF cB aad afr (λm=>chg 1 (aad m) (-1) [] []) (λm=>chg 2 (aad m) (-1) [] []) (a.fld 0).asList (b.fld 0).asList
def rE (a b:PV):List PV:=mrgF cB aad anz (λm=>chg 11 (aad m) (-1) [] []) (λm=>chg 12 (aad m) (-1) [] []) (a.fld 1).asList (b.fld 1).asList
def rS (a b:PV):List PV:=mrgF cB aad svcR (λm=>chg 17 (aad m) (-1) [] []) (λm=>chg 18 (aad m) (-1) [] []) (a.fld 2).asList (b.fld 2).asList
noncomputable def refC (a b:PV):List PV:=rM a b++(rE a b++rS a b)
structure SUp (s:PV):Prop where
 uq:SUq s
 item:∀ m,m∈(s.fld 1).asList->∀ x,x∈(m.fld 2).asList->0<=abj x
 meth:∀ m,m∈(s.fld 2).asList->∀ x,x∈(m.fld 1).asList->alr (aad x)=true
theorem SchemaV.up {s:PV} (h:SchemaV s):SUp s:=by
 have o:∀ {l:List PV}{x:PV},x∈l->∃ i,i<l.length/\l.getD i .bad=x:=λ{l x} H=>by obtain ⟨i,z,rfl⟩:=List.mem_iff_getElem.1 H;exact ⟨i,z,aag z⟩
 refine ⟨h.uq,λm J x H=>?_,λm J x H=>?_⟩
 ·obtain ⟨i,z,rfl⟩:=o J;obtain ⟨j,I,rfl⟩:=o H;exact (h.enum i z j I).pos
 ·obtain ⟨i,z,rfl⟩:=o J;obtain ⟨j,I,rfl⟩:=o H;exact (h.svc i z j I).name
theorem aov {a b:PV} (h:SUq a) (o:SUq b):(refC a b).Perm (raw a b):=by have I:(rM a b).Perm (gM a b++nM a b):=(aiq Key.cB h.m o.m).trans ((aq3 λx z y H _=>att (h.ms x z) (o.ms y H)).append (.refl _));have J:(rE a b).Perm (gE a b++nE a b):=(aiq Key.cB h.e o.e).trans ((aq3 λx z y H _=>azv (h.es x z) (o.es y H)).append (.refl _));have M:(rS a b).Perm (gS a b++nS a b):=(aiq Key.cB h.v o.v).trans ((aq3 λx z y H _=>a6i (h.vs x z) (o.vs y H)).append (.refl _));exact (I.append (J.append M)).trans (bct ..).symm
theorem ar1 {g:Int}:∀ (k z:Bo) (e o:PV),cB k z<0->InD g k e->InD g z o->Lt e o:=λk z e o I h H=>cmp_d (h.1.trans H.1.symm) (by rw [h.2,H.2];exact I)
theorem bcv {a b:PV} (ua:SUp a) (ub:SUp b):(refC a b).Pairwise Lt/\∀ e,e∈refC a b->∃ i,i<3/\(chD e∈(a.fld i).asList.map aad\/chD e∈(b.fld i).asList.map aad):=by
 have Z:=aes (key:=aad) (c:=cB) (both:=afr) (gone:=λm=>chg 1 (aad m) (-1) [] []) (new:=λm=>chg 2 (aad m) (-1) [] []) (A:=(a.fld 0).asList) (B:=(b.fld 0).asList) (S:=λk e=>InD 1 k e) (R:=Lt) Key.cB ar1 (λx _ y _ _=>az2 x y) (λx _=>⟨rfl,rfl⟩) (λy _=>⟨rfl,rfl⟩);have J:=aes (key:=aad) (c:=cB) (both:=anz) (gone:=λm=>chg 11 (aad m) (-1) [] []) (new:=λm=>chg 12 (aad m) (-1) [] []) (A:=(a.fld 1).asList) (B:=(b.fld 1).asList) (S:=λk e=>InD 2 k e) (R:=Lt) Key.cB ar1 (λx hx y hy _=>a8a (ua.item x hx) (ub.item y hy)) (λx _=>⟨rfl,rfl⟩) (λy _=>⟨rfl,rfl⟩);have M:=aes (key:=aad) (c:=cB) (both:=svcR) (gone:=λm=>chg 17 (aad m) (-1) [] []) (new:=λm=>chg 18 (aad m) (-1) [] []) (A:=(a.fld 2).asList) (B:=(b.fld 2).asList) (S:=λk e=>InD 3 k e) (R:=Lt) Key.cB ar1 (λx hx y hy _=>bcy (ua.meth x hx)) (λx _=>⟨rfl,rfl⟩) (λy _=>⟨rfl,rfl⟩);have g:∀ {g g':Int}{k O:Bo}{e H:PV},InD g k e->InD g' O H->g<g'->Lt e H:=λh h' hl=>cmp_g (by rw [h.1,h'.1];exact hl);refine ⟨?_,acm (λe z=>?_) (acm (λe z=>?_) (λe z=>?_))⟩
 ·unfold refC;rw [List.pairwise_append,List.pairwise_append];refine ⟨Z.1,⟨J.1,M.1,λe z H o=>?_⟩,λe z H o=>?_⟩
  ·obtain ⟨k,q,_⟩:=J.2 e z;obtain ⟨O,q',_⟩:=M.2 H o;grind
  ·obtain ⟨k,q,_⟩:=Z.2 e z;rcases Bm.1 o with o | o
   ·obtain ⟨O,q',_⟩:=J.2 H o;grind
   ·obtain ⟨O,q',_⟩:=M.2 H o;grind
 ·obtain ⟨k,q,I⟩:=Z.2 e z;exact ⟨0,by omega,by rw [q.2];exact I⟩
 ·obtain ⟨k,q,I⟩:=J.2 e z;exact ⟨1,by omega,by rw [q.2];exact I⟩
 ·obtain ⟨k,q,I⟩:=M.2 e z;exact ⟨2,by omega,by rw [q.2];exact I⟩
theorem av6 {a b:PV} (Z:SOk a) (hb:SOk b) (o:SUp a) (z:SUp b) (H:aaq a<=1048576) (I:aaq b<=1048576):F9 0 a b=some (refC a b):=by obtain ⟨ys,J,M,O⟩:=a7v Z hb o.uq z.uq H I;have p:=aov o.uq z.uq;have t:=(a9n z.uq o.uq).symm;have e:ys=refC a b:=a08 (l:=raw b a) (M.trans t) (p.trans t) O ((bcv o z).1.imp λ{x y} h=>by grind);rw [J,e]
end Go.Ab
