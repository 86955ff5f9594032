/- The changes in the order of the specification: merged by keys; they ascend strictly. -/
import Derived.Test.YthokbeimbdnnoaaGreatDoorPTurnT
set_option linter.unusedVariables false
set_option linter.unusedSimpArgs false
set_option linter.unnecessarySimpa false
namespace Go.Ab
open Go
set_option maxRecDepth 100000
theorem Lin.ltt {H:Type}{c:H->H->Int} (h:Lin c) {x y z:H} (I:c x y<0) (J:c y z<0):c x z<0:=by
 have:=h.tr x y z (by omega) (by omega);rcases Int.lt_or_eq_of_le this.1 with o | o
 ·exact o
 ·have:=(this.2 o).1;omega
structure Key {κ:Type} (c:κ->κ->Int):Prop where
 lin:Lin c
 zero:∀ x y,c x y=0 ↔ x=y
theorem Key.cI:Key Ab.cI:=⟨Lin.cI,λ_ _=>cI_zero⟩
theorem Key.cB:Key Ab.cB:=⟨Lin.cB,λ_ _=>cB_zero⟩
def insK {κ:Type} (c:κ->κ->Int) (s:κ):List κ->List κ
 | []=>[s]
 | x::r=>if c x s=0 then x::r else if c s x<0 then s::x::r else x::insK c s r
def ab3 {κ:Type} (c:κ->κ->Int) (key:PV->κ) (l:List PV) (acc:List κ):List κ:=l.foldl (λa x=>insK c (key x) a) acc
theorem auk {κ:Type}{c:κ->κ->Int} (H:Key c) {s y:κ}:∀ {l:List κ},y∈insK c s l ↔ y=s\/y∈l:=by
 intro l;induction l with
 | nil=>simp [insK]
 | cons x r I=>
  unfold insK;by_cases o:c x s=0
  ·have e:=(H.zero x s).1 o;subst e;rw [if_pos o];simp
  ·rw [if_neg o];by_cases z:c s x<0
   ·rw [if_pos z];simp
   ·rw [if_neg z,Bl,I,Bl];constructor<;>(intro h;rcases h with h | h | h<;>simp [h])
theorem a5o {κ:Type}{c:κ->κ->Int} (H:Key c) {s:κ}:∀ {l:List κ},l.Pairwise (λx y=>c x y<0)->(insK c s l).Pairwise λx y=>c x y<0:=by
 intro l;induction l with
 | nil=>intro _;exact .cons (λ_ h=>by cases h) .nil
 | cons x r O=>
  intro h;obtain ⟨J,M⟩:=List.pairwise_cons.1 h;unfold insK;by_cases I:c x s=0
  ·rw [if_pos I];exact h
  ·rw [if_neg I];by_cases z:c s x<0
   ·rw [if_pos z];refine .cons (λy o=>?_) h;rcases Bl.1 o with rfl | o
    ·exact z
    ·exact H.lin.ltt z (J y o)
   ·rw [if_neg z];refine .cons (λy o=>?_) (O M);rcases (auk H).1 o with rfl | o
    ·have:=H.lin.anti x y;omega
    ·exact J y o
theorem agz {κ:Type}{c:κ->κ->Int} (o:Key c) {key:PV->κ}{y:κ}:∀ {l:List PV}{acc:List κ},y∈ab3 c key l acc ↔ y∈l.map key\/y∈acc:=by
 intro l;induction l with
 | nil=>intro acc;simp [ab3]
 | cons x r z=>
  intro acc;show y∈ab3 c key r (insK c (key x) acc) ↔ _;rw [z,auk o,Bh,Bl];constructor
  ·rintro (h | h | h)
   ·exact .inl (.inr h)
   ·exact .inl (.inl h)
   ·exact .inr h
  ·rintro ((h | h) | h)
   ·exact .inr (.inl h)
   ·exact .inl h
   ·exact .inr (.inr h)
theorem ak0 {κ:Type}{c:κ->κ->Int} (o:Key c) {key:PV->κ}:∀ {l:List PV}{acc:List κ},acc.Pairwise (λx y=>c x y<0)->(ab3 c key l acc).Pairwise λx y=>c x y<0:=by
 intro l;induction l with
 | nil=>intro acc h;exact h
 | cons x r z=>intro acc h;exact z (a5o o h)
section
variable {κ:Type} [BEq κ] [LawfulBEq κ] {key:PV->κ}{c:κ->κ->Int}
def blk (key:PV->κ) (both:PV->PV->List PV) (gone new:PV->PV) (A B:List PV) (k:κ):List PV:=
 match fst key k A with
 | some x=>(match fst key k B with | some y=>both x y | none=>[gone x])
 | none=>(match fst key k B with | some y=>[new y] | none=>[])
def mrgF (c:κ->κ->Int) (key:PV->κ) (both:PV->PV->List PV) (gone new:PV->PV) (A B:List PV):List PV:=(ab3 c key B (ab3 c key A [])).flatMap (blk key both gone new A B)
theorem a6e {G:List PV}{k:κ}:∀ {ks:List κ},ks.Nodup->k∈ks->(ks.flatMap λj=>bif k==j then G else [])=G:=by
 intro ks;induction ks with
 | nil=>intro _ h;cases h
 | cons a r O=>
  intro M o;obtain ⟨z,H⟩:=List.nodup_cons.1 M;rw [List.flatMap_cons];cases h:k==a with
  | true=>
   have e:=eq_of_beq h;subst e;have:(r.flatMap λj=>bif k==j then G else [])=r.flatMap λ_=>[]:=adi λj J=>by
    cases I:k==j with
    | false=>rfl
    | true=>exact absurd (by rw [eq_of_beq I];exact J) z
   rw [this,aot,List.append_nil];rfl
  | false=>
   rcases Bl.1 o with rfl | o
   ·simp at h
   ·rw [O H o];rfl
theorem aqu {G:PV->List PV}{ks:List κ}{A:List PV} (z:ks.Nodup) (J:(A.map key).Nodup) (H:∀ x,x∈A->key x∈ks):(ks.flatMap λk=>match fst key k A with | some x=>G x | none=>[]).Perm (A.flatMap G):=by have h:(ks.flatMap λk=>match fst key k A with | some x=>G x | none=>[])=ks.flatMap λk=>A.flatMap λx=>bif key x==k then G x else []:=adi λk _=>asp J;have o:(A.flatMap λx=>ks.flatMap λk=>bif key x==k then G x else [])=A.flatMap G:=adi λx I=>a6e z (H x I);rw [h];refine (aq4 (λk x=>bif key x==k then G x else []) A ks).trans ?_;rw [o]
theorem a1g {k:κ}{l:List PV} (h:fst key k l=none):∀ x,x∈l->key x≠k:=λx o e=>by unfold fst at h;have:=List.find?_eq_none.1 h x o;simp [e] at this
theorem ahn {both:PV->PV->List PV}{gone new:PV->PV}{A B:List PV} (h:Key c) (Z:(A.map key).Nodup) (uB:(B.map key).Nodup):(mrgF c key both gone new A B).Perm (A.flatMap (cmn key both gone B)++B.flatMap (nws key new A)):=by
 have O:(ab3 c key B (ab3 c key A [])).Pairwise λx y=>c x y<0:=ak0 h (ak0 h .nil);have H:=ak4 h.lin O;have J:∀ x,x∈A->key x∈ab3 c key B (ab3 c key A []):=λx I=>(agz h).2 (Or.inr ((agz h).2 (Or.inl (List.mem_map_of_mem I))));have hB:∀ x,x∈B->key x∈ab3 c key B (ab3 c key A []):=λx I=>(agz h).2 (Or.inl (List.mem_map_of_mem I));unfold mrgF;generalize ab3 c key B (ab3 c key A [])=ks at H J hB ⊢;have e:ks.flatMap (blk key both gone new A B)=ks.flatMap λk=>(match fst key k A with | some x=>cmn key both gone B x | none=>[])++(match fst key k B with | some y=>nws key new A y | none=>[]):=adi λk _=>by
  unfold blk cmn nws;cases z:fst key k A with
  | some x=>
   have M:=fst_key z;cases o:fst key k B with
   | some y=>dsimp only;rw [M,o,fst_key o,z];simp
   | none=>dsimp only;rw [M,o];simp
  | none=>
   cases o:fst key k B with
   | some y=>dsimp only;rw [fst_key o,z];simp
   | none=>simp
 rw [e];exact (ac7 _ _ ks).trans ((aqu H Z J).append (aqu H uB hB))
theorem aog {both o:PV->PV->List PV}{gone:PV->PV}{A B:List PV} (h:∀ x,x∈A->∀ y,y∈B->key x=key y->(both x y).Perm (o x y)):(A.flatMap (cmn key both gone B)).Perm (A.flatMap (cmn key o gone B)):=amd λx H=>by
 unfold cmn;cases z:fst key (key x) B with
 | some y=>exact h x H y (aa2 z) (fst_key z).symm
 | none=>exact .refl _
theorem ad7 {both:PV->PV->List PV}{gone new:PV->PV}{A B:List PV}{S:κ->PV->Prop}{R:PV->PV->Prop} (hc:Key c) (aa:∀ k M e J,c k M<0->S k e->S M J->R e J)
 (hb:∀ x,x∈A->∀ y,y∈B->key x=key y->(both x y).Pairwise R/\∀ e,e∈both x y->S (key x) e) (hg:∀ x,x∈A->S (key x) (gone x)) (hn:∀ y,y∈B->S (key y) (new y)):
 (mrgF c key both gone new A B).Pairwise R/\∀ e,e∈mrgF c key both gone new A B->∃ k,S k e/\(k∈A.map key\/k∈B.map key):=by
 have hp:(ab3 c key B (ab3 c key A [])).Pairwise λx y=>c x y<0:=ak0 hc (ak0 hc .nil)
 have O:∀ k e,e∈blk key both gone new A B k->S k e/\(k∈A.map key\/k∈B.map key):=λk e z=>by
  unfold blk at z;cases H:fst key k A with
  | some x=>
   have I:=fst_key H;have mx:k∈A.map key:=by rw [<-I];exact List.mem_map_of_mem (aa2 H)
   cases o:fst key k B with
   | some y=>rw [H,o] at z;rw [<-I];exact ⟨(hb x (aa2 H) y (aa2 o) (I.trans (fst_key o).symm)).2 e z,Or.inl (by rw [I];exact mx)⟩
   | none=>rw [H,o] at z;rw [List.mem_singleton.1 z,<-I];exact ⟨hg x (aa2 H),Or.inl (by rw [I];exact mx)⟩
  | none=>
   cases o:fst key k B with
   | some y=>
    rw [H,o] at z;have my:k∈B.map key:=by rw [<-fst_key o];exact List.mem_map_of_mem (aa2 o)
    rw [List.mem_singleton.1 z];exact ⟨by rw [<-fst_key o];exact hn y (aa2 o),Or.inr my⟩
   | none=>rw [H,o] at z;cases z
 refine ⟨?_,λe z=>?_⟩
 ·unfold mrgF;rw [List.pairwise_flatMap];refine ⟨λk hk=>?_,hp.imp λ{k M} h e z J Z=>aa k M e J h (O k e z).1 (O M J Z).1⟩;unfold blk;cases H:fst key k A with
  | some x=>
   cases o:fst key k B with
   | some y=>exact (hb x (aa2 H) y (aa2 o) ((fst_key H).trans (fst_key o).symm)).1
   | none=>exact .cons (λ_ h=>by cases h) .nil
  | none=>
   cases o:fst key k B with
   | some y=>exact .cons (λ_ h=>by cases h) .nil
   | none=>exact .nil
 ·obtain ⟨k,_,hk⟩:=List.mem_flatMap.1 z;exact ⟨k,(O k e hk).1,(O k e hk).2⟩
end
theorem ama {x y:Int} (h:x<0):or2 x y<0:=by unfold or2;rw [if_neg (by omega)];exact h
theorem aez {x y:Int} (h:x=0):or2 x y=y:=by unfold or2;rw [if_pos h]
theorem cmp_g {a b:PV} (h:grp (chK a)<grp (chK b)):cmpC a b<0:=by unfold cmpC orL;exact ama (by unfold cI;rw [if_pos h];omega)
theorem cmp_d {a b:PV} (o:grp (chK a)=grp (chK b)) (h:cB (chD a) (chD b)<0):cmpC a b<0:=by unfold cmpC orL;rw [aez (cI_zero.2 o)];exact ama h
theorem a5e {a b:PV} (o:grp (chK a)=grp (chK b)) (z:chD a=chD b) (h:chN a<chN b):cmpC a b<0:=by unfold cmpC orL orL;rw [aez (cI_zero.2 o),aez (cB_zero.2 z)];exact ama (by unfold cI;rw [if_pos h];omega)
theorem cmp_m {a b:PV} (o:grp (chK a)=grp (chK b)) (z:chD a=chD b) (H:chN a=chN b) (h:cB (mth a) (mth b)<0):cmpC a b<0:=by unfold cmpC orL orL orL;rw [aez (cI_zero.2 o),aez (cB_zero.2 z),aez (cI_zero.2 H)];exact ama h
theorem cmp_k {a b:PV} (o:grp (chK a)=grp (chK b)) (z:chD a=chD b) (H:chN a=chN b) (I:mth a=mth b) (h:chK a<chK b):cmpC a b<0:=by unfold cmpC orL orL orL orL;rw [aez (cI_zero.2 o),aez (cB_zero.2 z),aez (cI_zero.2 H),aez (cB_zero.2 I)];exact ama (by unfold cI;rw [if_pos h];omega)
abbrev Lt (a b:PV):Prop:=cmpC a b<0
structure At (g:Int) (d:Bq) (n:Int) (m:Bq) (e:PV):Prop where
 g:grp (chK e)=g
 d:chD e=d
 n:chN e=n
 m:mth e=m
theorem At.lt {g n:Int}{d m:Bq}{e z:PV} (h:At g d n m e) (o:At g d n m z) (k:chK e<chK z):Lt e z:=cmp_k (h.g.trans o.g.symm) (h.d.trans o.d.symm) (h.n.trans o.n.symm) (h.m.trans o.m.symm) k
theorem amf {g n:Int}{d m:Bq}{b:Bool}{x:PV}{l:List PV} (z:At g d n m x) (h:l.Pairwise Lt/\∀ e,e∈l->At g d n m e/\chK x<chK e) {k:Int} (H:k<chK x):(dif b x++l).Pairwise Lt/\∀ e,e∈dif b x++l->At g d n m e/\k<chK e:=by
 cases b with
 | false=>exact ⟨h.1,λe o=>⟨(h.2 e o).1,by have:=(h.2 e o).2;omega⟩⟩
 | true=>
  refine ⟨.cons (λe o=>z.lt (h.2 e o).1 (h.2 e o).2) h.1,λe o=>?_⟩;rcases Bl.1 o with rfl | o
  ·exact ⟨z,H⟩
  ·exact ⟨(h.2 e o).1,by have:=(h.2 e o).2;omega⟩
theorem a4k {g n:Int}{d m:Bq}{b:Bool}{x:PV} (z:At g d n m x) {k:Int} (o:k<chK x):(dif b x).Pairwise Lt/\∀ e,e∈dif b x->At g d n m e/\k<chK e:=by have:=amf (b:=b) z (l:=[]) ⟨.nil,λe h=>by cases h⟩ o;rw [List.append_nil] at this;exact this
theorem aug (d:Bq) (x y:PV):(acq d x y).Pairwise Lt/\∀ e,e∈acq d x y->At 1 d (kNum x) [] e:=by
 have a:∀ (k:Int) (o w:Bq),5<=k->k<=10->At 1 d (kNum x) [] (chg k d (x.fld 0).asInt o w):=λk o w I z=>by
  refine ⟨?_,rfl,rfl,?_⟩
  ·show grp k=1;unfold grp;rw [if_pos ⟨by omega,z⟩]
  ·unfold mth;have e:chK (chg k d (x.fld 0).asInt o w)=k:=rfl;rw [e,if_neg (by omega),if_neg (by omega),if_neg (by omega)]
 have h:=amf (b:=ne5 x y) (a 5 (x.fld 1).asStr (y.fld 1).asStr (by omega) (by omega)) (amf (b:=ne6 x y) (a 6 (agl (x.fld 4)) (agl (y.fld 4)) (by omega) (by omega)) (amf (b:=ne7 x y) (a 7 (agr (x.fld 2).asInt) (agr (y.fld 2).asInt) (by omega) (by omega)) (amf (b:=ne8 x y) (a 8 (kw (x.fld 3).asInt) (kw (y.fld 3).asInt) (by omega) (by omega)) (amf (b:=ne9 x y) (a 9 (x.fld 5).asStr (y.fld 5).asStr (by omega) (by omega)) (a4k (b:=ne10 x y) (a 10 (litF x) (litF y) (by omega) (by omega)) (show (9:Int)<10 by omega)) (show (8:Int)<9 by omega)) (show (7:Int)<8 by omega)) (show (6:Int)<7 by omega)) (show (5:Int)<6 by omega)) (show (0:Int)<5 by omega);exact ⟨h.1,λe H=>(h.2 e H).1⟩
def InD (g:Int) (d:Bq) (e:PV):Prop:=grp (chK e)=g/\chD e=d
noncomputable def aey (a b:PV):List PV:=mrgF cI kNum (acq (aac a)) (λf=>chg 3 (aac a) (f.fld 0).asInt (f.fld 1).asStr []) (λf=>chg 4 (aac a) (f.fld 0).asInt [] (f.fld 1).asStr) (a.fld 1).asList (b.fld 1).asList
theorem avr (a b:PV):(aey a b).Pairwise Lt/\∀ e,e∈aey a b->InD 1 (aac a) e:=by
 have h:=ad7 (key:=kNum) (c:=cI) (both:=acq (aac a)) (gone:=λf=>chg 3 (aac a) (f.fld 0).asInt (f.fld 1).asStr []) (new:=λf=>chg 4 (aac a) (f.fld 0).asInt [] (f.fld 1).asStr) (A:=(a.fld 1).asList) (B:=(b.fld 1).asList)
  (S:=λk e=>InD 1 (aac a) e/\chN e=k) (R:=Lt) Key.cI (λk J e I o h z=>a5e (h.1.1.trans z.1.1.symm) (h.1.2.trans z.1.2.symm) (by
   rw [h.2,z.2];unfold cI at o;split at o
   ·assumption
   ·split at o<;>omega))
  (λx _ y _ _=>⟨(aug _ x y).1,λe H=>by have q:=(aug (aac a) x y).2 e H;exact ⟨⟨q.g,q.d⟩,q.n⟩⟩) (λx _=>⟨⟨rfl,rfl⟩,rfl⟩) (λy _=>⟨⟨rfl,rfl⟩,rfl⟩)
 exact ⟨h.1,λe H=>by obtain ⟨k,o,_⟩:=h.2 e H;exact o.1⟩
theorem aql {a b:PV} (h:((a.fld 1).asList.map kNum).Nodup) (o:((b.fld 1).asList.map kNum).Nodup):(aey a b).Perm (ac5 a b):=ahn Key.cI h o
def a4e (a b:PV):List PV:=mrgF cI abg (ahw (aac a)) (λf=>chg 14 (aac a) (f.fld 1).asInt (f.fld 0).asStr []) (λf=>chg 15 (aac a) (f.fld 1).asInt [] (f.fld 0).asStr) (a.fld 2).asList (b.fld 2).asList
def alp (a b:PV):List PV:=ajw a b++a4e a b
theorem a1a {a b:PV} (pa:∀ x,x∈(a.fld 2).asList->0<=abg x) (pb:∀ x,x∈(b.fld 2).asList->0<=abg x):(alp a b).Pairwise Lt/\∀ e,e∈alp a b->InD 2 (aac a) e:=by
 have h:=ad7 (key:=abg) (c:=cI) (both:=ahw (aac a)) (gone:=λf=>chg 14 (aac a) (f.fld 1).asInt (f.fld 0).asStr []) (new:=λf=>chg 15 (aac a) (f.fld 1).asInt [] (f.fld 0).asStr) (A:=(a.fld 2).asList) (B:=(b.fld 2).asList)
  (S:=λk e=>InD 2 (aac a) e/\chN e=k) (R:=Lt) Key.cI (λk k' e M o h H=>a5e (h.1.1.trans H.1.1.symm) (h.1.2.trans H.1.2.symm) (by
   rw [h.2,H.2];unfold cI at o;split at o
   ·assumption
   ·split at o<;>omega))
  (λx _ y _ _=>⟨by unfold ahw dif;cases (!((x.fld 0).asStr==(y.fld 0).asStr))<;>simp,adq ⟨⟨rfl,rfl⟩,rfl⟩⟩) (λx _=>⟨⟨rfl,rfl⟩,rfl⟩) (λy _=>⟨⟨rfl,rfl⟩,rfl⟩)
 have Z:∀ e,e∈ajw a b->InD 2 (aac a) e/\chN e=-1:=adq ⟨⟨rfl,rfl⟩,rfl⟩;have O:∀ e,e∈a4e a b->InD 2 (aac a) e/\0<=chN e:=λe z=>by
  obtain ⟨k,⟨h1,h2⟩,o⟩:=h.2 e z;refine ⟨h1,?_⟩;rw [h2];rcases o with o | o
  ·obtain ⟨x,J,rfl⟩:=List.mem_map.1 o;exact pa x J
  ·obtain ⟨x,J,rfl⟩:=List.mem_map.1 o;exact pb x J
 refine ⟨?_,ach (λe z=>(Z e z).1) (λe z=>(O e z).1)⟩;unfold alp;rw [List.pairwise_append];refine ⟨by unfold ajw dif;cases (!((a.fld 1).asBool==(b.fld 1).asBool))<;>simp,h.1,λe z M I=>?_⟩;have q:=Z e z;have q':=O M I;exact a5e (q.1.1.trans q'.1.1.symm) (q.1.2.trans q'.1.2.symm) (by rw [q.2];omega)
theorem avk {a b:PV} (h:((a.fld 2).asList.map abg).Nodup) (o:((b.fld 2).asList.map abg).Nodup):(alp a b).Perm (aip a b):=(List.Perm.refl _).append (ahn Key.cI h o)
theorem av1:∀ {n:Bq} (r:Bq),(∀ b,b∈n->b≠58)->Lib.index (n++([58,32]++r)) [58,32]=n.length:=by
 intro n;induction n with
 | nil=>intro r _;simp [Lib.index,List.isPrefixOf]
 | cons b n o=>
  intro r h;have o:=o r λx I=>h x (List.mem_cons_of_mem _ I);have z:b≠58:=h b (List.mem_cons_self ..);have H:([58,32]:Bq).isPrefixOf (b::(n++([58,32]++r)))=false:=by
   simp only [List.isPrefixOf];have:((58:UInt8)==b)=false:=by simpa using λe=>z e.symm
   rw [this,Bool.false_and]
  rw [Bm,Lib.index,H,o,if_neg (by decide)];have:(((n.length:Nat):Int)==-1)=false:=by simp
  rw [this,if_neg (by decide),Am];omega
theorem aud {n:Bq} (r:Bq) (h:∀ b,b∈n->b≠58):(Lib.cut (n++([58,32]++r)) [58,32]).1=n:=by unfold Lib.cut;rw [av1 r h,if_pos (by omega)];simp
theorem an4 {s:Bq} (h:aje s=true):∀ b,b∈s->b≠58:=by
 unfold aje at h;rw [Ai] at h;have h:=h.1;intro b o e;subst e;match s,h,o with
 | c::r,h,o=>
  simp only [adz,Ai,List.all_eq_true] at h;rcases Bl.1 o with rfl | o
  ·exact absurd h.1.2 (by decide)
  ·exact absurd (h.2 58 o) (by decide)
def svcR (a b:PV):List PV:=mrgF cB aac (afz (aac a)) (λf=>chg 19 (aac a) (-1) (f.fld 0).asStr []) (λf=>chg 20 (aac a) (-1) [] (f.fld 0).asStr) (a.fld 1).asList (b.fld 1).asList
theorem a5z {d:Bq}{x y:PV} (o:aje (aac x)=true):(afz d x y).Pairwise Lt/\∀ e,e∈afz d x y->At 3 d (-1) (aac x) e:=by
 have z:At 3 d (-1) (aac x) (chg 21 d (-1) (act x) (act y)):=⟨rfl,rfl,rfl,by show (Lib.cut (act x) [58,32]).1=_;unfold act;rw [Ap,Ap,Ap];exact aud _ (an4 o)⟩
 have H:At 3 d (-1) (aac x) (chg 22 d (-1) (shT x x) (shT x y)):=⟨rfl,rfl,rfl,by show (Lib.cut (shT x x) [58,32]).1=_;unfold shT;rw [Ap];exact aud _ (an4 o)⟩
 have h:=amf (b:=ne21 x y) z (a4k (b:=ne22 x y) H (show (21:Int)<22 by omega)) (show (0:Int)<21 by omega);exact ⟨h.1,λe I=>(h.2 e I).1⟩
theorem a6m {a b:PV} (J:∀ x,x∈(a.fld 1).asList->aje (aac x)=true):(svcR a b).Pairwise Lt/\∀ e,e∈svcR a b->InD 3 (aac a) e:=by
 have h:=ad7 (key:=aac) (c:=cB) (both:=afz (aac a)) (gone:=λf=>chg 19 (aac a) (-1) (f.fld 0).asStr []) (new:=λf=>chg 20 (aac a) (-1) [] (f.fld 0).asStr) (A:=(a.fld 1).asList) (B:=(b.fld 1).asList)
  (S:=λk e=>At 3 (aac a) (-1) k e) (R:=Lt) Key.cB (λk O e M z h o=>cmp_m (h.g.trans o.g.symm) (h.d.trans o.d.symm) (h.n.trans o.n.symm) (by rw [h.m,o.m];exact z))
  (λx I y _ _=>a5z (J x I)) (λx _=>⟨rfl,rfl,rfl,rfl⟩) (λy _=>⟨rfl,rfl,rfl,rfl⟩)
 exact ⟨h.1,λe H=>by obtain ⟨k,z,_⟩:=h.2 e H;exact ⟨z.g,z.d⟩⟩
theorem az6 {a b:PV} (h:((a.fld 1).asList.map aac).Nodup) (o:((b.fld 1).asList.map aac).Nodup):(svcR a b).Perm (svcC a b):=ahn Key.cB h o
noncomputable def rM (a b:PV):List PV:=mrgF cB aac aey (λm=>chg 1 (aac m) (-1) [] []) (λm=>chg 2 (aac m) (-1) [] []) (a.fld 0).asList (b.fld 0).asList
def rE (a b:PV):List PV:=mrgF cB aac alp (λm=>chg 11 (aac m) (-1) [] []) (λm=>chg 12 (aac m) (-1) [] []) (a.fld 1).asList (b.fld 1).asList
def rS (a b:PV):List PV:=mrgF cB aac svcR (λm=>chg 17 (aac m) (-1) [] []) (λm=>chg 18 (aac m) (-1) [] []) (a.fld 2).asList (b.fld 2).asList
noncomputable def refC (a b:PV):List PV:=rM a b++(rE a b++rS a b)
structure SUp (s:PV):Prop where
 uq:SUq s
 item:∀ m,m∈(s.fld 1).asList->∀ x,x∈(m.fld 2).asList->0<=abg x
 meth:∀ m,m∈(s.fld 2).asList->∀ x,x∈(m.fld 1).asList->aje (aac x)=true
theorem SchemaV.up {s:PV} (h:SchemaV s):SUp s:=by
 have o:∀ {l:List PV}{x:PV},x∈l->∃ i,i<l.length/\l.getD i .bad=x:=λ{l x} H=>by obtain ⟨i,z,rfl⟩:=List.mem_iff_getElem.1 H;exact ⟨i,z,aaf z⟩
 refine ⟨h.uq,λm J x H=>?_,λm J x H=>?_⟩
 ·obtain ⟨i,z,rfl⟩:=o J;obtain ⟨j,I,rfl⟩:=o H;exact (h.enum i z j I).pos
 ·obtain ⟨i,z,rfl⟩:=o J;obtain ⟨j,I,rfl⟩:=o H;exact (h.svc i z j I).name
theorem ami {a b:PV} (h:SUq a) (o:SUq b):(refC a b).Perm (raw a b):=by have I:(rM a b).Perm (gM a b++nM a b):=(ahn Key.cB h.m o.m).trans ((aog λx z y H _=>aql (h.ms x z) (o.ms y H)).append (.refl _));have J:(rE a b).Perm (gE a b++nE a b):=(ahn Key.cB h.e o.e).trans ((aog λx z y H _=>avk (h.es x z) (o.es y H)).append (.refl _));have M:(rS a b).Perm (gS a b++nS a b):=(ahn Key.cB h.v o.v).trans ((aog λx z y H _=>az6 (h.vs x z) (o.vs y H)).append (.refl _));exact (I.append (J.append M)).trans (a6g ..).symm
theorem ao5 {g:Int}:∀ (k z:Bq) (e o:PV),cB k z<0->InD g k e->InD g z o->Lt e o:=λk z e o I h H=>cmp_d (h.1.trans H.1.symm) (by rw [h.2,H.2];exact I)
theorem a6i {a b:PV} (ua:SUp a) (ub:SUp b):(refC a b).Pairwise Lt/\∀ e,e∈refC a b->∃ i,i<3/\(chD e∈(a.fld i).asList.map aac\/chD e∈(b.fld i).asList.map aac):=by
 have h1:=ad7 (key:=aac) (c:=cB) (both:=aey) (gone:=λm=>chg 1 (aac m) (-1) [] []) (new:=λm=>chg 2 (aac m) (-1) [] []) (A:=(a.fld 0).asList) (B:=(b.fld 0).asList) (S:=λk e=>InD 1 k e) (R:=Lt) Key.cB ao5 (λx _ y _ _=>avr x y) (λx _=>⟨rfl,rfl⟩) (λy _=>⟨rfl,rfl⟩);have M:=ad7 (key:=aac) (c:=cB) (both:=alp) (gone:=λm=>chg 11 (aac m) (-1) [] []) (new:=λm=>chg 12 (aac m) (-1) [] []) (A:=(a.fld 1).asList) (B:=(b.fld 1).asList) (S:=λk e=>InD 2 k e) (R:=Lt) Key.cB ao5 (λx hx y hy _=>a1a (ua.item x hx) (ub.item y hy)) (λx _=>⟨rfl,rfl⟩) (λy _=>⟨rfl,rfl⟩);have O:=ad7 (key:=aac) (c:=cB) (both:=svcR) (gone:=λm=>chg 17 (aac m) (-1) [] []) (new:=λm=>chg 18 (aac m) (-1) [] []) (A:=(a.fld 2).asList) (B:=(b.fld 2).asList) (S:=λk e=>InD 3 k e) (R:=Lt) Key.cB ao5 (λx hx y hy _=>a6m (ua.meth x hx)) (λx _=>⟨rfl,rfl⟩) (λy _=>⟨rfl,rfl⟩);have g:∀ {g g':Int}{k Z:Bq}{e H:PV},InD g k e->InD g' Z H->g<g'->Lt e H:=λh h' hl=>cmp_g (by rw [h.1,h'.1];exact hl);refine ⟨?_,ach (λe z=>?_) (ach (λe z=>?_) (λe z=>?_))⟩
 ·unfold refC;rw [List.pairwise_append,List.pairwise_append];refine ⟨h1.1,⟨M.1,O.1,λe z H o=>?_⟩,λe z H o=>?_⟩
  ·obtain ⟨k,q,_⟩:=M.2 e z;obtain ⟨Z,J,_⟩:=O.2 H o;exact g q J (by omega)
  ·obtain ⟨k,q,_⟩:=h1.2 e z;rcases Bk.1 o with o | o
   ·obtain ⟨Z,J,_⟩:=M.2 H o;exact g q J (by omega)
   ·obtain ⟨Z,J,_⟩:=O.2 H o;exact g q J (by omega)
 ·obtain ⟨k,q,I⟩:=h1.2 e z;exact ⟨0,by omega,by rw [q.2];exact I⟩
 ·obtain ⟨k,q,I⟩:=M.2 e z;exact ⟨1,by omega,by rw [q.2];exact I⟩
 ·obtain ⟨k,q,I⟩:=O.2 e z;exact ⟨2,by omega,by rw [q.2];exact I⟩
theorem asc {a b:PV} (Z:SOk a) (hb:SOk b) (o:SUp a) (z:SUp b) (H:aau a<=1048576) (I:aau b<=1048576):F14 0 a b=some (refC a b):=by obtain ⟨ys,J,M,O⟩:=a04 Z hb o.uq z.uq H I;have p:=ami o.uq z.uq;have t:=(a2k z.uq o.uq).symm;have e:ys=refC a b:=awu (l:=raw b a) (M.trans t) (p.trans t) O ((a6i o z).1.imp λ{x y} h=>by unfold leC;omega);rw [J,e]
end Go.Ab
