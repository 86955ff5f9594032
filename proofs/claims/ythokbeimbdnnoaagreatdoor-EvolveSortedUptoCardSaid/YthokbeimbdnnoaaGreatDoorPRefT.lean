/- The changes in the order of the specification: merged by keys; they ascend strictly. -/
import Derived.Test.YthokbeimbdnnoaaGreatDoorPTurnT
set_option linter.unusedVariables false
set_option linter.unusedSimpArgs false
set_option linter.unnecessarySimpa false
namespace Go.Ab
open Go
set_option maxRecDepth 100000
theorem Lin.ltt {α:Type}{c:α->α->Int} (h:Lin c) {x y z:α} (h1:c x y<0) (h2:c y z<0):c x z<0:=by
 have:=h.tr x y z (by omega) (by omega)
 rcases Int.lt_or_eq_of_le this.1 with h3 | h3
 ·exact h3
 ·have:=(this.2 h3).1;omega
structure Key {κ:Type} (c:κ->κ->Int):Prop where
 lin:Lin c
 zero:∀ x y,c x y=0 ↔ x=y
theorem Key.cI:Key Ab.cI:=⟨Lin.cI,fun _ _=>cI_zero⟩
theorem Key.cB:Key Ab.cB:=⟨Lin.cB,fun _ _=>cB_zero⟩
def insK {κ:Type} (c:κ->κ->Int) (s:κ):List κ->List κ
 | []=>[s]
 | x::r=>if c x s=0 then x::r else if c s x<0 then s::x::r else x::insK c s r
def ahc {κ:Type} (c:κ->κ->Int) (key:PV->κ) (l:List PV) (acc:List κ):List κ:=l.foldl (fun a x=>insK c (key x) a) acc
theorem atg {κ:Type}{c:κ->κ->Int} (hc:Key c) {s y:κ}:∀ {l:List κ},y∈insK c s l ↔ y=s∨y∈l:=by
 intro l
 induction l with
 | nil=>simp [insK]
 | cons x r ih=>
  unfold insK
  by_cases h0:c x s=0
  ·have e:=(hc.zero x s).1 h0
   subst e
   rw [if_pos h0]
   simp
  ·rw [if_neg h0]
   by_cases h1:c s x<0
   ·rw [if_pos h1];simp
   ·rw [if_neg h1,List.mem_cons,ih,List.mem_cons]
    constructor<;>(intro h;rcases h with h | h | h<;>simp [h])
theorem a3g {κ:Type}{c:κ->κ->Int} (hc:Key c) {s:κ}:∀ {l:List κ},l.Pairwise (fun x y=>c x y<0)->(insK c s l).Pairwise fun x y=>c x y<0:=by
 intro l
 induction l with
 | nil=>intro _;exact .cons (fun _ h=>by cases h) .nil
 | cons x r ih=>
  intro h
  obtain ⟨h1,h2⟩:=List.pairwise_cons.1 h
  unfold insK
  by_cases h0:c x s=0
  ·rw [if_pos h0];exact h
  ·rw [if_neg h0]
   by_cases h3:c s x<0
   ·rw [if_pos h3]
    refine .cons (fun y hy=>?_) h
    rcases List.mem_cons.1 hy with rfl | hy
    ·exact h3
    ·exact hc.lin.ltt h3 (h1 y hy)
   ·rw [if_neg h3]
    refine .cons (fun y hy=>?_) (ih h2)
    rcases (atg hc).1 hy with rfl | hy
    ·have:=hc.lin.anti x y;omega
    ·exact h1 y hy
theorem ak9 {κ:Type}{c:κ->κ->Int} (hc:Key c) {key:PV->κ}{y:κ}:∀ {l:List PV}{acc:List κ},y∈ahc c key l acc ↔ y∈l.map key∨y∈acc:=by
 intro l
 induction l with
 | nil=>intro acc;simp [ahc]
 | cons x r ih=>
  intro acc
  show y∈ahc c key r (insK c (key x) acc) ↔ _
  rw [ih,atg hc,List.map_cons,List.mem_cons]
  constructor
  ·rintro (h | h | h)
   ·exact .inl (.inr h)
   ·exact .inl (.inl h)
   ·exact .inr h
  ·rintro ((h | h) | h)
   ·exact .inr (.inl h)
   ·exact .inl h
   ·exact .inr (.inr h)
theorem akd {κ:Type}{c:κ->κ->Int} (hc:Key c) {key:PV->κ}:∀ {l:List PV}{acc:List κ},acc.Pairwise (fun x y=>c x y<0)->(ahc c key l acc).Pairwise fun x y=>c x y<0:=by
 intro l
 induction l with
 | nil=>intro acc h;exact h
 | cons x r ih=>intro acc h;exact ih (a3g hc h)
section
variable {κ:Type} [BEq κ] [LawfulBEq κ] {key:PV->κ}{c:κ->κ->Int}
def blk (key:PV->κ) (both:PV->PV->List PV) (gone new:PV->PV) (A B:List PV) (k:κ):List PV:=
 match fst key k A with
 | some x=>(match fst key k B with | some y=>both x y | none=>[gone x])
 | none=>(match fst key k B with | some y=>[new y] | none=>[])
def mrgF (c:κ->κ->Int) (key:PV->κ) (both:PV->PV->List PV) (gone new:PV->PV) (A B:List PV):List PV:=(ahc c key B (ahc c key A [])).flatMap (blk key both gone new A B)
theorem a3v {G:List PV}{k:κ}:∀ {ks:List κ},ks.Nodup->k∈ks->(ks.flatMap fun j=>bif k==j then G else [])=G:=by
 intro ks
 induction ks with
 | nil=>intro _ h;cases h
 | cons a r ih=>
  intro hn hm
  obtain ⟨h1,h2⟩:=List.nodup_cons.1 hn
  rw [List.flatMap_cons]
  cases h:k==a with
  | true=>
   have e:=eq_of_beq h
   subst e
   have:(r.flatMap fun j=>bif k==j then G else [])=r.flatMap fun _=>[]:=ac9 fun j hj=>by
    cases h3:k==j with
    | false=>rfl
    | true=>exact absurd (by rw [eq_of_beq h3];exact hj) h1
   rw [this,anw,List.append_nil]
   rfl
  | false=>
   rcases List.mem_cons.1 hm with rfl | hm
   ·simp at h
   ·rw [ih h2 hm];rfl
theorem apr {G:PV->List PV}{ks:List κ}{A:List PV} (hn:ks.Nodup) (uA:(A.map key).Nodup) (hs:∀ x,x∈A->key x∈ks):(ks.flatMap fun k=>match fst key k A with | some x=>G x | none=>[]).Perm (A.flatMap G):=by
 have e1:(ks.flatMap fun k=>match fst key k A with | some x=>G x | none=>[])=ks.flatMap fun k=>A.flatMap fun x=>bif key x==k then G x else []:=ac9 fun k _=>arl uA
 have e2:(A.flatMap fun x=>ks.flatMap fun k=>bif key x==k then G x else [])=A.flatMap G:=ac9 fun x hx=>a3v hn (hs x hx)
 rw [e1]
 refine (ap3 (fun k x=>bif key x==k then G x else []) A ks).trans ?_
 rw [e2]
theorem az3 {k:κ}{l:List PV} (h:fst key k l=none):∀ x,x∈l->key x≠k:=fun x hx e=>by
 unfold fst at h
 have:=List.find?_eq_none.1 h x hx
 simp [e] at this
theorem ag2 {both:PV->PV->List PV}{gone new:PV->PV}{A B:List PV} (hc:Key c) (uA:(A.map key).Nodup) (uB:(B.map key).Nodup):(mrgF c key both gone new A B).Perm (A.flatMap (cmn key both gone B)++B.flatMap (nws key new A)):=by
 have hp:(ahc c key B (ahc c key A [])).Pairwise fun x y=>c x y<0:=akd hc (akd hc .nil)
 have hn:=akh hc.lin hp
 have hA:∀ x,x∈A->key x∈ahc c key B (ahc c key A []):=fun x hx=>(ak9 hc).2 (Or.inr ((ak9 hc).2 (Or.inl (List.mem_map_of_mem hx))))
 have hB:∀ x,x∈B->key x∈ahc c key B (ahc c key A []):=fun x hx=>(ak9 hc).2 (Or.inl (List.mem_map_of_mem hx))
 unfold mrgF
 generalize ahc c key B (ahc c key A [])=ks at hn hA hB ⊢
 have e:ks.flatMap (blk key both gone new A B)=ks.flatMap fun k=>(match fst key k A with | some x=>cmn key both gone B x | none=>[])++(match fst key k B with | some y=>nws key new A y | none=>[]):=ac9 fun k _=>by
  unfold blk cmn nws
  cases ha:fst key k A with
  | some x=>
   have kx:=adk ha
   cases hb:fst key k B with
   | some y=>dsimp only;rw [kx,hb,adk hb,ha];simp
   | none=>dsimp only;rw [kx,hb];simp
  | none=>
   cases hb:fst key k B with
   | some y=>dsimp only;rw [adk hb,ha];simp
   | none=>simp
 rw [e]
 exact (ac0 _ _ ks).trans ((apr hn uA hA).append (apr hn uB hB))
theorem anj {both both':PV->PV->List PV}{gone:PV->PV}{A B:List PV} (h:∀ x,x∈A->∀ y,y∈B->key x=key y->(both x y).Perm (both' x y)):(A.flatMap (cmn key both gone B)).Perm (A.flatMap (cmn key both' gone B)):=alr fun x hx=>by
 unfold cmn
 cases hf:fst key (key x) B with
 | some y=>exact h x hx y (aci hf) (adk hf).symm
 | none=>exact .refl _
theorem adx {both:PV->PV->List PV}{gone new:PV->PV}{A B:List PV}{S:κ->PV->Prop}{R:PV->PV->Prop} (hc:Key c) (hlt:∀ k k' e e',c k k'<0->S k e->S k' e'->R e e')
 (hb:∀ x,x∈A->∀ y,y∈B->key x=key y->(both x y).Pairwise R/\∀ e,e∈both x y->S (key x) e) (hg:∀ x,x∈A->S (key x) (gone x)) (hn:∀ y,y∈B->S (key y) (new y)):
 (mrgF c key both gone new A B).Pairwise R/\∀ e,e∈mrgF c key both gone new A B->∃ k,S k e/\(k∈A.map key∨k∈B.map key):=by
 have hp:(ahc c key B (ahc c key A [])).Pairwise fun x y=>c x y<0:=akd hc (akd hc .nil)
 have hS:∀ k e,e∈blk key both gone new A B k->S k e/\(k∈A.map key∨k∈B.map key):=fun k e he=>by
  unfold blk at he
  cases ha:fst key k A with
  | some x=>
   have kx:=adk ha
   have mx:k∈A.map key:=by rw [<-kx];exact List.mem_map_of_mem (aci ha)
   cases hb':fst key k B with
   | some y=>
    rw [ha,hb'] at he
    rw [<-kx]
    exact ⟨(hb x (aci ha) y (aci hb') (kx.trans (adk hb').symm)).2 e he,Or.inl (by rw [kx];exact mx)⟩
   | none=>
    rw [ha,hb'] at he
    rw [List.mem_singleton.1 he,<-kx]
    exact ⟨hg x (aci ha),Or.inl (by rw [kx];exact mx)⟩
  | none=>
   cases hb':fst key k B with
   | some y=>
    rw [ha,hb'] at he
    have my:k∈B.map key:=by rw [<-adk hb'];exact List.mem_map_of_mem (aci hb')
    rw [List.mem_singleton.1 he]
    exact ⟨by rw [<-adk hb'];exact hn y (aci hb'),Or.inr my⟩
   | none=>rw [ha,hb'] at he;cases he
 refine ⟨?_,fun e he=>?_⟩
 ·unfold mrgF
  rw [List.pairwise_flatMap]
  refine ⟨fun k hk=>?_,hp.imp fun {k k'} h e he e' he'=>hlt k k' e e' h (hS k e he).1 (hS k' e' he').1⟩
  unfold blk
  cases ha:fst key k A with
  | some x=>
   cases hb':fst key k B with
   | some y=>exact (hb x (aci ha) y (aci hb') ((adk ha).trans (adk hb').symm)).1
   | none=>exact .cons (fun _ h=>by cases h) .nil
  | none=>
   cases hb':fst key k B with
   | some y=>exact .cons (fun _ h=>by cases h) .nil
   | none=>exact .nil
 ·obtain ⟨k,_,hk⟩:=List.mem_flatMap.1 he
  exact ⟨k,(hS k e hk).1,(hS k e hk).2⟩
end
theorem alo {x y:Int} (h:x<0):or2 x y<0:=by unfold or2;rw [if_neg (by omega)];exact h
theorem aen {x y:Int} (h:x=0):or2 x y=y:=by unfold or2;rw [if_pos h]
theorem cmp_g {a b:PV} (h:grp (chK a)<grp (chK b)):cmpC a b<0:=by
 unfold cmpC orL
 exact alo (by unfold cI;rw [if_pos h];omega)
theorem cmp_d {a b:PV} (h1:grp (chK a)=grp (chK b)) (h:cB (chD a) (chD b)<0):cmpC a b<0:=by
 unfold cmpC orL
 rw [aen (cI_zero.2 h1)]
 exact alo h
theorem a2x {a b:PV} (h1:grp (chK a)=grp (chK b)) (h2:chD a=chD b) (h:chN a<chN b):cmpC a b<0:=by
 unfold cmpC orL orL
 rw [aen (cI_zero.2 h1),aen (cB_zero.2 h2)]
 exact alo (by unfold cI;rw [if_pos h];omega)
theorem cmp_m {a b:PV} (h1:grp (chK a)=grp (chK b)) (h2:chD a=chD b) (h3:chN a=chN b) (h:cB (mth a) (mth b)<0):cmpC a b<0:=by
 unfold cmpC orL orL orL
 rw [aen (cI_zero.2 h1),aen (cB_zero.2 h2),aen (cI_zero.2 h3)]
 exact alo h
theorem cmp_k {a b:PV} (h1:grp (chK a)=grp (chK b)) (h2:chD a=chD b) (h3:chN a=chN b) (h4:mth a=mth b) (h:chK a<chK b):cmpC a b<0:=by
 unfold cmpC orL orL orL orL
 rw [aen (cI_zero.2 h1),aen (cB_zero.2 h2),aen (cI_zero.2 h3),aen (cB_zero.2 h4)]
 exact alo (by unfold cI;rw [if_pos h];omega)
abbrev Lt (a b:PV):Prop:=cmpC a b<0
structure At (g:Int) (d:List UInt8) (n:Int) (m:List UInt8) (e:PV):Prop where
 g:grp (chK e)=g
 d:chD e=d
 n:chN e=n
 m:mth e=m
theorem At.lt {g n:Int}{d m:List UInt8}{e e':PV} (h:At g d n m e) (h':At g d n m e') (k:chK e<chK e'):Lt e e':=cmp_k (h.g.trans h'.g.symm) (h.d.trans h'.d.symm) (h.n.trans h'.n.symm) (h.m.trans h'.m.symm) k
theorem als {g n:Int}{d m:List UInt8}{b:Bool}{x:PV}{l:List PV} (hx:At g d n m x) (h:l.Pairwise Lt/\∀ e,e∈l->At g d n m e/\chK x<chK e) {k:Int} (hk:k<chK x):(dif b x++l).Pairwise Lt/\∀ e,e∈dif b x++l->At g d n m e/\k<chK e:=by
 cases b with
 | false=>exact ⟨h.1,fun e he=>⟨(h.2 e he).1,by have:=(h.2 e he).2;omega⟩⟩
 | true=>
  refine ⟨.cons (fun e he=>hx.lt (h.2 e he).1 (h.2 e he).2) h.1,fun e he=>?_⟩
  rcases List.mem_cons.1 he with rfl | he
  ·exact ⟨hx,hk⟩
  ·exact ⟨(h.2 e he).1,by have:=(h.2 e he).2;omega⟩
theorem a2g {g n:Int}{d m:List UInt8}{b:Bool}{x:PV} (hx:At g d n m x) {k:Int} (hk:k<chK x):(dif b x).Pairwise Lt/\∀ e,e∈dif b x->At g d n m e/\k<chK e:=by
 have:=als (b:=b) hx (l:=[]) ⟨.nil,fun e he=>by cases he⟩ hk
 rw [List.append_nil] at this
 exact this
theorem atc (d:List UInt8) (x y:PV):(ac8 d x y).Pairwise Lt/\∀ e,e∈ac8 d x y->At 1 d (kNum x) [] e:=by
 have a:∀ (k:Int) (o w:List UInt8),5<=k->k<=10->At 1 d (kNum x) [] (chg k d (x.fld 0).asInt o w):=fun k o w h1 h2=>by
  refine ⟨?_,rfl,rfl,?_⟩
  ·show grp k=1
   unfold grp;rw [if_pos ⟨by omega,h2⟩]
  ·unfold mth
   have e:chK (chg k d (x.fld 0).asInt o w)=k:=rfl
   rw [e,if_neg (by omega),if_neg (by omega),if_neg (by omega)]
 have h:=als (b:=ne5 x y) (a 5 (x.fld 1).asStr (y.fld 1).asStr (by omega) (by omega)) (als (b:=ne6 x y) (a 6 (aiv (x.fld 4)) (aiv (y.fld 4)) (by omega) (by omega)) (als (b:=ne7 x y) (a 7 (ah2 (x.fld 2).asInt) (ah2 (y.fld 2).asInt) (by omega) (by omega)) (als (b:=ne8 x y) (a 8 (kw (x.fld 3).asInt) (kw (y.fld 3).asInt) (by omega) (by omega)) (als (b:=ne9 x y) (a 9 (x.fld 5).asStr (y.fld 5).asStr (by omega) (by omega)) (a2g (b:=ne10 x y) (a 10 (litF x) (litF y) (by omega) (by omega)) (show (9:Int)<10 by omega)) (show (8:Int)<9 by omega)) (show (7:Int)<8 by omega)) (show (6:Int)<7 by omega)) (show (5:Int)<6 by omega)) (show (0:Int)<5 by omega)
 exact ⟨h.1,fun e he=>(h.2 e he).1⟩
def InD (g:Int) (d:List UInt8) (e:PV):Prop:=grp (chK e)=g/\chD e=d
noncomputable def ak2 (a b:PV):List PV:=mrgF cI kNum (ac8 (aac a)) (fun f=>chg 3 (aac a) (f.fld 0).asInt (f.fld 1).asStr []) (fun f=>chg 4 (aac a) (f.fld 0).asInt [] (f.fld 1).asStr) (a.fld 1).asList (b.fld 1).asList
theorem auq (a b:PV):(ak2 a b).Pairwise Lt/\∀ e,e∈ak2 a b->InD 1 (aac a) e:=by
 have h:=adx (key:=kNum) (c:=cI) (both:=ac8 (aac a)) (gone:=fun f=>chg 3 (aac a) (f.fld 0).asInt (f.fld 1).asStr []) (new:=fun f=>chg 4 (aac a) (f.fld 0).asInt [] (f.fld 1).asStr) (A:=(a.fld 1).asList) (B:=(b.fld 1).asList)
  (S:=fun k e=>InD 1 (aac a) e/\chN e=k) (R:=Lt) Key.cI (fun k k' e e' hk h h'=>a2x (h.1.1.trans h'.1.1.symm) (h.1.2.trans h'.1.2.symm) (by
   rw [h.2,h'.2]
   unfold cI at hk
   split at hk
   ·assumption
   ·split at hk<;>omega))
  (fun x _ y _ _=>⟨(atc _ x y).1,fun e he=>by have q:=(atc (aac a) x y).2 e he;exact ⟨⟨q.g,q.d⟩,q.n⟩⟩) (fun x _=>⟨⟨rfl,rfl⟩,rfl⟩) (fun y _=>⟨⟨rfl,rfl⟩,rfl⟩)
 exact ⟨h.1,fun e he=>by obtain ⟨k,hk,_⟩:=h.2 e he;exact hk.1⟩
theorem apk {a b:PV} (ua:((a.fld 1).asList.map kNum).Nodup) (ub:((b.fld 1).asList.map kNum).Nodup):(ak2 a b).Perm (acw a b):=ag2 Key.cI ua ub
def a2a (a b:PV):List PV:=mrgF cI acl (ak8 (aac a)) (fun f=>chg 14 (aac a) (f.fld 1).asInt (f.fld 0).asStr []) (fun f=>chg 15 (aac a) (f.fld 1).asInt [] (f.fld 0).asStr) (a.fld 2).asList (b.fld 2).asList
def auh (a b:PV):List PV:=alm a b++a2a a b
theorem azx {a b:PV} (pa:∀ x,x∈(a.fld 2).asList->0<=acl x) (pb:∀ x,x∈(b.fld 2).asList->0<=acl x):(auh a b).Pairwise Lt/\∀ e,e∈auh a b->InD 2 (aac a) e:=by
 have h:=adx (key:=acl) (c:=cI) (both:=ak8 (aac a)) (gone:=fun f=>chg 14 (aac a) (f.fld 1).asInt (f.fld 0).asStr []) (new:=fun f=>chg 15 (aac a) (f.fld 1).asInt [] (f.fld 0).asStr) (A:=(a.fld 2).asList) (B:=(b.fld 2).asList)
  (S:=fun k e=>InD 2 (aac a) e/\chN e=k) (R:=Lt) Key.cI (fun k k' e e' hk h h'=>a2x (h.1.1.trans h'.1.1.symm) (h.1.2.trans h'.1.2.symm) (by
   rw [h.2,h'.2]
   unfold cI at hk
   split at hk
   ·assumption
   ·split at hk<;>omega))
  (fun x _ y _ _=>⟨by unfold ak8 dif;cases (!((x.fld 0).asStr==(y.fld 0).asStr))<;>simp,adi ⟨⟨rfl,rfl⟩,rfl⟩⟩) (fun x _=>⟨⟨rfl,rfl⟩,rfl⟩) (fun y _=>⟨⟨rfl,rfl⟩,rfl⟩)
 have ho:∀ e,e∈alm a b->InD 2 (aac a) e/\chN e=-1:=adi ⟨⟨rfl,rfl⟩,rfl⟩
 have hi:∀ e,e∈a2a a b->InD 2 (aac a) e/\0<=chN e:=fun e he=>by
  obtain ⟨k,⟨h1,h2⟩,hk⟩:=h.2 e he
  refine ⟨h1,?_⟩
  rw [h2]
  rcases hk with hk | hk
  ·obtain ⟨x,hx,rfl⟩:=List.mem_map.1 hk;exact pa x hx
  ·obtain ⟨x,hx,rfl⟩:=List.mem_map.1 hk;exact pb x hx
 refine ⟨?_,ab6 (fun e he=>(ho e he).1) (fun e he=>(hi e he).1)⟩
 unfold auh
 rw [List.pairwise_append]
 refine ⟨by unfold alm dif;cases (!((a.fld 1).asBool==(b.fld 1).asBool))<;>simp,h.1,fun e he e' he'=>?_⟩
 have q:=ho e he;have q':=hi e' he'
 exact a2x (q.1.1.trans q'.1.1.symm) (q.1.2.trans q'.1.2.symm) (by rw [q.2];omega)
theorem aui {a b:PV} (ua:((a.fld 2).asList.map acl).Nodup) (ub:((b.fld 2).asList.map acl).Nodup):(auh a b).Perm (ah5 a b):=(List.Perm.refl _).append (ag2 Key.cI ua ub)
theorem auz:∀ {n:List UInt8} (r:List UInt8),(∀ b,b∈n->b≠58)->Lib.index (n++([58,32]++r)) [58,32]=n.length:=by
 intro n
 induction n with
 | nil=>intro r _;simp [Lib.index,List.isPrefixOf]
 | cons b n ih=>
  intro r h
  have ih:=ih r fun x hx=>h x (List.mem_cons_of_mem _ hx)
  have hb:b≠58:=h b (List.mem_cons_self ..)
  have hp:([58,32]:List UInt8).isPrefixOf (b::(n++([58,32]++r)))=false:=by
   simp only [List.isPrefixOf]
   have:((58:UInt8)==b)=false:=by simpa using fun e=>hb e.symm
   rw [this,Bool.false_and]
  rw [List.cons_append,Lib.index,hp,ih,if_neg (by decide)]
  have:(((n.length:Nat):Int)==-1)=false:=by simp
  rw [this,if_neg (by decide),List.length_cons]
  omega
theorem as9 {n:List UInt8} (r:List UInt8) (h:∀ b,b∈n->b≠58):(Lib.cut (n++([58,32]++r)) [58,32]).1=n:=by
 unfold Lib.cut
 rw [auz r h,if_pos (by omega)]
 simp
theorem am4 {s:List UInt8} (h:al0 s=true):∀ b,b∈s->b≠58:=by
 unfold al0 at h
 rw [Bool.and_eq_true] at h
 have h:=h.1
 intro b hb e
 subst e
 match s,h,hb with
 | c::r,h,hb=>
  simp only [ad8,Bool.and_eq_true,List.all_eq_true] at h
  rcases List.mem_cons.1 hb with rfl | hb
  ·exact absurd h.1.2 (by decide)
  ·exact absurd (h.2 58 hb) (by decide)
def svcR (a b:PV):List PV:=mrgF cB aac (ajb (aac a)) (fun f=>chg 19 (aac a) (-1) (f.fld 0).asStr []) (fun f=>chg 20 (aac a) (-1) [] (f.fld 0).asStr) (a.fld 1).asList (b.fld 1).asList
theorem a3q {d:List UInt8}{x y:PV} (hx:al0 (aac x)=true):(ajb d x y).Pairwise Lt/\∀ e,e∈ajb d x y->At 3 d (-1) (aac x) e:=by
 have a1:At 3 d (-1) (aac x) (chg 21 d (-1) (adf x) (adf y)):=⟨rfl,rfl,rfl,by
  show (Lib.cut (adf x) [58,32]).1=_
  unfold adf
  rw [List.append_assoc,List.append_assoc,List.append_assoc]
  exact as9 _ (am4 hx)⟩
 have a2:At 3 d (-1) (aac x) (chg 22 d (-1) (shT x x) (shT x y)):=⟨rfl,rfl,rfl,by
  show (Lib.cut (shT x x) [58,32]).1=_
  unfold shT
  rw [List.append_assoc]
  exact as9 _ (am4 hx)⟩
 have h:=als (b:=ne21 x y) a1 (a2g (b:=ne22 x y) a2 (show (21:Int)<22 by omega)) (show (0:Int)<21 by omega)
 exact ⟨h.1,fun e he=>(h.2 e he).1⟩
theorem a4d {a b:PV} (pa:∀ x,x∈(a.fld 1).asList->al0 (aac x)=true):(svcR a b).Pairwise Lt/\∀ e,e∈svcR a b->InD 3 (aac a) e:=by
 have h:=adx (key:=aac) (c:=cB) (both:=ajb (aac a)) (gone:=fun f=>chg 19 (aac a) (-1) (f.fld 0).asStr []) (new:=fun f=>chg 20 (aac a) (-1) [] (f.fld 0).asStr) (A:=(a.fld 1).asList) (B:=(b.fld 1).asList)
  (S:=fun k e=>At 3 (aac a) (-1) k e) (R:=Lt) Key.cB (fun k k' e e' hk h h'=>cmp_m (h.g.trans h'.g.symm) (h.d.trans h'.d.symm) (h.n.trans h'.n.symm) (by rw [h.m,h'.m];exact hk))
  (fun x hx y _ _=>a3q (pa x hx)) (fun x _=>⟨rfl,rfl,rfl,rfl⟩) (fun y _=>⟨rfl,rfl,rfl,rfl⟩)
 exact ⟨h.1,fun e he=>by obtain ⟨k,hk,_⟩:=h.2 e he;exact ⟨hk.g,hk.d⟩⟩
theorem ayo {a b:PV} (ua:((a.fld 1).asList.map aac).Nodup) (ub:((b.fld 1).asList.map aac).Nodup):(svcR a b).Perm (svcC a b):=ag2 Key.cB ua ub
noncomputable def rM (a b:PV):List PV:=mrgF cB aac ak2 (fun m=>chg 1 (aac m) (-1) [] []) (fun m=>chg 2 (aac m) (-1) [] []) (a.fld 0).asList (b.fld 0).asList
def rE (a b:PV):List PV:=mrgF cB aac auh (fun m=>chg 11 (aac m) (-1) [] []) (fun m=>chg 12 (aac m) (-1) [] []) (a.fld 1).asList (b.fld 1).asList
def rS (a b:PV):List PV:=mrgF cB aac svcR (fun m=>chg 17 (aac m) (-1) [] []) (fun m=>chg 18 (aac m) (-1) [] []) (a.fld 2).asList (b.fld 2).asList
noncomputable def refC (a b:PV):List PV:=rM a b++(rE a b++rS a b)
structure SUp (s:PV):Prop where
 uq:SUq s
 item:∀ m,m∈(s.fld 1).asList->∀ x,x∈(m.fld 2).asList->0<=acl x
 meth:∀ m,m∈(s.fld 2).asList->∀ x,x∈(m.fld 1).asList->al0 (aac x)=true
theorem SchemaV.up {s:PV} (h:SchemaV s):SUp s:=by
 have at':∀ {l:List PV}{x:PV},x∈l->∃ i,i<l.length/\l.getD i .bad=x:=fun {l x} hx=>by
  obtain ⟨i,hi,rfl⟩:=List.mem_iff_getElem.1 hx
  exact ⟨i,hi,aah hi⟩
 refine ⟨h.uq,fun m hm x hx=>?_,fun m hm x hx=>?_⟩
 ·obtain ⟨i,hi,rfl⟩:=at' hm
  obtain ⟨j,hj,rfl⟩:=at' hx
  exact (h.enum i hi j hj).pos
 ·obtain ⟨i,hi,rfl⟩:=at' hm
  obtain ⟨j,hj,rfl⟩:=at' hx
  exact (h.svc i hi j hj).name
theorem ap8 {a b:PV} (ua:SUq a) (ub:SUq b):(refC a b).Perm (raw a b):=by
 have h1:(rM a b).Perm (gM a b++nM a b):=(ag2 Key.cB ua.m ub.m).trans ((anj fun x hx y hy _=>apk (ua.ms x hx) (ub.ms y hy)).append (.refl _))
 have h2:(rE a b).Perm (gE a b++nE a b):=(ag2 Key.cB ua.e ub.e).trans ((anj fun x hx y hy _=>aui (ua.es x hx) (ub.es y hy)).append (.refl _))
 have h3:(rS a b).Perm (gS a b++nS a b):=(ag2 Key.cB ua.v ub.v).trans ((anj fun x hx y hy _=>ayo (ua.vs x hx) (ub.vs y hy)).append (.refl _))
 exact (h1.append (h2.append h3)).trans (a3x ..).symm
theorem an8 {g:Int}:∀ (k k':List UInt8) (e e':PV),cB k k'<0->InD g k e->InD g k' e'->Lt e e':=fun k k' e e' hk h h'=>cmp_d (h.1.trans h'.1.symm) (by rw [h.2,h'.2];exact hk)
theorem ax8 {a b:PV} (ua:SUp a) (ub:SUp b):(refC a b).Pairwise Lt/\∀ e,e∈refC a b->∃ i,i<3/\(chD e∈(a.fld i).asList.map aac∨chD e∈(b.fld i).asList.map aac):=by
 have h1:=adx (key:=aac) (c:=cB) (both:=ak2) (gone:=fun m=>chg 1 (aac m) (-1) [] []) (new:=fun m=>chg 2 (aac m) (-1) [] []) (A:=(a.fld 0).asList) (B:=(b.fld 0).asList) (S:=fun k e=>InD 1 k e) (R:=Lt) Key.cB an8 (fun x _ y _ _=>auq x y) (fun x _=>⟨rfl,rfl⟩) (fun y _=>⟨rfl,rfl⟩)
 have h2:=adx (key:=aac) (c:=cB) (both:=auh) (gone:=fun m=>chg 11 (aac m) (-1) [] []) (new:=fun m=>chg 12 (aac m) (-1) [] []) (A:=(a.fld 1).asList) (B:=(b.fld 1).asList) (S:=fun k e=>InD 2 k e) (R:=Lt) Key.cB an8 (fun x hx y hy _=>azx (ua.item x hx) (ub.item y hy)) (fun x _=>⟨rfl,rfl⟩) (fun y _=>⟨rfl,rfl⟩)
 have h3:=adx (key:=aac) (c:=cB) (both:=svcR) (gone:=fun m=>chg 17 (aac m) (-1) [] []) (new:=fun m=>chg 18 (aac m) (-1) [] []) (A:=(a.fld 2).asList) (B:=(b.fld 2).asList) (S:=fun k e=>InD 3 k e) (R:=Lt) Key.cB an8 (fun x hx y hy _=>a4d (ua.meth x hx)) (fun x _=>⟨rfl,rfl⟩) (fun y _=>⟨rfl,rfl⟩)
 have g:∀ {g g':Int}{k k':List UInt8}{e e':PV},InD g k e->InD g' k' e'->g<g'->Lt e e':=fun h h' hl=>cmp_g (by rw [h.1,h'.1];exact hl)
 refine ⟨?_,ab6 (fun e he=>?_) (ab6 (fun e he=>?_) (fun e he=>?_))⟩
 ·unfold refC
  rw [List.pairwise_append,List.pairwise_append]
  refine ⟨h1.1,⟨h2.1,h3.1,fun e he e' he'=>?_⟩,fun e he e' he'=>?_⟩
  ·obtain ⟨k,q,_⟩:=h2.2 e he;obtain ⟨k',q',_⟩:=h3.2 e' he'
   exact g q q' (by omega)
  ·obtain ⟨k,q,_⟩:=h1.2 e he
   rcases List.mem_append.1 he' with he' | he'
   ·obtain ⟨k',q',_⟩:=h2.2 e' he';exact g q q' (by omega)
   ·obtain ⟨k',q',_⟩:=h3.2 e' he';exact g q q' (by omega)
 ·obtain ⟨k,q,hk⟩:=h1.2 e he;exact ⟨0,by omega,by rw [q.2];exact hk⟩
 ·obtain ⟨k,q,hk⟩:=h2.2 e he;exact ⟨1,by omega,by rw [q.2];exact hk⟩
 ·obtain ⟨k,q,hk⟩:=h3.2 e he;exact ⟨2,by omega,by rw [q.2];exact hk⟩
theorem aq6 {a b:PV} (ha:SOk a) (hb:SOk b) (ua:SUp a) (ub:SUp b) (ba:aau a<=1048576) (bb:aau b<=1048576):F14 0 a b=some (refC a b):=by
 obtain ⟨ys,h1,h2,h3⟩:=azr ha hb ua.uq ub.uq ba bb
 have p:=ap8 ua.uq ub.uq
 have t:=(a0u ub.uq ua.uq).symm
 have e:ys=refC a b:=avp (l:=raw b a) (h2.trans t) (p.trans t) h3 ((ax8 ua ub).1.imp fun {x y} h=>by unfold leC;omega)
 rw [h1,e]
end Go.Ab
