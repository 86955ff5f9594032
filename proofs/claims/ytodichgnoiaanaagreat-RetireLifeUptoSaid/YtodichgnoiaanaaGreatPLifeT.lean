/- The law RetireLife: a deprecated version can be retired from its day on, and not before. -/
import Derived.Test.YtodichgnoiaanaaGreatPSmT
import Derived.Test.YtodichgnoiaanaaGreatPCmpT
set_option linter.unusedVariables false
set_option linter.unusedSimpArgs false
set_option linter.unnecessarySimpa false
namespace Go.Ab
open Go
set_option maxRecDepth 100000
abbrev sbL (r:PV):List PV:=(r.fld 1).asList
abbrev vsL (x:PV):List PV:=(x.fld 4).asList
abbrev sbA (r:PV) (i:Nat):PV:=(sbL r).getD i .bad
abbrev vsA (r:PV) (i k:Nat):PV:=(vsL (sbA r i)).getD k .bad
structure RegOk (r:PV):Prop where
 subs:(sbL r).length<=1048576
 name:∀ x,x∈sbL r->(x.fld 0).asStr.length<=1048576
 root:∀ x,x∈sbL r->(x.fld 1).asStr.length<=1048576
 vers:∀ x,x∈sbL r->(vsL x).length<=1048576
 sok:∀ x,x∈sbL r->∀ v,v∈vsL x->SOk (v.fld 1)
 sbk:∀ x,x∈sbL r->∀ v,v∈vsL x->aam (v.fld 1)<=1048576
theorem a1d {r:PV} (h:RegOk r):Ret (F4 0 r) fun _=>True:=by
 have hn:=h.subs
 have inner:∀ i,i<(sbL r).length->∃ b,aaf 0 (S4_11step 0) ((),((i:Nat):Int),vsL (sbA r i),(0:Int),r)=some b/\(b=.inl (false,r)∨b=.inr ((),((i:Nat):Int),r)):=fun i hi=>by
  have hl:(vsL (sbA r i)).length<=1048576:=h.vers _ (abb hi)
  obtain ⟨b,h1,h2⟩:=aa6 (step:=S4_11step 0) (fun k=>((),((i:Nat):Int),vsL (sbA r i),((k:Nat):Int),r)) (vsL (sbA r i)).length (fun _=>.inl (false,r)) (.inr ((),((i:Nat):Int),r)) (fun k hk=>by
   simp only [S4_11step,S4_11,decL k _ hk,cond_true,aab,decide_eq_true hk,Int.toNat_natCast,al2,aa4 k (show k<=1000000000000 by omega)]
   generalize (bif _ then true else _)=c
   cases c
   ·exact Or.inl rfl
   ·exact Or.inr rfl) (by
   simp only [S4_11step,S4_11,decN,cond_false]) _ 0 (Nat.zero_add _)
  refine ⟨b,h1,?_⟩
  rcases h2 with h2 | ⟨_,_,h2⟩
  ·exact Or.inr h2
  ·exact Or.inl h2
 obtain ⟨b,h1,h2⟩:=aa6 (step:=S4_5step 0) (fun i=>((),((i:Nat):Int),r)) (sbL r).length (fun _=>.inl (false,r)) (.inr r) (fun i hi=>by
  obtain ⟨b,h1,h2⟩:=inner i hi
  simp only [S4_5step,S4_5,decL i _ hi,cond_true,aab,decide_eq_true hi,Int.toNat_natCast]
  cases decide (((vsL (sbA r i)).length:Int)>(40:Int)) with
  | true=>exact Or.inr rfl
  | false=>
   simp only [cond_false]
   rw [h1,Option.bind_some]
   rcases h2 with rfl | rfl
   ·exact Or.inr rfl
   ·exact Or.inl (by simp only [ab0,aa4 i (show i<=1000000000000 by omega)])) (by
  simp only [S4_5step,S4_5,decN,cond_false]) _ 0 (Nat.zero_add _)
 have h1':aaf 0 (S4_5step 0) ((),(0:Int),r)=some b:=h1
 unfold F4
 refine aa7 (aan _) ?_
 rw [h1',Option.bind_some]
 rcases h2 with rfl | ⟨_,_,rfl⟩<;>exact aan _
def LimR (r:PV):Prop:=(sbL r).length<=32/\∀ i,i<(sbL r).length->(vsL (sbA r i)).length<=32
theorem axb {r:PV} (h:RegOk r):Ret (F12 0 r) fun b=>b=false->LimR r:=by
 have hn:=h.subs
 have q:=acr (step:=S12_5step 0) (fun i=>((),((i:Nat):Int),r)) (sbL r).length (fun i=>!decide (((vsL (sbA r i)).length:Int)>(32:Int))) (.inl (true,r)) (.inr r) (fun i hi=>by
  simp only [S12_5step,S12_5,decL i _ hi,cond_true,aab,decide_eq_true hi,Int.toNat_natCast,aa4 i (show i<=1000000000000 by omega)]
  cases decide (((vsL (sbA r i)).length:Int)>(32:Int))<;>rfl) (by
  simp only [S12_5step,S12_5,decN,cond_false]) _ 0 (Nat.zero_add _)
 have q':aaf 0 (S12_5step 0) ((),(0:Int),r)=_:=q
 unfold F12
 cases hd:decide (((sbL r).length:Int)>(32:Int)) with
 | true=>exact ⟨_,rfl,fun e=>by cases e⟩
 | false=>
  rw [cond_false,q',Option.bind_some]
  cases hall:allF (fun i=>!decide (((vsL (sbA r i)).length:Int)>(32:Int))) 0 (sbL r).length with
  | false=>exact ⟨_,rfl,fun e=>by cases e⟩
  | true=>
   refine ⟨_,rfl,fun _=>⟨?_,fun i hi=>?_⟩⟩
   ·have:=of_decide_eq_false hd;omega
   ·have hp:=allG hall i (Nat.zero_le _) (by omega)
    simp only [Bool.not_eq_true',decide_eq_false_iff_not] at hp
    omega
structure OrdR (r:PV):Prop where
 up:∀ i,i+1<(sbL r).length->ascB (nmL (sbL r)) i=true
 no:∀ i k,i<(sbL r).length->k<(vsL (sbA r i)).length->((vsA r i k).fld 0).asInt=(k:Int)+1
def upS (r:PV) (i:Nat):Bool:=bif decide ((i:Int)>(0:Int)) then (Op.bytesLess ((sbA r i).fld 0).asStr ((sbA r (i-1)).fld 0).asStr||((sbA r i).fld 0).asStr==((sbA r (i-1)).fld 0).asStr) else false
def noS (r:PV) (i k:Nat):Bool:=!(((vsA r i k).fld 0).asInt != IntKind.wrap .i64 ((k:Int)+1))
theorem at5 {r:PV} (h:RegOk r):Ret (F13 0 r) fun b=>b=true->OrdR r:=by
 have hn:=h.subs
 have inner:∀ i,i<(sbL r).length->aaf 0 (S13_8step 0) ((),((i:Nat):Int),(0:Int),r)=some (bif allF (noS r i) 0 (vsL (sbA r i)).length then .inr ((),((i:Nat):Int),r) else .inl (false,r)):=fun i hi=>by
  have hl:(vsL (sbA r i)).length<=1048576:=h.vers _ (abb hi)
  have q:=acr (step:=S13_8step 0) (fun k=>((),((i:Nat):Int),((k:Nat):Int),r)) (vsL (sbA r i)).length (noS r i) (.inl (false,r)) (.inr ((),((i:Nat):Int),r)) (fun k hk=>by
   simp only [S13_8step,S13_8,aab,decide_eq_true hi,decL k _ hk,cond_true,decide_eq_true hk,Int.toNat_natCast,noS]
   cases (((vsA r i k).fld 0).asInt != IntKind.wrap .i64 ((k:Int)+1))
   ·simp only [cond_false,Bool.not_false,cond_true,aa4 k (show k<=1000000000000 by omega)]
   ·rfl) (by
   simp only [S13_8step,S13_8,aab,decide_eq_true hi,Int.toNat_natCast,decN,cond_true,cond_false]) _ 0 (Nat.zero_add _)
  exact q
 have q:=acr (step:=S13_3step 0) (fun i=>((),((i:Nat):Int),r)) (sbL r).length (fun i=>!(upS r i)&&allF (noS r i) 0 (vsL (sbA r i)).length) (.inl (false,r)) (.inr r) (fun i hi=>by
  have e0:imp (decide ((i:Int)>(0:Int))) (aaa (IntKind.wrap .i64 ((i:Int)-1)) (sbL r).length)=true:=ak6 hi hn
  have e1:(IntKind.wrap .i64 ((i:Int)-1)).toNat=i-1∨i=0:=by
   by_cases h0:i=0
   ·exact Or.inr h0
   ·left;rw [al1 (by omega) (by omega)];rfl
  simp only [S13_3step,S13_3,decL i _ hi,cond_true,aab,decide_eq_true hi,Int.toNat_natCast,al2,e0,inner i hi]
  have e2:(bif decide ((i:Int)>(0:Int)) then (Op.bytesLess ((sbA r i).fld 0).asStr (((sbL r).getD (IntKind.wrap .i64 ((i:Int)-1)).toNat .bad).fld 0).asStr||((sbA r i).fld 0).asStr==(((sbL r).getD (IntKind.wrap .i64 ((i:Int)-1)).toNat .bad).fld 0).asStr) else false)=upS r i:=by
   unfold upS
   rcases e1 with e1 | rfl
   ·rw [e1]
   ·rfl
  rw [e2]
  cases upS r i with
  | true=>rfl
  | false=>
   simp only [cond_false,Option.bind_some,Bool.not_false,Bool.true_and]
   cases allF (noS r i) 0 (vsL (sbA r i)).length with
   | true=>simp only [cond_true,ab0,aa4 i (show i<=1000000000000 by omega)]
   | false=>rfl) (by
  simp only [S13_3step,S13_3,decN,cond_false]) _ 0 (Nat.zero_add _)
 have q':aaf 0 (S13_3step 0) ((),(0:Int),r)=_:=q
 unfold F13
 rw [q',Option.bind_some]
 cases hall:allF (fun i=>!(upS r i)&&allF (noS r i) 0 (vsL (sbA r i)).length) 0 (sbL r).length with
 | false=>exact ⟨_,rfl,fun e=>by cases e⟩
 | true=>
  refine ⟨_,rfl,fun _=>⟨fun i hi=>?_,fun i k hi hk=>?_⟩⟩
  ·have hp:=allG hall (i+1) (Nat.zero_le _) (by omega)
   simp only [Bool.and_eq_true,Bool.not_eq_true'] at hp
   have hu:=hp.1
   unfold upS at hu
   rw [decide_eq_true (show (((i+1:Nat)):Int)>0 by omega),cond_true,Nat.add_sub_cancel] at hu
   unfold ascB
   have e3:∀ j,j<(sbL r).length->((nmL (sbL r)).getD j .bad).asStr=((sbA r j).fld 0).asStr:=fun j hj=>by
    unfold nmL
    rw [aav (by simpa using hj),List.getElem_map,sbA,aav hj];rfl
   rw [e3 (i+1) hi,e3 i (by omega),hu];rfl
  ·have hp:=allG hall i (Nat.zero_le _) (by omega)
   simp only [Bool.and_eq_true] at hp
   have hq:=allG hp.2 k (Nat.zero_le _) (by omega)
   have hl:(vsL (sbA r i)).length<=1048576:=h.vers _ (abb hi)
   unfold noS at hq
   rw [aa4 k (show k<=1000000000000 by omega)] at hq
   have hq:((vsA r i k).fld 0).asInt=((k+1:Nat):Int):=by simpa using hq
   rw [hq];omega
theorem a03 {x:PV} (h:(vsL x).length<=1048576):Ret (F15 0 x) fun _=>True:=by
 obtain ⟨b,h1,h2⟩:=aa6 (step:=S15_5step 0) (fun i=>((),((i:Nat):Int),x)) (vsL x).length (fun _=>.inl (false,x)) (.inr x) (fun i hi=>by
  simp only [S15_5step,S15_5,decL i _ hi,cond_true,aab,decide_eq_true hi,Int.toNat_natCast,aa4 i (show i<=1000000000000 by omega)]
  generalize (bif _ then true else _)=c
  cases c
  ·exact Or.inl rfl
  ·exact Or.inr rfl) (by
  simp only [S15_5step,S15_5,decN,cond_false]) _ 0 (Nat.zero_add _)
 have h1':aaf 0 (S15_5step 0) ((),(0:Int),x)=some b:=h1
 unfold F15
 refine aas (P:=fun _=>True) (aan _) fun y _ _=>?_
 refine aas (P:=fun _=>True) (aa7 (aan _) (aan _)) fun z _ _=>?_
 refine aa7 (aan _) ?_
 rw [h1',Option.bind_some]
 rcases h2 with rfl | ⟨_,_,rfl⟩<;>exact aan _
theorem a1o {x v:PV}{n:Int} (h:SOk (v.fld 1)) (hb:aam (v.fld 1)<=1048576):Ret (F27 0 x v n) fun _=>True:=by
 unfold F27
 refine aa7 ?_ (aa7 ?_ ?_)
 ·obtain ⟨b,h1,h2⟩:=aa6 (step:=S34_3step 0) (fun i=>((x.fld 1).asStr,(),(),((i:Nat):Int),v.fld 1,(PV.agg [(PV.str ([]:List UInt8)),(PV.slice []),(PV.slice []),(PV.slice []),(PV.slice [])]))) ((v.fld 1).fld 0).asList.length (fun i=>.inl ((),true,v.fld 1,((v.fld 1).fld 0).asList.getD i .bad)) (.inr ((),v.fld 1,(PV.agg [(PV.str ([]:List UInt8)),(PV.slice []),(PV.slice []),(PV.slice []),(PV.slice [])]))) (fun i hi=>by
   have hn:=h.len.m
   simp only [S34_3step,S34_3,decL i _ hi,cond_true,aab,decide_eq_true hi,Int.toNat_natCast,aa4 i (show i<=1000000000000 by omega)]
   cases ((((v.fld 1).fld 0).asList.getD i .bad).fld 0).asStr==(x.fld 1).asStr
   ·exact Or.inl rfl
   ·exact Or.inr rfl) (by
   simp only [S34_3step,S34_3,decN,cond_false]) _ 0 (Nat.zero_add _)
  have h1':aaf 0 (S34_3step 0) ((x.fld 1).asStr,(),(),(0:Int),v.fld 1,(PV.agg [(PV.str ([]:List UInt8)),(PV.slice []),(PV.slice []),(PV.slice []),(PV.slice [])]))=some b:=h1
  refine aas (P:=fun _=>True) ?_ fun y _ _=>aan _
  unfold F34
  rw [h1',Option.bind_some]
  rcases h2 with rfl | ⟨_,_,rfl⟩<;>exact aan _
 ·exact aas (a0p h hb) fun y _ _=>aan _
 ·obtain ⟨b,hv,_⟩:=asu h hb
  rw [hv,Option.bind_some]
  cases b with
  | false=>exact aan _
  | true=>
   dsimp only
   simp only [cond_true]
   rw [a4k h hv,Option.bind_some,cond_true]
   refine aas (P:=fun _=>True) (a3o hb) fun y _ _=>?_
   refine aas (P:=fun _=>True) (aa7 ?_ (aan _)) fun z _ _=>aan _
   rw [an8 h hb hv]
   exact aan _
theorem aih {r:PV}{n:Int} (h:RegOk r):Ret (F16 0 r n) fun _=>True:=by
 have hn:=h.subs
 have inner:∀ i,i<(sbL r).length->∃ b,aaf 0 (S16_6step 0) (n,(),((i:Nat):Int),(0:Int),r)=some b/\(b=.inl (false,r)∨b=.inr (n,(),((i:Nat):Int),r)):=fun i hi=>by
  have hl:(vsL (sbA r i)).length<=1048576:=h.vers _ (abb hi)
  obtain ⟨b,h1,h2⟩:=aa6 (step:=S16_6step 0) (fun k=>(n,(),((i:Nat):Int),((k:Nat):Int),r)) (vsL (sbA r i)).length (fun _=>.inl (false,r)) (.inr (n,(),((i:Nat):Int),r)) (fun k hk=>by
   obtain ⟨y,hy,_⟩:=a1o (x:=sbA r i) (v:=vsA r i k) (n:=n) (h.sok _ (abb hi) _ (abb hk)) (h.sbk _ (abb hi) _ (abb hk))
   simp only [S16_6step,S16_6,aab,decide_eq_true hi,decL k _ hk,cond_true,decide_eq_true hk,Int.toNat_natCast,aa4 k (show k<=1000000000000 by omega)]
   rw [hy,Option.bind_some]
   cases y
   ·exact Or.inr rfl
   ·exact Or.inl rfl) (by
   simp only [S16_6step,S16_6,aab,decide_eq_true hi,Int.toNat_natCast,decN,cond_true,cond_false]) _ 0 (Nat.zero_add _)
  refine ⟨b,h1,?_⟩
  rcases h2 with h2 | ⟨_,_,h2⟩
  ·exact Or.inr h2
  ·exact Or.inl h2
 obtain ⟨b,h1,h2⟩:=aa6 (step:=S16_3step 0) (fun i=>(n,(),((i:Nat):Int),r)) (sbL r).length (fun _=>.inl (false,r)) (.inr r) (fun i hi=>by
  obtain ⟨b,h1,h2⟩:=inner i hi
  simp only [S16_3step,S16_3,decL i _ hi,cond_true]
  rw [h1,Option.bind_some]
  rcases h2 with rfl | rfl
  ·exact Or.inr rfl
  ·exact Or.inl (by simp only [ab0,aa4 i (show i<=1000000000000 by omega)])) (by
  simp only [S16_3step,S16_3,decN,cond_false]) _ 0 (Nat.zero_add _)
 have h1':aaf 0 (S16_3step 0) (n,(),(0:Int),r)=some b:=h1
 unfold F16
 rw [h1',Option.bind_some]
 rcases h2 with rfl | ⟨_,_,rfl⟩<;>exact aan _
theorem ayu {r:PV} (h:RegOk r):Ret (F5 0 r) fun e=>e=0->OrdR r/\LimR r:=by
 have hn:=h.subs
 have no:∀ {x:Int}{P:Prop},x≠0->x=0->P:=fun h e=>absurd e h
 obtain ⟨b7,h7,q7⟩:=aa6 (step:=S5_7step 0) (fun i=>((),((i:Nat):Int),r)) (sbL r).length (fun _=>.inl ((8:Int),r)) (.inr ((),r)) (fun i hi=>by
  have e1:=adi _ (h.name _ (abb hi))
  have e2:=adi _ (h.root _ (abb hi))
  simp only [S5_7step,S5_7,decL i _ hi,cond_true,aab,decide_eq_true hi,Int.toNat_natCast,al2,e1,e2,Option.bind_some,aa4 i (show i<=1000000000000 by omega)]
  cases aiv ((sbA r i).fld 0).asStr<;>cases aiv ((sbA r i).fld 1).asStr
  ·exact Or.inr rfl
  ·exact Or.inr rfl
  ·exact Or.inr rfl
  ·exact Or.inl rfl) (by
  simp only [S5_7step,S5_7,decN,cond_false]) _ 0 (Nat.zero_add _)
 have h7':aaf 0 (S5_7step 0) ((),(0:Int),r)=some b7:=h7
 obtain ⟨b14,h14,q14⟩:=aa6 (step:=S5_14step 0) (fun i=>((),((i:Nat):Int),r)) (sbL r).length (fun _=>.inl ((1:Int),r)) (.inr ((),r)) (fun i hi=>by
  obtain ⟨y,hy,_⟩:=a03 (x:=sbA r i) (h.vers _ (abb hi))
  simp only [S5_14step,S5_14,decL i _ hi,cond_true,aab,decide_eq_true hi,Int.toNat_natCast,aa4 i (show i<=1000000000000 by omega)]
  rw [hy,Option.bind_some]
  cases y
  ·exact Or.inr rfl
  ·exact Or.inl rfl) (by
  simp only [S5_14step,S5_14,decN,cond_false]) _ 0 (Nat.zero_add _)
 have h14':aaf 0 (S5_14step 0) ((),(0:Int),r)=some b14:=h14
 unfold F5
 refine aas (axb h) fun y1 _ hy1=>?_
 cases y1 with
 | true=>exact ⟨_,rfl,no (by simp)⟩
 | false=>
 have hm:=hy1 rfl
 rw [cond_false]
 refine aas (at5 h) fun y2 _ hy2=>?_
 cases y2 with
 | false=>exact ⟨_,rfl,no (by simp)⟩
 | true=>
  have ho:=hy2 rfl
  simp only [Bool.not_true,cond_false]
  rw [h7',Option.bind_some]
  rcases q7 with rfl | ⟨_,_,rfl⟩
  ·rw [ab0]
   refine aa7 ⟨_,rfl,no (by simp)⟩ ?_
   dsimp only
   rw [h14',Option.bind_some]
   rcases q14 with rfl | ⟨_,_,rfl⟩
   ·rw [ab0]
    dsimp only
    refine aas (aih h) fun z1 _ _=>?_
    refine aa7 ⟨_,rfl,no (by simp)⟩ ?_
    refine aas (aih h) fun z2 _ _=>?_
    refine aa7 ⟨_,rfl,no (by simp)⟩ ?_
    refine aas (aih h) fun z3 _ _=>?_
    refine aa7 ⟨_,rfl,no (by simp)⟩ ⟨_,rfl,fun _=>⟨ho,hm⟩⟩
   ·exact ⟨_,rfl,no (by simp)⟩
  ·exact ⟨_,rfl,no (by simp)⟩
structure Sep (r:PV):Prop where
 subs:(sbL r).length<=1048576
 vers:∀ i,i<(sbL r).length->(vsL (sbA r i)).length<=1048576
 name:∀ i j,i<(sbL r).length->j<(sbL r).length->((sbA r i).fld 0).asStr=((sbA r j).fld 0).asStr->i=j
 no:∀ i k m,i<(sbL r).length->k<(vsL (sbA r i)).length->m<(vsL (sbA r i)).length->((vsA r i k).fld 0).asInt=((vsA r i m).fld 0).asInt->k=m
theorem a7p {r:PV} (h:RegOk r) (o:OrdR r):Sep r:=by
 refine ⟨h.subs,fun i hi=>h.vers _ (abb hi),fun i j hi hj e=>?_,fun i k m hi hk hm e=>?_⟩
 ·have hn:=List.pairwise_iff_getElem.1 (a3x o.up)
  have e2:∀ k (hk:k<(sbL r).length) (hk':k<((sbL r).map ah8).length),((sbL r).map ah8)[k]=((sbA r k).fld 0).asStr:=fun k hk _=>by
   rw [List.getElem_map,sbA,aav hk];rfl
  have li:i<((sbL r).map ah8).length:=by simpa using hi
  have lj:j<((sbL r).map ah8).length:=by simpa using hj
  rcases Nat.lt_trichotomy i j with hlt | heq | hlt
  ·exact absurd (by rw [e2 i hi,e2 j hj,e]) (hn i j li lj hlt)
  ·exact heq
  ·exact absurd (by rw [e2 i hi,e2 j hj,e]) (hn j i lj li hlt)
 ·rw [o.no i k hi hk,o.no i m hi hm] at e
  omega
structure Vat (r:PV) (nm:List UInt8) (no:Int) (i k:Nat):Prop where
 li:i<(sbL r).length
 lk:k<(vsL (sbA r i)).length
 nm:((sbA r i).fld 0).asStr=nm
 no:((vsA r i k).fld 0).asInt=no
theorem av5 {r:PV}{nm:List UInt8}{no:Int} (hs:(sbL r).length<=1048576) (hv:∀ i,i<(sbL r).length->(vsL (sbA r i)).length<=1048576):F17 0 r nm no=some ((fstI (fun i=>((sbA r i).fld 0).asStr==nm) 0 (sbL r).length).elim (0,0,false) fun i=>(fstI (fun k=>((vsA r i k).fld 0).asInt==no) 0 (vsL (sbA r i)).length).elim (0,0,false) fun k=>((i:Int),(k:Int),true)):=by
 have inner:∀ i,i<(sbL r).length->aaf 0 (S17_7step 0) (no,((i:Nat):Int),vsL (sbA r i),((vsL (sbA r i)).length:Int),(0:Int),r,sbA r i)=some ((fstI (fun k=>((vsA r i k).fld 0).asInt==no) 0 (vsL (sbA r i)).length).elim (.inr (r,sbA r i)) fun k=>.inl (((i:Nat):Int),((k:Nat):Int),true,r,sbA r i)):=fun i hi=>by
  have hl:=hv i hi
  exact afe (step:=S17_7step 0) (fun k=>(no,((i:Nat):Int),vsL (sbA r i),((vsL (sbA r i)).length:Int),((k:Nat):Int),r,sbA r i)) (vsL (sbA r i)).length (fun k=>((vsA r i k).fld 0).asInt==no) (fun k=>.inl (((i:Nat):Int),((k:Nat):Int),true,r,sbA r i)) (.inr (r,sbA r i)) (fun k hk=>by
   simp only [S17_7step,S17_7,decL k _ hk,cond_true,aab,decide_eq_true hk,Int.toNat_natCast,aa4 k (show k<=1000000000000 by omega)]
   cases ((vsA r i k).fld 0).asInt==no<;>rfl) (by
   simp only [S17_7step,S17_7,decN,cond_false]) _ 0 (Nat.zero_add _)
 have outer:aaf 0 (S17_3step 0) (nm,no,sbL r,((sbL r).length:Int),(0:Int),r)=some ((fstI (fun i=>((sbA r i).fld 0).asStr==nm) 0 (sbL r).length).elim (.inr r) fun i=>.inl ((fstI (fun k=>((vsA r i k).fld 0).asInt==no) 0 (vsL (sbA r i)).length).elim (0,0,false,r) fun k=>(((i:Nat):Int),((k:Nat):Int),true,r))):=
  afe (step:=S17_3step 0) (fun i=>(nm,no,sbL r,((sbL r).length:Int),((i:Nat):Int),r)) (sbL r).length (fun i=>((sbA r i).fld 0).asStr==nm) (fun i=>.inl ((fstI (fun k=>((vsA r i k).fld 0).asInt==no) 0 (vsL (sbA r i)).length).elim (0,0,false,r) fun k=>(((i:Nat):Int),((k:Nat):Int),true,r))) (.inr r) (fun i hi=>by
   simp only [S17_3step,S17_3,decL i _ hi,cond_true,aab,decide_eq_true hi,Int.toNat_natCast,aa4 i (show i<=1000000000000 by omega),inner i hi,Option.bind_some]
   cases ((sbA r i).fld 0).asStr==nm with
   | false=>rfl
   | true=>
    cases fstI (fun k=>((vsA r i k).fld 0).asInt==no) 0 (vsL (sbA r i)).length<;>rfl) (by
   simp only [S17_3step,S17_3,decN,cond_false]) _ 0 (Nat.zero_add _)
 unfold F17
 dsimp only
 rw [outer,Option.bind_some]
 cases fstI (fun i=>((sbA r i).fld 0).asStr==nm) 0 (sbL r).length with
 | none=>rfl
 | some i=>
  simp only [Option.elim]
  cases fstI (fun k=>((vsA r i k).fld 0).asInt==no) 0 (vsL (sbA r i)).length<;>rfl
theorem a3n {r:PV}{nm:List UInt8}{no:Int}{i k:Nat} (s:Sep r) (a:Vat r nm no i k):F17 0 r nm no=some ((i:Int),(k:Int),true):=by
 rw [av5 s.subs s.vers]
 have h1:fstI (fun i=>((sbA r i).fld 0).asStr==nm) 0 (sbL r).length=some i:=ape (Nat.zero_le _) (by have:=a.li;omega) (beq_iff_eq.2 a.nm) (fun m _ hm hp=>s.name m i (by omega) a.li (by rw [a.nm];exact eq_of_beq hp))
 have h2:fstI (fun k=>((vsA r i k).fld 0).asInt==no) 0 (vsL (sbA r i)).length=some k:=ape (Nat.zero_le _) (by have:=a.lk;omega) (beq_iff_eq.2 a.no) (fun m _ hm hp=>s.no i m k a.li (by omega) a.lk (by rw [a.no];exact eq_of_beq hp))
 rw [h1]
 simp only [Option.elim]
 rw [h2]
theorem auh {r:PV}{nm:List UInt8}{no:Int} (s:Sep r):∃ y,F17 0 r nm no=some y/\(y.2.2=false∨∃ i k:Nat,y=((i:Int),(k:Int),true)/\Vat r nm no i k):=by
 refine ⟨_,av5 s.subs s.vers,?_⟩
 cases h1:fstI (fun i=>((sbA r i).fld 0).asStr==nm) 0 (sbL r).length with
 | none=>exact Or.inl rfl
 | some i=>
  simp only [Option.elim]
  obtain ⟨_,a2,a3⟩:=aiu h1
  cases h2:fstI (fun k=>((vsA r i k).fld 0).asInt==no) 0 (vsL (sbA r i)).length with
  | none=>exact Or.inl rfl
  | some k=>
   obtain ⟨_,b2,b3⟩:=aiu h2
   exact Or.inr ⟨i,k,rfl,⟨by omega,by omega,eq_of_beq a3,eq_of_beq b3⟩⟩
theorem aw8 {x:PV} (h:(vsL x).length<=1048576):Ret (F18 0 x) fun _=>True:=by
 obtain ⟨y,h1,h2⟩:=a0c (step:=S18_3step 0) (fun s=>(s.2.1+1).toNat) (fun s=>s.2.2=x/\∃ j:Nat,j<=(vsL x).length/\s.2.1=(j:Int)-1) (fun r=>∃ z,r=.inl z∨r=.inr x) (fun s hs=>by
  obtain ⟨⟨⟩,n,y⟩:=s
  obtain ⟨rfl,j,hj,rfl⟩:=hs
  dsimp only
  cases j with
  | zero=>right;exact ⟨_,by simp only [S18_3step,S18_3];rw [show decide ((((0:Nat):Int)-1)≥(0:Int))=false by decide,cond_false],(0,y),Or.inr rfl⟩
  | succ j=>
   have hj:j+1<=(vsL y).length:=hj
   have h:(vsL y).length<=1048576:=h
   have e1:((j+1:Nat):Int)-1=(j:Int):=by omega
   have e2:decide ((j:Int)≥(0:Int))=true:=decide_eq_true (by omega)
   have e3:IntKind.wrap .i64 ((j:Int)-1)=(j:Int)-1:=by
    rw [IntKind.wrap_i64];omega
   simp only [S18_3step,S18_3,e1,e2,cond_true,aab,decide_eq_true (show j<(vsL y).length by omega),Int.toNat_natCast,e3]
   cases ((((vsL y).getD j .bad).fld 3).asInt != (3:Int)) with
   | true=>right;exact ⟨_,rfl,_,Or.inl rfl⟩
   | false=>left;exact ⟨_,rfl,⟨rfl,j,(show j<=(vsL y).length by omega),rfl⟩,by first | omega | (dsimp only;omega) | (simp only [];omega)⟩) ((),(IntKind.wrap .i64 (((vsL x).length:Int)-1)),x) ⟨rfl,(vsL x).length,Nat.le_refl _,by dsimp only;rw [IntKind.wrap_i64];omega⟩
 have h1':aaf 0 (S18_3step 0) ((),(IntKind.wrap .i64 (((vsL x).length:Int)-(1:Int))),x)=some y:=h1
 unfold F18
 rw [h1',Option.bind_some]
 obtain ⟨z,rfl | rfl⟩:=h2<;>exact aan _
def verS (v:PV) (st un:Int):PV:=PV.agg [(PV.int (v.fld 0).asInt),v.fld 1,(PV.int (v.fld 2).asInt),(PV.int st),(PV.int un)]
def subS (x:PV) (k:Nat) (st un:Int):PV:=PV.agg [(PV.str (x.fld 0).asStr),(PV.str (x.fld 1).asStr),(PV.int (x.fld 2).asInt),(PV.int (x.fld 3).asInt),(PV.slice ((vsL x).set k (verS ((vsL x).getD k .bad) st un)))]
def regS (r:PV) (i k:Nat) (st un:Int):PV:=PV.agg [(PV.int (r.fld 0).asInt),(PV.slice ((sbL r).set i (subS (sbA r i) k st un)))]
theorem av8 {r:PV}{i k:Nat}{st un:Int} (s:Sep r) (hi:i<(sbL r).length) (hk:k<(vsL (sbA r i)).length):F19 0 r (i:Int) (k:Int) st un=some (regS r i k st un):=by
 have h1:=s.subs
 have h2:=s.vers i hi
 unfold F19
 have d1:decide ((sbL r).length<=aao)=true:=decide_eq_true (by unfold aao;omega)
 have d2:decide ((vsL (sbA r i)).length<=aao)=true:=decide_eq_true (by unfold aao;omega)
 simp only [d1,d2,aab,decide_eq_true hi,decide_eq_true hk,cond_true,Int.toNat_natCast]
 rfl
theorem avk {l:List PV}{i j:Nat}{x:PV} (hi:i<l.length):(l.set i x).getD j .bad=if j=i then x else l.getD j .bad:=by
 simp only [List.getD,List.getElem?_set]
 by_cases h:j=i
 ·subst h;simp [hi]
 ·rw [if_neg (fun e=>h e.symm),if_neg h]
theorem auk {r:PV}{i k j:Nat}{st un:Int} (hi:i<(sbL r).length):sbA (regS r i k st un) j=if j=i then subS (sbA r i) k st un else sbA r j:=avk hi
theorem aig {r:PV}{i k:Nat}{st un:Int}:(sbL (regS r i k st un)).length=(sbL r).length:=by
 show ((sbL r).set i _).length=_
 rw [List.length_set]
theorem aqi {r:PV}{i k j:Nat}{st un:Int} (hi:i<(sbL r).length):(vsL (sbA (regS r i k st un) j)).length=(vsL (sbA r j)).length:=by
 rw [auk hi]
 by_cases h:j=i
 ·subst h
  rw [if_pos rfl]
  show ((vsL (sbA r j)).set k _).length=_
  rw [List.length_set]
 ·rw [if_neg h]
theorem auv {r:PV}{i k j m:Nat}{st un:Int} (hi:i<(sbL r).length) (hk:k<(vsL (sbA r i)).length):vsA (regS r i k st un) j m=if j=i/\m=k then verS (vsA r i k) st un else vsA r j m:=by
 unfold vsA
 rw [auk hi]
 by_cases h:j=i
 ·subst h
  rw [if_pos rfl]
  show ((vsL (sbA r j)).set k _).getD m .bad=_
  rw [avk hk]
  by_cases hm:m=k
  ·subst hm;rw [if_pos rfl,if_pos ⟨rfl,rfl⟩]
  ·rw [if_neg hm,if_neg (fun e=>hm e.2)]
 ·rw [if_neg h,if_neg (fun e=>h e.1)]
theorem apt {r:PV}{i k j:Nat}{st un:Int} (hi:i<(sbL r).length):((sbA (regS r i k st un) j).fld 0).asStr=((sbA r j).fld 0).asStr:=by
 rw [auk hi]
 by_cases h:j=i
 ·subst h;rw [if_pos rfl];rfl
 ·rw [if_neg h]
theorem a0l {r:PV}{i k j m:Nat}{st un:Int} (hi:i<(sbL r).length) (hk:k<(vsL (sbA r i)).length):((vsA (regS r i k st un) j m).fld 0).asInt=((vsA r j m).fld 0).asInt:=by
 rw [auv hi hk]
 by_cases h:j=i/\m=k
 ·obtain ⟨rfl,rfl⟩:=h;rw [if_pos ⟨rfl,rfl⟩];rfl
 ·rw [if_neg h]
theorem a08 {r:PV}{i k:Nat}{st un:Int} (s:Sep r) (hi:i<(sbL r).length) (hk:k<(vsL (sbA r i)).length):Sep (regS r i k st un):=by
 refine ⟨by rw [aig];exact s.subs,fun j hj=>?_,fun a b ha hb e=>?_,fun a b c ha hb hc e=>?_⟩
 ·rw [aig] at hj;rw [aqi hi];exact s.vers j hj
 ·rw [aig] at ha hb;rw [apt hi,apt hi] at e;exact s.name a b ha hb e
 ·rw [aig] at ha;rw [aqi hi] at hb hc;rw [a0l hi hk,a0l hi hk] at e;exact s.no a b c ha hb hc e
theorem a3y {r:PV}{i k j m:Nat}{st un no:Int}{nm:List UInt8} (hi:i<(sbL r).length) (hk:k<(vsL (sbA r i)).length) (a:Vat r nm no j m):Vat (regS r i k st un) nm no j m:=
 ⟨by rw [aig];exact a.li,by rw [aqi hi];exact a.lk,by rw [apt hi];exact a.nm,by rw [a0l hi hk];exact a.no⟩
def dayS (r:PV) (d:Int):PV:=PV.agg [(PV.int d),(PV.slice (sbL r))]
theorem a6d {r:PV}{d:Int} (s:Sep r):Sep (dayS r d):=⟨s.subs,s.vers,s.name,s.no⟩
theorem a6m {r:PV}{d no:Int}{nm:List UInt8}{i k:Nat} (a:Vat r nm no i k):Vat (dayS r d) nm no i k:=⟨a.li,a.lk,a.nm,a.no⟩
def dueV (r:PV) (v:PV):Bool:=bif (v.fld 3).asInt==(2:Int) then decide ((v.fld 4).asInt<=(r.fld 0).asInt) else false
def dueU (x v:PV):PV:=PV.agg [(PV.str (x.fld 0).asStr),(PV.int (v.fld 0).asInt),(PV.int (0:Int))]
def dueX (r x:PV):List PV:=(vsL x).flatMap fun v=>bif dueV r v then [dueU x v] else []
def dueL (r:PV):List PV:=(sbL r).flatMap (dueX r)
theorem azc {α:Type}{g:α->List PV}{n:Nat}:∀ {l:List α},(∀ x,x∈l->(g x).length<=n)->(l.flatMap g).length<=n*l.length:=by
 intro l
 induction l with
 | nil=>intro _;simp
 | cons x l ih=>
  intro h
  have h1:=h x (List.mem_cons_self ..)
  have h2:=ih fun y hy=>h y (List.mem_cons_of_mem _ hy)
  rw [List.flatMap_cons,List.length_append,List.length_cons,Nat.mul_succ]
  omega
theorem aps {l:List PV}{x:PV} (h:x∈l):∃ i,i<l.length/\l.getD i .bad=x:=by
 obtain ⟨i,hi,rfl⟩:=List.mem_iff_getElem.1 h
 exact ⟨i,hi,aav hi⟩
theorem ave (r x:PV):(dueX r x).length<=(vsL x).length:=by
 have:=azc (g:=fun v=>bif dueV r v then [dueU x v] else []) (n:=1) (l:=vsL x) (fun v _=>by cases dueV r v<;>simp)
 unfold dueX;omega
theorem avd {r:PV} (h:LimR r):(dueL r).length<=1024:=by
 have h1:=azc (g:=dueX r) (n:=32) (l:=sbL r) (fun x hx=>by
  obtain ⟨i,hi,rfl⟩:=aps hx
  exact Nat.le_trans (ave r _) (h.2 i hi))
 have:=h.1
 unfold dueL;omega
theorem ayw {r:PV}{L c0:List PV}{n j:Int} (x:PV) (hl:(vsL x).length<=32) (hc:c0.length<=10000):aaf 0 (S21_7step 0) ((),c0,(),L,n,j,vsL x,((vsL x).length:Int),(0:Int),r,x)=some ((),c0++dueX r x,L,n,j,r,x):=
 ai2 (step:=S21_7step 0) (fun k c=>((),c,(),L,n,j,vsL x,((vsL x).length:Int),((k:Nat):Int),r,x)) (vsL x) (fun v=>bif dueV r v then [dueU x v] else []) (fun c=>((),c,L,n,j,r,x)) 20000 (fun k c hk hN=>by
  simp only [S21_7step,S21_7,decL k _ hk,cond_true,aab,decide_eq_true hk,Int.toNat_natCast,aa4 k (show k<=1000000000000 by omega),af0 (show c.length<=100000000 by omega),dueV]
  cases (((((vsL x).getD k .bad).fld 3).asInt==(2:Int)))<;>cases decide ((((vsL x).getD k .bad).fld 4).asInt<=(r.fld 0).asInt)<;>simp [dueU]) (fun c=>by
  simp only [S21_7step,S21_7,decN,cond_false]) (vsL x).length 0 c0 (Nat.zero_add _) (by
  have:=ave r x
  rw [List.drop_zero];unfold dueX at this;omega)
theorem a6r {r:PV} (h:LimR r):F21 0 r=some (dueL r):=by
 have q:=ai2 (step:=S21_4step 0) (fun i c=>((),c,sbL r,((sbL r).length:Int),((i:Nat):Int),r)) (sbL r) (dueX r) (fun c=>(c,r)) 5000 (fun i c hi hN=>by
  have hk:=h.2 i hi
  have hs:=h.1
  simp only [S21_4step,S21_4,decL i _ hi,cond_true,aab,decide_eq_true hi,Int.toNat_natCast,aa4 i (show i<=1000000000000 by omega),ayw ((sbL r).getD i .bad) hk (show c.length<=10000 by omega),Option.bind_some]) (fun c=>by
  simp only [S21_4step,S21_4,decN,cond_false]) (sbL r).length 0 [] (Nat.zero_add _) (by
  have:=avd h
  rw [List.drop_zero,List.length_nil];unfold dueL at this;omega)
 have q':aaf 0 (S21_4step 0) ((),[],sbL r,((sbL r).length:Int),(0:Int),r)=_:=q
 unfold F21
 dsimp only
 rw [q',List.drop_zero]
 rfl
theorem az6 {r:PV}{i k:Nat}{st un:Int} (h:LimR r) (hi:i<(sbL r).length):LimR (regS r i k st un):=
 ⟨by rw [aig];exact h.1,fun j hj=>by rw [aig] at hj;rw [aqi hi];exact h.2 j hj⟩
theorem dueQ {r:PV}{nm:List UInt8}{no:Int} (h:LimR r):∃ b,F10 0 r nm no=some b/\(b=true ↔ ∃ i k,Vat r nm no i k/\dueV r (vsA r i k)=true):=by
 have hl:=avd h
 have q:=afe (step:=S10_4step 0) (fun i=>(nm,no,dueL r,((i:Nat):Int),r)) (dueL r).length (fun i=>bif (((dueL r).getD i .bad).fld 0).asStr==nm then (((dueL r).getD i .bad).fld 1).asInt==no else false) (fun _=>.inl (true,r)) (.inr r) (fun i hi=>by
  simp only [S10_4step,S10_4,decL i _ hi,cond_true,aab,decide_eq_true hi,Int.toNat_natCast,al2,aa4 i (show i<=1000000000000 by omega)]
  cases (bif (((dueL r).getD i .bad).fld 0).asStr==nm then (((dueL r).getD i .bad).fld 1).asInt==no else false)<;>rfl) (by
  simp only [S10_4step,S10_4,decN,cond_false]) _ 0 (Nat.zero_add _)
 have q':aaf 0 (S10_4step 0) (nm,no,dueL r,(0:Int),r)=_:=q
 unfold F10
 rw [a6r h,Option.bind_some,q',Option.bind_some]
 have hmem:∀ u,u∈dueL r->∃ i k,i<(sbL r).length/\k<(vsL (sbA r i)).length/\dueV r (vsA r i k)=true/\u=dueU (sbA r i) (vsA r i k):=fun u hu=>by
  obtain ⟨x,hx,hu⟩:=List.mem_flatMap.1 hu
  obtain ⟨i,hi,rfl⟩:=aps hx
  obtain ⟨v,hv,hu⟩:=List.mem_flatMap.1 hu
  obtain ⟨k,hk,rfl⟩:=aps hv
  cases hd:dueV r ((vsL ((sbL r).getD i .bad)).getD k .bad) with
  | false=>rw [hd] at hu;cases hu
  | true=>
   rw [hd] at hu
   exact ⟨i,k,hi,hk,hd,List.mem_singleton.1 hu⟩
 cases hf:fstI (fun i=>bif (((dueL r).getD i .bad).fld 0).asStr==nm then (((dueL r).getD i .bad).fld 1).asInt==no else false) 0 (dueL r).length with
 | some j=>
  refine ⟨true,rfl,fun _=>?_,fun _=>rfl⟩
  obtain ⟨_,h2,h3⟩:=aiu hf
  obtain ⟨i,k,hi,hk,hd,e⟩:=hmem _ (abb (show j<(dueL r).length by omega))
  rw [e] at h3
  cases h4:(((dueU (sbA r i) (vsA r i k)).fld 0).asStr==nm) with
  | false=>rw [h4] at h3;cases h3
  | true=>
   rw [h4,cond_true] at h3
   exact ⟨i,k,⟨hi,hk,eq_of_beq h4,eq_of_beq h3⟩,hd⟩
 | none=>
  refine ⟨false,rfl,fun e=>(by cases e),?_⟩
  rintro ⟨i,k,a,hd⟩
  exfalso
  have hu:dueU (sbA r i) (vsA r i k)∈dueL r:=List.mem_flatMap.2 ⟨sbA r i,abb a.li,List.mem_flatMap.2 ⟨vsA r i k,abb a.lk,by rw [hd];exact List.mem_singleton.2 rfl⟩⟩
  obtain ⟨j,hj,e⟩:=aps hu
  have hn:=azf hf j (Nat.zero_le _) (by omega)
  rw [e] at hn
  have e1:((dueU (sbA r i) (vsA r i k)).fld 0).asStr=nm:=a.nm
  have e2:((dueU (sbA r i) (vsA r i k)).fld 1).asInt=no:=a.no
  rw [e1,e2] at hn
  simp at hn
theorem a6u {r:PV}{nm:List UInt8}{no:Int}{i k:Nat} (s:Sep r) (a:Vat r nm no i k):F11 0 r nm no=some (vsA r i k,0):=by
 have hs:=s.subs
 have hv:=s.vers i a.li
 have e1:aaf 0 (S30_3step 0) (sbL r,(),((sbL r).length:Int),(0:Int),nm)=some (.inl (((i:Nat):Int),nm)):=by
  have q:=afe (step:=S30_3step 0) (fun j=>(sbL r,(),((sbL r).length:Int),((j:Nat):Int),nm)) (sbL r).length (fun j=>((sbA r j).fld 0).asStr==nm) (fun j=>.inl (((j:Nat):Int),nm)) (.inr nm) (fun j hj=>by
   simp only [S30_3step,S30_3,F31,decL j _ hj,cond_true,aab,decide_eq_true hj,Int.toNat_natCast,Option.bind_some,aa4 j (show j<=1000000000000 by omega)]
   cases ((sbA r j).fld 0).asStr==nm<;>rfl) (by
   simp only [S30_3step,S30_3,decN,cond_false]) _ 0 (Nat.zero_add _)
  rw [ape (p:=fun j=>((sbA r j).fld 0).asStr==nm) (j:=i) (Nat.zero_le _) (by have:=a.li;omega) (beq_iff_eq.2 a.nm) (fun m _ hm hp=>s.name m i (by omega) a.li (by rw [a.nm];exact eq_of_beq hp))] at q
  exact q
 have e2:∀ z:PV,aaf 0 (S11_5step 0) (no,(),vsL (sbA r i),((vsL (sbA r i)).length:Int),(0:Int),r,z)=some (.inl ((),(0:Int),r,vsA r i k)):=fun z=>by
  have q:=afe (step:=S11_5step 0) (fun m=>(no,(),vsL (sbA r i),((vsL (sbA r i)).length:Int),((m:Nat):Int),r,z)) (vsL (sbA r i)).length (fun m=>((vsA r i m).fld 0).asInt==no) (fun m=>.inl ((),(0:Int),r,vsA r i m)) (.inr ((),r,z)) (fun m hm=>by
   simp only [S11_5step,S11_5,F23,decL m _ hm,cond_true,aab,decide_eq_true hm,Int.toNat_natCast,Option.bind_some,aa4 m (show m<=1000000000000 by omega)]
   have p0:∀ x y:Int,((PV.agg [(PV.int x),(PV.int y)]).fld 0).asInt=x:=fun x y=>rfl
   have p1:∀ x y:Int,((PV.agg [(PV.int x),(PV.int y)]).fld 1).asInt=y:=fun x y=>rfl
   simp only [p0,p1,beq_self_eq_true,cond_true]
   cases ((vsA r i m).fld 0).asInt==no<;>rfl) (by
   simp only [S11_5step,S11_5,decN,cond_false]) _ 0 (Nat.zero_add _)
  rw [ape (p:=fun m=>((vsA r i m).fld 0).asInt==no) (j:=k) (Nat.zero_le _) (by have:=a.lk;omega) (beq_iff_eq.2 a.no) (fun m _ hm hp=>s.no i m k a.li (by omega) a.lk (by rw [a.no];exact eq_of_beq hp))] at q
  exact q
 unfold F11 F22 F30
 rw [e1]
 simp only [Option.bind_some,awc]
 rw [decide_eq_true (show ((i:Nat):Int)≥0 by omega)]
 simp only [cond_true,aab,decide_eq_true a.li,Int.toNat_natCast]
 rw [e2,Option.bind_some,awc]
theorem asb {r:PV}{nm:List UInt8}{no:Int}{i k:Nat} (s:Sep r) (a:Vat r nm no i k):F8 0 r nm no=some (bif (bif (((vsA r i k).fld 3).asInt != (2:Int)) then true else decide ((r.fld 0).asInt<((vsA r i k).fld 4).asInt)) then (r,20) else (regS r i k 3 0,0)):=by
 unfold F8
 rw [a3n s a,Option.bind_some]
 simp only [Bool.not_true,cond_false,aab,decide_eq_true a.li,decide_eq_true a.lk,cond_true,Int.toNat_natCast,av8 s a.li a.lk,Option.bind_some]
 cases (bif (((vsA r i k).fld 3).asInt != (2:Int)) then true else decide ((r.fld 0).asInt<((vsA r i k).fld 4).asInt))<;>rfl
theorem axo {r q:PV}{nm:List UInt8} (h:RegOk r):F3 0 r nm q=some true:=by
 obtain ⟨b,hb,_⟩:=a1d h
 obtain ⟨e,he,hz⟩:=ayu h
 unfold F3
 rw [hb,Option.bind_some]
 cases b with
 | false=>rfl
 | true=>
 simp only [Bool.not_true,Bool.not_false,cond_true,cond_false]
 rw [he,Option.bind_some]
 by_cases h0:e=0
 case neg=>rw [show (e != (0:Int))=true from bneI h0];rfl
 subst h0
 obtain ⟨ho,hm⟩:=hz rfl
 have hs:=a7p h ho
 have r0:aaa (0:Int) 2=true:=by decide
 have r1:aaa (1:Int) 2=true:=by decide
 simp only [bne_self_eq_false,cond_false,r0,r1,cond_true]
 generalize (q.fld (0:Int).toNat).asInt=no
 generalize (q.fld (1:Int).toNat).asInt=un
 -- deprecating
 have dep:∃ y,F6 0 r nm no un=some y/\(y.2≠0∨∃ i k,Vat r nm no i k/\(r.fld 0).asInt<un/\y=(regS r i k 2 un,0)):=by
  obtain ⟨y,hy,q⟩:=auh (nm:=nm) (no:=no) hs
  unfold F6
  rw [hy,Option.bind_some]
  dsimp only
  rcases q with q | ⟨i,k,rfl,a⟩
  ·rw [q];exact ⟨_,rfl,Or.inl (by simp)⟩
  ·simp only [Bool.not_true,cond_false,aab,decide_eq_true a.li,decide_eq_true a.lk,cond_true,Int.toNat_natCast]
   obtain ⟨z,hz,_⟩:=aw8 (hs.vers i a.li)
   cases (((vsA r i k).fld 3).asInt != (1:Int)) with
   | true=>exact ⟨_,rfl,Or.inl (by simp)⟩
   | false=>
    simp only [cond_false]
    by_cases hd:un<=(r.fld 0).asInt
    ·rw [decide_eq_true hd];exact ⟨_,rfl,Or.inl (by simp)⟩
    ·rw [decide_eq_false hd]
     simp only [cond_false]
     rw [hz,Option.bind_some]
     cases (z==(k:Int)) with
     | true=>exact ⟨_,rfl,Or.inl (by simp)⟩
     | false=>
      simp only [cond_false]
      rw [av8 hs a.li a.lk]
      exact ⟨_,rfl,Or.inr ⟨i,k,a,by omega,rfl⟩⟩
 obtain ⟨y,hy,hd⟩:=dep
 rw [hy,Option.bind_some]
 rcases hd with hd | ⟨i,k,a,hun,rfl⟩
 ·rw [show (y.2 != (0:Int))=true from bneI hd];rfl
 simp only [bne_self_eq_false,cond_false]
 -- the registries
 have sa:=a08 (st:=2) (un:=un) hs a.li a.lk
 have aa:=a3y (st:=2) (un:=un) a.li a.lk a
 have la:=az6 (k:=k) (st:=2) (un:=un) hm a.li
 have va:vsA (regS r i k 2 un) i k=verS (vsA r i k) 2 un:=by rw [auv a.li a.lk,if_pos ⟨rfl,rfl⟩]
 have da:((regS r i k 2 un).fld 0).asInt=(r.fld 0).asInt:=rfl
 generalize hA:regS r i k 2 un=A at*
 have sb:=a6d (d:=un) sa
 have ab:=a6m (d:=un) aa
 have lb:LimR (dayS A un):=la
 have vb:vsA (dayS A un) i k=verS (vsA r i k) 2 un:=va
 have db:((dayS A un).fld 0).asInt=un:=rfl
 have hday:F9 0 A un=some (dayS A un,0):=by
  unfold F9
  rw [da,decide_eq_false (show ¬un<(r.fld 0).asInt by omega)];rfl
 generalize hB:dayS A un=B at*
 have sc:=a08 (st:=3) (un:=0) sb ab.li ab.lk
 have ac:=a3y (st:=3) (un:=0) ab.li ab.lk ab
 have lc:=az6 (k:=k) (st:=3) (un:=0) lb ab.li
 have vc:vsA (regS B i k 3 0) i k=verS (vsA B i k) 3 0:=by rw [auv ab.li ab.lk,if_pos ⟨rfl,rfl⟩]
 have s2:∀ v:PV,∀ x y:Int,((verS v x y).fld 3).asInt=x:=fun _ _ _=>rfl
 have s3:∀ v:PV,∀ x y:Int,((verS v x y).fld 4).asInt=y:=fun _ _ _=>rfl
 have ra:F8 0 A nm no=some (A,20):=by
  rw [asb sa aa,va,s2,s3,da,decide_eq_true hun];rfl
 have rb:F8 0 B nm no=some (regS B i k 3 0,0):=by
  rw [asb sb ab,vb,s2,s3,db,decide_eq_false (Int.lt_irrefl un)];rfl
 have only:∀ {R:PV}{j m:Nat},Sep R->Vat R nm no i k->Vat R nm no j m->j=i/\m=k:=fun {R j m} s p p'=>by
  have:=s.name j i p'.li p.li (by rw [p.nm,p'.nm])
  subst this
  exact ⟨rfl,s.no j m k p.li p'.lk p.lk (by rw [p.no,p'.no])⟩
 have qa:F10 0 A nm no=some false:=by
  obtain ⟨b,h1,h2⟩:=dueQ (nm:=nm) (no:=no) la
  rw [h1]
  cases b with
  | false=>rfl
  | true=>
   obtain ⟨j,m,p,hd⟩:=h2.1 rfl
   obtain ⟨rfl,rfl⟩:=only sa aa p
   rw [va] at hd
   unfold dueV at hd
   rw [s2,s3,da,decide_eq_false (show ¬un<=(r.fld 0).asInt by omega)] at hd
   cases hd
 have qb:F10 0 B nm no=some true:=by
  obtain ⟨b,h1,h2⟩:=dueQ (nm:=nm) (no:=no) lb
  rw [h1,h2.2 ⟨i,k,ab,by rw [vb];unfold dueV;rw [s2,s3,db,decide_eq_true (Int.le_refl un)];rfl⟩]
 have qc:F10 0 (regS B i k 3 0) nm no=some false:=by
  obtain ⟨b,h1,h2⟩:=dueQ (nm:=nm) (no:=no) lc
  rw [h1]
  cases b with
  | false=>rfl
  | true=>
   obtain ⟨j,m,p,hd⟩:=h2.1 rfl
   obtain ⟨rfl,rfl⟩:=only sc ac p
   rw [vc] at hd
   unfold dueV at hd
   rw [s2] at hd
   cases hd
 have gc:F11 0 (regS B i k 3 0) nm no=some (verS (vsA B i k) 3 0,0):=by rw [a6u sc ac,vc]
 rw [ra,Option.bind_some,hday,Option.bind_some]
 simp only []
 rw [rb,Option.bind_some]
 have n1:((20:Int) != (20:Int))=false:=by decide
 have n2:((0:Int) != (0:Int))=false:=by decide
 simp only [n1,n2,cond_false,Bool.not_false,cond_true,af5]
 rw [qa,Option.bind_some]
 simp only [cond_false,Bool.not_false,cond_true,af5]
 rw [qb,Option.bind_some]
 simp only [Bool.not_true,cond_false,Bool.not_false,cond_true,af5]
 rw [qc,Option.bind_some]
 simp only [cond_false]
 rw [gc,Option.bind_some]
 rfl
end Go.Ab
