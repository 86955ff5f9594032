/- What a value uses, and that the program counts it. -/
import Derived.Test.YtjogoleiodbfdaaGreatPUses3T
set_option linter.unusedVariables false
set_option linter.unusedSimpArgs false
set_option linter.unnecessarySimpa false
namespace Go.Ab
open Go
set_option maxRecDepth 100000
def depU (l:List PV) (s:List UInt8) (n:Int):List UseT:=bif akk l then [(s,n,1)] else []
def useS (U:PV->PV->List UseT) (s:List UInt8) (m x:PV):List UseT:=
 bif (dmem kNum (x.fld 0).asInt (m.fld 1).asList zFld).2 then depU ((dmem kNum (x.fld 0).asInt (m.fld 1).asList zFld).1.fld 8).asList s ((dmem kNum (x.fld 0).asInt (m.fld 1).asList zFld).1.fld 0).asInt++U (dmem kNum (x.fld 0).asInt (m.fld 1).asList zFld).1 (x.fld 1) else []
def useM (U:PV->PV->List UseT) (s:List UInt8) (m v:PV):List UseT:=depU (m.fld 4).asList s (-1)++(v.fld 5).asList.flatMap (useS U s m)
def useI (s:List UInt8) (v it:PV):List UseT:=bif (bif decide ((it.fld 1).asInt≥(0:Int)) then IntKind.wrap .u64 (it.fld 1).asInt==(v.fld 1).asInt else false) then depU (it.fld 2).asList s (it.fld 1).asInt else []
def useN (s:List UInt8) (e v:PV):List UseT:=depU (e.fld 4).asList s (-1)++(e.fld 2).asList.flatMap (useI s v)
def useE (a:PV) (U:PV->PV->List UseT) (t v:PV):List UseT:=
 bif (t.fld 0).asInt==10 then useM U (t.fld 1).asStr (dmem aau (t.fld 1).asStr (a.fld 0).asList zMsg).1 v
 else bif (t.fld 0).asInt==9 then useN (t.fld 1).asStr (dmem aau (t.fld 1).asStr (a.fld 1).asList ac1).1 v else []
def useD (a:PV) (U:PV->PV->List UseT) (f v:PV):List UseT:=
 bif (f.fld 2).asInt==4 then (v.fld 3).asList.flatMap (useE a U (f.fld 4))
 else bif (f.fld 2).asInt==5 then (v.fld 4).asList.flatMap (fun x=>useE a U (f.fld 4) (x.fld 1)) else useE a U (f.fld 4) v
def useF (a:PV):Nat->PV->PV->List UseT
 | 0=>fun _ _=>[]
 | k+1=>useD a (useF a k)
theorem ah1 {σ τ α β:Type}{step:σ->Option (σ⊕τ)} (st:Nat->β->σ) (xs:List α) (f:β->α->β) (out:β->τ) (Inv:Nat->β->Prop)
 (hgo:∀ i (hi:i<xs.length) acc,Inv i acc->step (st i acc)=some (.inl (st (i+1) (f acc xs[i])))/\Inv (i+1) (f acc xs[i])) (hend:∀ acc,Inv xs.length acc->step (st xs.length acc)=some (.inr (out acc))):
 ∀ k i acc,i+k=xs.length->Inv i acc->abo step (st i acc)=some (out ((xs.drop i).foldl f acc)):=by
 intro k
 induction k with
 | zero=>
  intro i acc hi h
  obtain rfl:i=xs.length:=by omega
  rw [List.drop_length]
  exact aaf (hend acc h)
 | succ k ih=>
  intro i acc hi h
  have hlt:i<xs.length:=by omega
  obtain ⟨h1,h2⟩:=hgo i hlt acc h
  rw [aaz h1,ih (i+1) _ (by omega) h2,List.drop_eq_getElem_cons hlt,List.foldl_cons]
theorem afr {α β γ:Type} (g:γ->β->γ) (f:α->List β):∀ (l:List α) (x:γ),(l.flatMap f).foldl g x=l.foldl (fun x y=>(f y).foldl g x) x
 | [],_=>rfl
 | y::r,x=>by rw [List.flatMap_cons,List.foldl_append,afr g f r,List.foldl_cons]
structure MOk (m:PV):Prop where
 fields:(m.fld 1).asList.length<=1048576
 notes:(m.fld 4).asList.length<=1048576
 fnotes:∀ f,f∈(m.fld 1).asList->(f.fld 8).asList.length<=1048576
structure EOk (e:PV):Prop where
 items:(e.fld 2).asList.length<=1048576
 notes:(e.fld 4).asList.length<=1048576
 inotes:∀ f,f∈(e.fld 2).asList->(f.fld 2).asList.length<=1048576
theorem mok {a:PV} (ha:SOk a) (n:List UInt8):MOk (dmem aau n (a.fld 0).asList zMsg).1:=
 ag8 (P:=MOk) (fun x hx=>⟨(ha.msg x hx).fields,(ha.msg x hx).notes,fun f hf=>((ha.msg x hx).field f hf).notes⟩) ⟨by show (0:Nat)<=_;omega,by show (0:Nat)<=_;omega,fun f hf=>by cases hf⟩
theorem eok {a:PV} (ha:SOk a) (n:List UInt8):EOk (dmem aau n (a.fld 1).asList ac1).1:=
 ag8 (P:=EOk) (fun x hx=>⟨(ha.enum x hx).items,(ha.enum x hx).notes,fun f hf=>((ha.enum x hx).item f hf).notes⟩) ⟨by show (0:Nat)<=_;omega,by show (0:Nat)<=_;omega,fun f hf=>by cases hf⟩
theorem fnotes {m:PV} (hm:MOk m) (n:Int):((dmem kNum n (m.fld 1).asList zFld).1.fld 8).asList.length<=1048576:=
 ag8 (P:=fun f=>(f.fld 8).asList.length<=1048576) hm.fnotes (by show (0:Nat)<=_;omega)
theorem avl {κ:Type} [BEq κ] {key:PV->κ}{k:κ}{l:List PV}{z:PV} (h:(dmem key k l z).2=false):(dmem key k l z).1=z:=by
 unfold dmem at*
 cases hf:fst key k l with
 | none=>rfl
 | some x=>rw [hf] at h;cases h
theorem a09 (U:PV->PV->List UseT) (s:List UInt8) (v:PV):useM U s zMsg v=[]:=by
 have h:∀ x,useS U s zMsg x=[]:=fun x=>rfl
 unfold useM
 rw [show depU (zMsg.fld 4).asList s (-1)=[] from rfl,List.nil_append]
 induction (v.fld 5).asList with
 | nil=>rfl
 | cons x r ih=>rw [List.flatMap_cons,h,ih];rfl
theorem a1a (s:List UInt8) (v:PV):useN s ac1 v=[]:=rfl
theorem addH {α:Type} (u:UseT) (l:List UseT) (hu:u.2.2=1) {K:List (PV×PV)->Option α}:
 (bif decide (PV.midx (aav l) (PV.agg [(PV.str u.1),(PV.int u.2.1)])<(PV.mput (aav l) (PV.agg [(PV.str u.1),(PV.int u.2.1)]) ((PV.mget (aav l) (PV.agg [(PV.str u.1),(PV.int u.2.1)])).getD (PV.int (0:Int)))).length) then
  K (PV.mset (PV.mput (aav l) (PV.agg [(PV.str u.1),(PV.int u.2.1)]) ((PV.mget (aav l) (PV.agg [(PV.str u.1),(PV.int u.2.1)])).getD (PV.int (0:Int)))) (PV.midx (aav l) (PV.agg [(PV.str u.1),(PV.int u.2.1)])) (PV.int (IntKind.wrap .i64 (((PV.mget (aav l) (PV.agg [(PV.str u.1),(PV.int u.2.1)])).getD (PV.int (0:Int))).asInt+(1:Int))))) else none)=K (aav (addU l u)):=by
 obtain ⟨h1,h2⟩:=awn u l
 rw [hu] at h2
 have e:PV.agg [(PV.str u.1),(PV.int u.2.1)]=ac3 u:=rfl
 rw [e,decide_eq_true h1,cond_true,h2]
theorem addG {α:Type} (u:UseT) (l:List UseT) (hu:u.2.2=1) {K:List (PV×PV)->Option α}:
 (bif aab ((PV.midx (aav l) (PV.agg [(PV.str u.1),(PV.int u.2.1)]):Nat):Int) ((PV.mput (aav l) (PV.agg [(PV.str u.1),(PV.int u.2.1)]) ((PV.mget (aav l) (PV.agg [(PV.str u.1),(PV.int u.2.1)])).getD (PV.int (0:Int)))).length) then
  K (PV.mset (PV.mput (aav l) (PV.agg [(PV.str u.1),(PV.int u.2.1)]) ((PV.mget (aav l) (PV.agg [(PV.str u.1),(PV.int u.2.1)])).getD (PV.int (0:Int)))) ((PV.midx (aav l) (PV.agg [(PV.str u.1),(PV.int u.2.1)]):Nat):Int).toNat (PV.int (IntKind.wrap .i64 (((PV.mget (aav l) (PV.agg [(PV.str u.1),(PV.int u.2.1)])).getD (PV.int (0:Int))).asInt+(1:Int))))) else none)=K (aav (addU l u)):=by
 rw [aaa,Int.toNat_natCast]
 exact addH u l hu
def au0 (a:PV) (k:Nat):Prop:=∀ (f v:PV) (l:List UseT),aad v<=k->aad v<=1048576->∀ n,4*k+4<=n->(G17 0 n).2.1 ((),f,v,a,(),aav l)=some (a,(),aav ((useF a k f v).foldl addU l))
theorem a03 {a:PV} (ha:SOk a) {k:Nat} (C:au0 a k) (s:List UInt8) (v:PV) (l:List UseT) (hb:aad v<=k+1) (hb2:aad v<=1048576) (n:Nat) (hn:4*k+6<=n):
 (G17 0 n).1 ((),s,v,a,(),aav l)=some (a,(),aav ((useM (useF a k) s (dmem aau s (a.fld 0).asList zMsg).1 v).foldl addU l)):=by
 have hm:=mok ha s
 have hM:=a0m a s ha.len.m
 have hz:=avl (κ:=List UInt8) (key:=aau) (k:=s) (l:=(a.fld 0).asList) (z:=zMsg)
 generalize dmem aau s (a.fld 0).asList zMsg=m at hM hm hz ⊢
 obtain ⟨n,rfl⟩:∃ n',n=n'+1:=⟨n-1,by omega⟩
 show B17 0 ((G17 0 n).1) ((G17 0 n).2.1) ((G17 0 n).2.2) () s v a () (aav l)=_
 unfold B17
 simp only [hM,Option.bind_some]
 cases hf:m.2 with
 | false=>
  rw [hz hf,a09]
  rfl
 | true=>
  simp only [Bool.not_true,cond_false]
  have hd:([100,101,112,114,101,99,97,116,101,100]:List UInt8)=depS:=rfl
  rw [hd,ajw hm.notes]
  simp only [Option.bind_some]
  have hlen:=ab3 v 5
  have loop:∀ l:List UseT,aai 0 (B17_7step 0 ((G17 0 n).1) ((G17 0 n).2.1) ((G17 0 n).2.2)) ((),s,(),(v.fld 5).asList,((v.fld 5).asList.length:Int),(0:Int),a,(),aav l,v,m.1)=some (a,(),aav (((v.fld 5).asList.flatMap (useS (useF a k) s m.1)).foldl addU l),v,m.1):=by
   intro l
   have h:=ah1 (step:=B17_7step 0 ((G17 0 n).1) ((G17 0 n).2.1) ((G17 0 n).2.2)) (fun i (l:List UseT)=>((),s,(),(v.fld 5).asList,((v.fld 5).asList.length:Int),((i:Nat):Int),a,(),aav l,v,m.1)) (v.fld 5).asList (fun l x=>(useS (useF a k) s m.1 x).foldl addU l) (fun l=>(a,(),aav l,v,m.1)) (fun _ _=>True) (fun i hi l _=>by
    refine ⟨?_,trivial⟩
    have hx:=List.getElem_mem hi
    have hxb:aad (((v.fld 5).asList[i]).fld 1)<aad v:=acy hx
    simp only [B17_7step,B17_7,decL i _ hi,cond_true,aaa,decide_eq_true hi,Int.toNat_natCast,aag hi,aa8 i (by omega),a0l m.1 _ hm.fields,Option.bind_some,hd]
    unfold useS
    have hfn:=fnotes hm (((v.fld 5).asList[i]).fld 0).asInt
    generalize dmem kNum (((v.fld 5).asList[i]).fld 0).asInt (m.1.fld 1).asList zFld=f at hfn ⊢
    cases f.2 with
    | false=>rfl
    | true=>
     simp only [Bool.not_true,cond_false,cond_true,ajw hfn,Option.bind_some]
     unfold depU
     cases akk (f.1.fld 8).asList with
     | false=>
      rw [cond_false,cond_false,List.nil_append,C f.1 _ l (by omega) (by omega) n (by omega)]
      rfl
     | true=>
      rw [cond_true,cond_true]
      refine (addH (s,(f.1.fld 0).asInt,1) l rfl (K:=fun es=>((G17 0 n).2.1 ((),f.1,(((v.fld 5).asList[i]).fld 1),a,(),es)).bind fun y38=>some (Sum.inl ((),s,(),(v.fld 5).asList,((v.fld 5).asList.length:Int),((i+1:Nat):Int),y38.1,(),y38.2.2,v,m.1)))).trans ?_
      rw [C f.1 _ _ (by omega) (by omega) n (by omega)]
      rfl) (fun l _=>by
    simp only [B17_7step,B17_7,decN,cond_false]) (v.fld 5).asList.length 0 l (by omega) trivial
   rw [List.drop_zero,<-afr addU] at h
   exact h
  unfold useM depU
  cases akk (m.1.fld 4).asList with
  | false=>
   rw [cond_false,cond_false,List.nil_append,loop]
   rfl
  | true=>
   rw [cond_true,cond_true]
   refine (addG (s,-1,1) l rfl (K:=fun es=>(aai 0 (B17_7step 0 ((G17 0 n).1) ((G17 0 n).2.1) ((G17 0 n).2.2)) ((),s,(),(v.fld 5).asList,((v.fld 5).asList.length:Int),(0:Int),a,(),es,v,m.1)).bind fun y43=>some (y43.1,(),y43.2.2.1))).trans ?_
   rw [loop]
   rfl
theorem azv {a:PV} (ha:SOk a) {k:Nat} (C:au0 a k) (t v:PV) (l:List UseT) (hb:aad v<=k+1) (hb2:aad v<=1048576) (n:Nat) (hn:4*k+7<=n):
 (G17 0 n).2.2 ((),t,v,a,(),aav l)=some (a,(),aav ((useE a (useF a k) t v).foldl addU l)):=by
 obtain ⟨n,rfl⟩:∃ n',n=n'+1:=⟨n-1,by omega⟩
 show B56 0 ((G17 0 n).1) ((G17 0 n).2.1) ((G17 0 n).2.2) () t v a () (aav l)=_
 unfold B56 useE
 dsimp only
 cases h10:((t.fld 0).asInt==(10:Int)) with
 | true=>
  simp only [cond_true,a03 ha C (t.fld 1).asStr v l hb hb2 n (by omega),Option.bind_some]
 | false=>
  simp only [cond_false]
  cases h9:((t.fld 0).asInt==(9:Int)) with
  | false=>rfl
  | true=>
   simp only [cond_true]
   have he:=eok ha (t.fld 1).asStr
   have hE:=a0k a (t.fld 1).asStr ha.len.e
   have hz:=avl (κ:=List UInt8) (key:=aau) (k:=(t.fld 1).asStr) (l:=(a.fld 1).asList) (z:=ac1)
   generalize dmem aau (t.fld 1).asStr (a.fld 1).asList ac1=e at hE he hz ⊢
   simp only [hE,Option.bind_some]
   cases hf:e.2 with
   | false=>rw [hz hf,a1a];rfl
   | true=>
    simp only [Bool.not_true,cond_false]
    have hd:([100,101,112,114,101,99,97,116,101,100]:List UInt8)=depS:=rfl
    rw [hd,ajw he.notes]
    simp only [Option.bind_some]
    have hlen:=he.items
    have loop:∀ l:List UseT,aai 0 (B56_11step 0 ((G17 0 n).1) ((G17 0 n).2.1) ((G17 0 n).2.2)) ((),(),(),(e.1.fld 2).asList,((e.1.fld 2).asList.length:Int),(0:Int),a,(),aav l,t,v,e.1)=some (a,(),aav (((e.1.fld 2).asList.flatMap (useI (t.fld 1).asStr v)).foldl addU l),t,v,e.1):=by
     intro l
     have h:=ah1 (step:=B56_11step 0 ((G17 0 n).1) ((G17 0 n).2.1) ((G17 0 n).2.2)) (fun i (l:List UseT)=>((),(),(),(e.1.fld 2).asList,((e.1.fld 2).asList.length:Int),((i:Nat):Int),a,(),aav l,t,v,e.1)) (e.1.fld 2).asList (fun l x=>(useI (t.fld 1).asStr v x).foldl addU l) (fun l=>(a,(),aav l,t,v,e.1)) (fun _ _=>True) (fun i hi l _=>by
      refine ⟨?_,trivial⟩
      have hx:=List.getElem_mem hi
      have hfn:=he.inotes _ hx
      simp only [B56_11step,B56_11,decL i _ hi,cond_true,aaa,decide_eq_true hi,Int.toNat_natCast,aag hi,aa8 i (by omega),hd,ajw hfn]
      unfold useI
      cases (bif decide ((((e.1.fld 2).asList[i]).fld 1).asInt≥(0:Int)) then IntKind.wrap .u64 (((e.1.fld 2).asList[i]).fld 1).asInt==(v.fld 1).asInt else false) with
      | false=>rfl
      | true=>
       simp only [cond_true,Option.bind_some]
       unfold depU
       cases akk ((((e.1.fld 2).asList[i]).fld 2).asList) with
       | false=>rfl
       | true=>
        rw [cond_true,cond_true]
        exact addH ((t.fld 1).asStr,(((e.1.fld 2).asList[i]).fld 1).asInt,1) l rfl (K:=fun es=>some (Sum.inl ((),(),(),(e.1.fld 2).asList,((e.1.fld 2).asList.length:Int),((i+1:Nat):Int),a,(),es,t,v,e.1)))) (fun l _=>by
      simp only [B56_11step,B56_11,decN,cond_false]) (e.1.fld 2).asList.length 0 l (by omega) trivial
     rw [List.drop_zero,<-afr addU] at h
     exact h
    unfold useN depU
    cases akk (e.1.fld 4).asList with
    | false=>
     rw [cond_false,cond_false,List.nil_append,loop]
     rfl
    | true=>
     rw [cond_true,cond_true]
     refine (addG ((t.fld 1).asStr,-1,1) l rfl (K:=fun es=>(aai 0 (B56_11step 0 ((G17 0 n).1) ((G17 0 n).2.1) ((G17 0 n).2.2)) ((),(),(),(e.1.fld 2).asList,((e.1.fld 2).asList.length:Int),(0:Int),a,(),es,t,v,e.1)).bind fun y50=>some (y50.1,(),y50.2.2.1))).trans ?_
     rw [loop]
     rfl
theorem progD {a:PV} (ha:SOk a) {k:Nat} (C:au0 a k):au0 a (k+1):=by
 intro f v l hb hb2 n hn
 have h3:=ab3 v 3
 have h4:=ab3 v 4
 obtain ⟨n,rfl⟩:∃ n',n=n'+1:=⟨n-1,by omega⟩
 show B30 0 ((G17 0 n).1) ((G17 0 n).2.1) ((G17 0 n).2.2) () f v a () (aav l)=some (a,(),aav ((useD a (useF a k) f v).foldl addU l))
 unfold B30 useD
 dsimp only
 cases (f.fld 2).asInt==(4:Int) with
 | true=>
  simp only [cond_true]
  have h:=ah1 (step:=B30_6step 0 ((G17 0 n).1) ((G17 0 n).2.1) ((G17 0 n).2.2)) (fun i (l:List UseT)=>((),(),(v.fld 3).asList,((v.fld 3).asList.length:Int),((i:Nat):Int),a,(),aav l,f,v)) (v.fld 3).asList (fun l x=>(useE a (useF a k) (f.fld 4) x).foldl addU l) (fun l=>(a,(),aav l,f,v)) (fun _ _=>True) (fun i hi l _=>by
   refine ⟨?_,trivial⟩
   have hx:=List.getElem_mem hi
   have hxb:=amr hx
   simp only [B30_6step,B30_6,decL i _ hi,cond_true,aaa,decide_eq_true hi,Int.toNat_natCast,aag hi,aa8 i (by omega),azv ha C (f.fld 4) ((v.fld 3).asList[i]) l (by omega) (by omega) n (by omega),Option.bind_some]) (fun l _=>by
   simp only [B30_6step,B30_6,decN,cond_false]) (v.fld 3).asList.length 0 l (by omega) trivial
  rw [List.drop_zero,<-afr addU] at h
  have h:aai 0 (B30_6step 0 ((G17 0 n).1) ((G17 0 n).2.1) ((G17 0 n).2.2)) ((),(),(v.fld 3).asList,((v.fld 3).asList.length:Int),(0:Int),a,(),aav l,f,v)=_:=h
  rw [h]
  rfl
 | false=>
  simp only [cond_false]
  cases (f.fld 2).asInt==(5:Int) with
  | true=>
   simp only [cond_true]
   have h:=ah1 (step:=B30_12step 0 ((G17 0 n).1) ((G17 0 n).2.1) ((G17 0 n).2.2)) (fun i (l:List UseT)=>((),(),(v.fld 4).asList,((v.fld 4).asList.length:Int),((i:Nat):Int),a,(),aav l,f,v)) (v.fld 4).asList (fun l x=>(useE a (useF a k) (f.fld 4) (x.fld 1)).foldl addU l) (fun l=>(a,(),aav l,f,v)) (fun _ _=>True) (fun i hi l _=>by
    refine ⟨?_,trivial⟩
    have hx:=List.getElem_mem hi
    have hxb:aad (((v.fld 4).asList[i]).fld 1)<aad v:=acy hx
    simp only [B30_12step,B30_12,decL i _ hi,cond_true,aaa,decide_eq_true hi,Int.toNat_natCast,aag hi,aa8 i (by omega),azv ha C (f.fld 4) (((v.fld 4).asList[i]).fld 1) l (by omega) (by omega) n (by omega),Option.bind_some]) (fun l _=>by
    simp only [B30_12step,B30_12,decN,cond_false]) (v.fld 4).asList.length 0 l (by omega) trivial
   rw [List.drop_zero,<-afr addU (fun x:PV=>useE a (useF a k) (f.fld 4) (x.fld 1))] at h
   have h:aai 0 (B30_12step 0 ((G17 0 n).1) ((G17 0 n).2.1) ((G17 0 n).2.2)) ((),(),(v.fld 4).asList,((v.fld 4).asList.length:Int),(0:Int),a,(),aav l,f,v)=_:=h
   rw [h]
   rfl
  | false=>
   simp only [cond_false,azv ha C (f.fld 4) v l hb hb2 n (by omega),Option.bind_some]
theorem a02 {a:PV} (ha:SOk a):∀ k,au0 a k
 | 0=>fun f v l hb=>absurd hb (by have:=aba v;omega)
 | k+1=>progD ha (a02 ha k)
end Go.Ab
