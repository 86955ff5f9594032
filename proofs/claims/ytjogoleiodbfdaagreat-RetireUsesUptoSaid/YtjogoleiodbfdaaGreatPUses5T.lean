/- What a value uses, as the specification counts it; the law RetireUses. -/
import Derived.Test.YtjogoleiodbfdaaGreatPUses4T
set_option linter.unusedVariables false
set_option linter.unusedSimpArgs false
set_option linter.unnecessarySimpa false
namespace Go.Ab
open Go
set_option maxRecDepth 100000
theorem afw {σ τ α:Type}{step:σ->Option (σ⊕τ)} (st:Nat->List UseT->σ) (xs:List α) (c:α->List UseT) (out:List UseT->τ) (M:Nat)
 (hgo:∀ i (hi:i<xs.length) L,L.length+(c xs[i]).length<=M->step (st i L)=some (.inl (st (i+1) ((c xs[i]).foldl acz L)))) (hend:∀ L,step (st xs.length L)=some (.inr (out L))):
 ∀ k i L,i+k=xs.length->L.length+((xs.drop i).flatMap c).length<=M->abo step (st i L)=some (out (((xs.drop i).flatMap c).foldl acz L)):=by
 intro k
 induction k with
 | zero=>
  intro i L hi _
  obtain rfl:i=xs.length:=by omega
  rw [List.drop_length]
  exact aaf (hend L)
 | succ k ih=>
  intro i L hi hL
  have hlt:i<xs.length:=by omega
  rw [List.drop_eq_getElem_cons hlt,List.flatMap_cons] at hL ⊢
  rw [List.length_append] at hL
  have hf:=ae2 aey (c xs[i]) L
  rw [aaz (hgo i hlt L (by omega)),ih (i+1) _ (by omega) (by omega),List.foldl_append]
theorem aow {key:PV->Int}{g:PV->List UseT}{z:PV}{k:Int}:∀ {l:List PV},(l.map key).Nodup->l.flatMap (fun y=>bif key y==k then g y else [])=bif (dmem key k l z).2 then g (dmem key k l z).1 else []
 | [],_=>rfl
 | y::r,h=>by
  rw [List.map_cons,List.nodup_cons] at h
  rw [List.flatMap_cons]
  unfold dmem fst
  rw [List.find?_cons]
  cases e:key y==k with
  | true=>
   have hr:r.flatMap (fun y=>bif key y==k then g y else [])=[]:=by
    rw [List.flatMap_eq_nil_iff]
    intro x hx
    cases q:key x==k with
    | false=>rfl
    | true=>
     have e1:=eq_of_beq e;have e2:=eq_of_beq q
     exact absurd (List.mem_map.2 ⟨x,hx,e2.trans e1.symm⟩) h.1
   rw [hr,List.append_nil]
  | false=>
   have:=aow (g:=g) (z:=z) (k:=k) h.2
   unfold dmem fst at this
   rw [cond_false,List.nil_append,this]
structure EU (e:PV):Prop where
 uq:((e.fld 2).asList.map av6).Nodup
 rng:∀ f,f∈(e.fld 2).asList->0<=(f.fld 1).asInt/\(f.fld 1).asInt<=2147483647
theorem eu {a:PV} (h:SchemaV a) (n:List UInt8):EU (dmem aau n (a.fld 1).asList ac1).1:=
 ag8 (P:=EU) (fun x hx=>⟨h.uq.es x hx,fun f hf=>by
  obtain ⟨i,hi,rfl⟩:=List.mem_iff_getElem.1 hx
  have hE:=h.enum i hi
  rw [aag hi] at hE
  obtain ⟨j,hj,rfl⟩:=List.mem_iff_getElem.1 hf
  have:=hE j hj
  have p:=this.pos;have q:=this.top
  rw [aag hj] at p q
  exact ⟨p,q⟩⟩) ⟨List.nodup_nil,fun f hf=>by cases hf⟩
theorem mu {a:PV} (h:SchemaV a) (n:List UInt8):(((dmem aau n (a.fld 0).asList zMsg).1.fld 1).asList.map kNum).Nodup:=
 ag8 (P:=fun m=>((m.fld 1).asList.map kNum).Nodup) (fun x hx=>h.uq.ms x hx) List.nodup_nil
theorem wrapU {n:Int} (h:0<=n/\n<=2147483647):IntKind.wrap .u64 n=n:=by
 rw [IntKind.wrap_u64]
 omega
theorem aob {a:List PV} (ha:a.length<=1048576) (s:List UInt8) (n:Int) (L:List UseT) (hL:L.length<=4000000000) {α:Type}{K:List PV->Option α}:
 ((F33 0 a).bind fun y=>bif y then (F34 0 (L.map aar) s n (1:Int)).bind fun z=>K z else K (L.map aar))=K (((depU a s n).foldl acz L).map aar):=by
 rw [aq8 ha]
 simp only [Option.bind_some]
 unfold depU
 cases akk a with
 | false=>rfl
 | true=>
  have:=az7 L (s,n,1) hL
  simp only at this
  rw [cond_true,cond_true,this]
  rfl
def au1 (a:PV) (k:Nat):Prop:=∀ (f v:PV) (L:List UseT),aad v<=k->aad v<=1048576->fitF a k f v->L.length+(useF a k f v).length<=4000000000->∀ n,4*k+4<=n->(G19 0 n).2 (a,f.fld 4,v,L.map aar)=some (((useF a k f v).foldl acz L).map aar)
theorem a06 {a:PV} (ha:SOk a) (sa:SchemaV a) {k:Nat} (C:au1 a k) (s:List UInt8) (v:PV) (L:List UseT) (hb:aad v<=k+1) (hb2:aad v<=1048576) (hfit:fitM (fitF a k) (dmem aau s (a.fld 0).asList zMsg).1 v)
 (hL:L.length+(useM (useF a k) s (dmem aau s (a.fld 0).asList zMsg).1 v).length<=4000000000) (n:Nat) (hn:4*k+6<=n):
 (G19 0 n).1 (a,s,v,L.map aar)=some (((useM (useF a k) s (dmem aau s (a.fld 0).asList zMsg).1 v).foldl acz L).map aar):=by
 have hm:=mok ha s
 have hu:=mu sa s
 obtain ⟨jm,hM⟩:=aw0 a s ha.len.m
 generalize dmem aau s (a.fld 0).asList zMsg=m at hM hm hu hfit hL ⊢
 obtain ⟨n,rfl⟩:∃ n',n=n'+1:=⟨n-1,by omega⟩
 have hlen:=ab3 v 5
 have hml:=hm.fields
 have loop:∀ L:List UseT,L.length+((v.fld 5).asList.flatMap (useS (useF a k) s m.1)).length<=4000000000->aai 0 (B19_6step 0 ((G19 0 n).1) ((G19 0 n).2)) (s,L.map aar,(),(),(),(0:Int),a,v,m.1)=some ((((v.fld 5).asList.flatMap (useS (useF a k) s m.1)).foldl acz L).map aar,a,v,m.1):=by
  intro L hL
  have h:=afw (step:=B19_6step 0 ((G19 0 n).1) ((G19 0 n).2)) (fun i (L:List UseT)=>(s,L.map aar,(),(),(),((i:Nat):Int),a,v,m.1)) (v.fld 5).asList (useS (useF a k) s m.1) (fun L=>(L.map aar,a,v,m.1)) 4000000000 (fun i hi L hL=>by
   have hx:=List.getElem_mem hi
   have hxb:aad (((v.fld 5).asList[i]).fld 1)<aad v:=acy hx
   have hxf:=hfit.2 _ hx
   let c:PV->List UseT:=fun f=>bif kNum f==(((v.fld 5).asList[i]).fld 0).asInt then depU (f.fld 8).asList s (f.fld 0).asInt++useF a k f (((v.fld 5).asList[i]).fld 1) else []
   have hc:(m.1.fld 1).asList.flatMap c=useS (useF a k) s m.1 ((v.fld 5).asList[i]):=aow (g:=fun f=>depU (f.fld 8).asList s (f.fld 0).asInt++useF a k f (((v.fld 5).asList[i]).fld 1)) (z:=zFld) hu
   have h2:=afw (step:=B19_9step 0 ((G19 0 n).1) ((G19 0 n).2)) (fun j (L:List UseT)=>(s,L.map aar,(),(),(),((i:Nat):Int),((j:Nat):Int),a,v,m.1)) (m.1.fld 1).asList c (fun L=>(s,L.map aar,(),(),(),((i:Nat):Int),a,v,m.1)) 4000000000 (fun j hj L hL=>by
    have hy:=List.getElem_mem hj
    simp only [B19_9step,B19_9,decL j _ hj,cond_true,aaa,decide_eq_true hj,decide_eq_true hi,Int.toNat_natCast,aag hj,aag hi,aa8 j (by omega)]
    have hcj:c (m.1.fld 1).asList[j]=bif kNum (m.1.fld 1).asList[j]==(((v.fld 5).asList[i]).fld 0).asInt then depU (((m.1.fld 1).asList[j]).fld 8).asList s (((m.1.fld 1).asList[j]).fld 0).asInt++useF a k (m.1.fld 1).asList[j] (((v.fld 5).asList[i]).fld 1) else []:=rfl
    rw [hcj] at hL ⊢
    cases hq:kNum (m.1.fld 1).asList[j]==(((v.fld 5).asList[i]).fld 0).asInt with
    | false=>
     have hq':((((m.1.fld 1).asList[j]).fld 0).asInt != (((v.fld 5).asList[i]).fld 0).asInt)=true:=by
      show (!(kNum (m.1.fld 1).asList[j]==_))=true
      rw [hq];rfl
     rw [hq']
     rfl
    | true=>
     have hq':((((m.1.fld 1).asList[j]).fld 0).asInt != (((v.fld 5).asList[i]).fld 0).asInt)=false:=by
      show (!(kNum (m.1.fld 1).asList[j]==_))=false
      rw [hq];rfl
     rw [hq']
     rw [hq,cond_true,List.length_append] at hL
     have hfl:=ae2 aey (depU (((m.1.fld 1).asList[j]).fld 8).asList s (((m.1.fld 1).asList[j]).fld 0).asInt) L
     have hself:dmem kNum (((v.fld 5).asList[i]).fld 0).asInt (m.1.fld 1).asList zFld=((m.1.fld 1).asList[j],true):=avm hu hy (eq_of_beq hq)
     have hR:=hxf.2
     rw [hself] at hR
     have hR:fitF a k (m.1.fld 1).asList[j] (((v.fld 5).asList[i]).fld 1):=hR
     rw [cond_false]
     refine (aob (hm.fnotes _ hy) s _ L (by omega) (K:=fun y44=>((G19 0 n).2 (a,((m.1.fld 1).asList[j]).fld 4,(((v.fld 5).asList[i]).fld 1),y44)).bind fun y49=>some (Sum.inl (s,y49,(),(),(),((i:Nat):Int),((j+1:Nat):Int),a,v,m.1)))).trans ?_
     rw [C (m.1.fld 1).asList[j] (((v.fld 5).asList[i]).fld 1) _ (by omega) (by omega) hR (by omega) n (by omega),Option.bind_some,cond_true,List.foldl_append]) (fun L=>by
    simp only [B19_9step,B19_9,decN,cond_false]) (m.1.fld 1).asList.length 0 L (by omega) (by rw [List.drop_zero,hc];exact hL)
   rw [List.drop_zero,hc] at h2
   have h2:aai 0 (B19_9step 0 ((G19 0 n).1) ((G19 0 n).2)) (s,L.map aar,(),(),(),((i:Nat):Int),(0:Int),a,v,m.1)=_:=h2
   simp only [B19_6step,B19_6,decL i _ hi,cond_true,h2,Option.bind_some,aa8 i (by omega)]) (fun L=>by
   simp only [B19_6step,B19_6,decN,cond_false]) (v.fld 5).asList.length 0 L (by omega) (by rw [List.drop_zero];exact hL)
  rw [List.drop_zero] at h
  exact h
 show B19 0 ((G19 0 n).1) ((G19 0 n).2) a s v (L.map aar)=_
 unfold B19
 simp only [hM,Option.bind_some]
 unfold useM at hL ⊢
 rw [List.length_append] at hL
 have hfl:=ae2 aey (depU (m.1.fld 4).asList s (-1)) L
 refine (aob hm.notes s (-1) L (by omega) (K:=fun y6=>(aai 0 (B19_6step 0 ((G19 0 n).1) ((G19 0 n).2)) (s,y6,(),(),(),(0:Int),a,v,m.1)).bind fun y60=>some y60.1)).trans ?_
 rw [loop _ (by omega),Option.bind_some,List.foldl_append]
theorem specN {a:PV} (ha:SOk a) (sa:SchemaV a) (s:List UInt8) (v:PV) (L:List UseT) (hL:L.length+(useN s (dmem aau s (a.fld 1).asList ac1).1 v).length<=4000000000):
 F62 0 a s v (L.map aar)=some (((useN s (dmem aau s (a.fld 1).asList ac1).1 v).foldl acz L).map aar):=by
 have he:=eok ha s
 have hu:=eu sa s
 obtain ⟨je,hE⟩:=auh a s ha.len.e
 generalize dmem aau s (a.fld 1).asList ac1=e at hE he hu hL ⊢
 have hlen:=he.items
 have loop:∀ L:List UseT,L.length+((e.1.fld 2).asList.flatMap (useI s v)).length<=4000000000->aai 0 (S62_6step 0) (s,L.map aar,(),(),(0:Int),a,v,e.1)=some ((((e.1.fld 2).asList.flatMap (useI s v)).foldl acz L).map aar,a,v,e.1):=by
  intro L hL
  have h:=afw (step:=S62_6step 0) (fun i (L:List UseT)=>(s,L.map aar,(),(),((i:Nat):Int),a,v,e.1)) (e.1.fld 2).asList (useI s v) (fun L=>(L.map aar,a,v,e.1)) 4000000000 (fun i hi L hL=>by
   have hx:=List.getElem_mem hi
   have hr:=hu.rng _ hx
   have hg:decide ((((e.1.fld 2).asList[i]).fld 1).asInt≥(0:Int))=true:=decide_eq_true hr.1
   simp only [S62_6step,S62_6,decL i _ hi,cond_true,aaa,decide_eq_true hi,Int.toNat_natCast,aag hi,aa8 i (by omega),avx]
   unfold useI at hL ⊢
   rw [hg,cond_true] at hL ⊢
   cases hq:(IntKind.wrap .u64 (((e.1.fld 2).asList[i]).fld 1).asInt==(v.fld 1).asInt) with
   | false=>rfl
   | true=>
    simp only [cond_true,aq8 (he.inotes _ hx),Option.bind_some]
    rw [hq,cond_true] at hL
    have:=aob (he.inotes _ hx) s (((e.1.fld 2).asList[i]).fld 1).asInt L (by omega) (K:=fun y35=>some (Sum.inl (β:=(List PV×PV×PV×PV)) (s,y35,(),(),((i+1:Nat):Int),a,v,e.1)))
    rw [aq8 (he.inotes _ hx),Option.bind_some] at this
    exact this) (fun L=>by
   simp only [S62_6step,S62_6,decN,cond_false]) (e.1.fld 2).asList.length 0 L (by omega) (by rw [List.drop_zero];exact hL)
  rw [List.drop_zero] at h
  exact h
 unfold F62
 simp only [hE,Option.bind_some]
 unfold useN at hL ⊢
 rw [List.length_append] at hL
 have hfl:=ae2 aey (depU (e.1.fld 4).asList s (-1)) L
 refine (aob he.notes s (-1) L (by omega) (K:=fun y6=>(aai 0 (S62_6step 0) (s,y6,(),(),(0:Int),a,v,e.1)).bind fun y38=>some y38.1)).trans ?_
 rw [loop _ (by omega),Option.bind_some,List.foldl_append]
theorem azz {a:PV} (ha:SOk a) (sa:SchemaV a) {k:Nat} (C:au1 a k) (t v:PV) (L:List UseT) (hb:aad v<=k+1) (hb2:aad v<=1048576) (hfit:fitE a (fitF a k) t v) (hL:L.length+(useE a (useF a k) t v).length<=4000000000) (n:Nat) (hn:4*k+7<=n):
 (G19 0 n).2 (a,t,v,L.map aar)=some (((useE a (useF a k) t v).foldl acz L).map aar):=by
 obtain ⟨n,rfl⟩:∃ n',n=n'+1:=⟨n-1,by omega⟩
 show B35 0 ((G19 0 n).1) ((G19 0 n).2) a t v (L.map aar)=_
 unfold B35
 dsimp only
 unfold useE at hL ⊢
 by_cases h10:(t.fld 0).asInt=10
 ·have hM:=hfit.1 h10
  have e10:((t.fld 0).asInt==10)=true:=by simp [h10]
  rw [e10,cond_true] at hL ⊢
  have k11:((v.fld 0).asInt==11)=false:=by simp [hM.1]
  have k12:((v.fld 0).asInt==12)=false:=by simp [hM.1]
  have k10:((v.fld 0).asInt==10)=true:=by simp [hM.1]
  rw [k11,k12,k10]
  simp only [cond_true,cond_false,a06 ha sa C (t.fld 1).asStr v L hb hb2 hM hL n (by omega),Option.bind_some]
 ·have e10:((t.fld 0).asInt==10)=false:=by simp [h10]
  rw [e10,cond_false] at hL ⊢
  by_cases h9:(t.fld 0).asInt=9
  ·have hk:=hfit.2.1 h9
   have e9:((t.fld 0).asInt==9)=true:=by simp [h9]
   rw [e9,cond_true] at hL ⊢
   have k11:((v.fld 0).asInt==11)=false:=by simp [hk]
   have k12:((v.fld 0).asInt==12)=false:=by simp [hk]
   have k10:((v.fld 0).asInt==10)=false:=by simp [hk]
   have k9:((v.fld 0).asInt==9)=true:=by simp [hk]
   rw [k11,k12,k10,k9]
   simp only [cond_true,cond_false,specN ha sa (t.fld 1).asStr v L hL,Option.bind_some]
  ·have hk:=hfit.2.2 h10 h9
   have e9:((t.fld 0).asInt==9)=false:=by simp [h9]
   rw [e9,cond_false]
   have k11:((v.fld 0).asInt==11)=false:=by simp;omega
   have k12:((v.fld 0).asInt==12)=false:=by simp;omega
   have k10:((v.fld 0).asInt==10)=false:=by simp;omega
   have k9:((v.fld 0).asInt==9)=false:=by simp;omega
   rw [k11,k12,k10,k9]
   rfl
theorem specD {a:PV} (ha:SOk a) (sa:SchemaV a) {k:Nat} (C:au1 a k):au1 a (k+1):=by
 intro f v L hb hb2 hfit hL n hn
 have h3:=ab3 v 3
 have h4:=ab3 v 4
 have hfit:fitD a (fitF a k) f v:=hfit
 have hL:L.length+(useD a (useF a k) f v).length<=4000000000:=hL
 show _=some (((useD a (useF a k) f v).foldl acz L).map aar)
 unfold useD at hL ⊢
 by_cases c4:(f.fld 2).asInt=4
 ·obtain ⟨hk,hx⟩:=hfit.1 c4
  have e4:((f.fld 2).asInt==4)=true:=by simp [c4]
  have k11:((v.fld 0).asInt==11)=true:=by simp [hk]
  rw [e4,cond_true] at hL ⊢
  obtain ⟨n,rfl⟩:∃ n',n=n'+1:=⟨n-1,by omega⟩
  show B35 0 ((G19 0 n).1) ((G19 0 n).2) a (f.fld 4) v (L.map aar)=_
  unfold B35
  dsimp only
  rw [k11,cond_true]
  have h:=afw (step:=B35_5step 0 ((G19 0 n).1) ((G19 0 n).2)) (fun i (L:List UseT)=>(L.map aar,(),(),(),((i:Nat):Int),a,f.fld 4,v)) (v.fld 3).asList (useE a (useF a k) (f.fld 4)) (fun L=>(L.map aar,a,f.fld 4,v)) 4000000000 (fun i hi L hL=>by
   have hm:=List.getElem_mem hi
   have hxb:=amr hm
   simp only [B35_5step,B35_5,decL i _ hi,cond_true,aaa,decide_eq_true hi,Int.toNat_natCast,aag hi,aa8 i (by omega),azz ha sa C (f.fld 4) _ L (by omega) (by omega) (hx _ hm) hL n (by omega),Option.bind_some]) (fun L=>by
   simp only [B35_5step,B35_5,decN,cond_false]) (v.fld 3).asList.length 0 L (by omega) (by rw [List.drop_zero];exact hL)
  rw [List.drop_zero] at h
  have h:aai 0 (B35_5step 0 ((G19 0 n).1) ((G19 0 n).2)) (L.map aar,(),(),(),(0:Int),a,f.fld 4,v)=_:=h
  rw [h,Option.bind_some]
 have e4:((f.fld 2).asInt==4)=false:=by simp [c4]
 rw [e4,cond_false] at hL ⊢
 by_cases c5:(f.fld 2).asInt=5
 ·obtain ⟨hk,hx⟩:=hfit.2.1 c5
  have e5:((f.fld 2).asInt==5)=true:=by simp [c5]
  have k11:((v.fld 0).asInt==11)=false:=by simp [hk]
  have k12:((v.fld 0).asInt==12)=true:=by simp [hk]
  rw [e5,cond_true] at hL ⊢
  obtain ⟨n,rfl⟩:∃ n',n=n'+1:=⟨n-1,by omega⟩
  show B35 0 ((G19 0 n).1) ((G19 0 n).2) a (f.fld 4) v (L.map aar)=_
  unfold B35
  dsimp only
  rw [k11,k12,cond_true,cond_false]
  have h:=afw (step:=B35_10step 0 ((G19 0 n).1) ((G19 0 n).2)) (fun i (L:List UseT)=>(L.map aar,(),(),(),((i:Nat):Int),a,f.fld 4,v)) (v.fld 4).asList (fun x:PV=>useE a (useF a k) (f.fld 4) (x.fld 1)) (fun L=>(L.map aar,a,f.fld 4,v)) 4000000000 (fun i hi L hL=>by
   have hm:=List.getElem_mem hi
   have hxb:aad (((v.fld 4).asList[i]).fld 1)<aad v:=acy hm
   simp only [B35_10step,B35_10,decL i _ hi,cond_true,aaa,decide_eq_true hi,Int.toNat_natCast,aag hi,aa8 i (by omega),azz ha sa C (f.fld 4) _ L (by omega) (by omega) (hx _ hm) hL n (by omega),Option.bind_some]) (fun L=>by
   simp only [B35_10step,B35_10,decN,cond_false]) (v.fld 4).asList.length 0 L (by omega) (by rw [List.drop_zero];exact hL)
  rw [List.drop_zero] at h
  have h:aai 0 (B35_10step 0 ((G19 0 n).1) ((G19 0 n).2)) (L.map aar,(),(),(),(0:Int),a,f.fld 4,v)=_:=h
  rw [h,Option.bind_some]
 have e5:((f.fld 2).asInt==5)=false:=by simp [c5]
 rw [e5,cond_false] at hL ⊢
 exact azz ha sa C (f.fld 4) v L hb hb2 (hfit.2.2 c4 c5) hL n (by omega)
theorem a05 {a:PV} (ha:SOk a) (sa:SchemaV a):∀ k,au1 a k
 | 0=>fun f v L hb=>absurd hb (by have:=aba v;omega)
 | k+1=>specD ha sa (a05 ha sa k)
end Go.Ab
