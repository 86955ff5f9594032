/- Counts in lists of uses. -/
import Derived.Test.YtjogoleiodbfdaaGreatPCountsT
set_option linter.unusedVariables false
set_option linter.unusedSimpArgs false
set_option linter.unnecessarySimpa false
namespace Go.Ab
open Go
set_option maxRecDepth 100000
theorem aml (a:PV) (d:List UInt8) (n:Int):∀ V:List UseT,(V.filter (ag0 a)).countP (qK d n)=bif afa a d n then V.countP (qK d n) else 0
 | []=>by cases afa a d n<;>rfl
 | u::r=>by
  have ih:=aml a d n r
  rw [List.filter_cons,List.countP_cons]
  cases hq:qK d n u with
  | true=>
   have hk:ag0 a u=afa a d n:=by
    unfold qK at hq
    rw [Bool.and_eq_true] at hq
    unfold ag0
    rw [eq_of_beq hq.1,eq_of_beq hq.2]
   rw [hk]
   cases hf:afa a d n with
   | true=>rw [hf] at ih;rw [if_pos rfl,List.countP_cons,hq,ih];rfl
   | false=>rw [hf] at ih;exact ih
  | false=>
   cases ag0 a u with
   | true=>rw [if_pos rfl,List.countP_cons,hq,ih];cases afa a d n<;>rfl
   | false=>exact ih.trans (by cases afa a d n<;>rfl)
def cntL (l:List UseT) (d:List UInt8) (n:Int):Int:=match l.find? (qK d n) with | some x=>x.2.2 | none=>0
theorem aq9 (l:List UseT) (d:List UInt8) (n:Int) (hl:l.length<=4000000000):F14 0 (l.map aax) d n=some (cntL l d n):=by
 have hq:∀ u:UseT,(bif ((aax u).fld 0).asStr==d then ((aax u).fld 1).asInt==n else false)=qK d n u:=fun u=>by
  show (bif u.1==d then u.2.1==n else false)=_
  unfold qK
  cases u.1==d<;>rfl
 have h1:=adx (step:=S14_3step 0) (fun i=>(l.map aax,d,n,((i:Nat):Int))) l (qK d n) (fun u=>.inl u.2.2) (.inr ()) (fun i hi=>by
  have hd:decide (i<(l.map aax).length)=true:=decide_eq_true (by rw [List.length_map];exact hi)
  have hd2:decide ((i:Int)<((l.map aax).length:Int))=true:=decide_eq_true (by rw [List.length_map];omega)
  simp only [S14_3step,S14_3,hd2,cond_true,aaa,hd,Int.toNat_natCast,a03 hi,apk,a2h (i:=i) (by omega)]
  rw [hq]
  cases qK d n l[i]<;>rfl) (by
  have hd2:decide ((l.length:Int)<((l.map aax).length:Int))=false:=decide_eq_false (by rw [List.length_map];omega)
  simp only [S14_3step,S14_3,hd2,cond_false]) l.length 0 (by omega)
 rw [List.drop_zero] at h1
 have h2:aag 0 (S14_3step 0) (l.map aax,d,n,(0:Int))=_:=h1
 unfold F14
 rw [h2]
 unfold cntL
 cases l.find? (qK d n)<;>rfl
theorem a0u {d:List UInt8}{n:Int}{x y:UseT} (h:qK d n x=true):qK d n y=eqK x y:=by
 unfold qK at*
 rw [Bool.and_eq_true] at h
 unfold eqK
 rw [<-eq_of_beq h.1,<-eq_of_beq h.2,Bool.eq_iff_iff]
 simp only [Bool.and_eq_true,beq_iff_eq]
 exact ⟨fun h=>⟨h.1.symm,h.2.symm⟩,fun h=>⟨h.1.symm,h.2.symm⟩⟩
theorem a0t {d:List UInt8}{n:Int}{x y:UseT} (h:eqK x y=true):qK d n x=qK d n y:=by
 rw [eqK_iff] at h
 unfold qK
 rw [h.1,h.2]
theorem atb {d:List UInt8}{n:Int} (u:UseT):∀ l:List UseT,cntL (addU l u) d n=bif qK d n u then w64 (cntL l d n+u.2.2) else cntL l d n
 | []=>by
  unfold addU cntL
  have:qK d n (u.1,u.2.1,w64 (0+u.2.2))=qK d n u:=rfl
  rw [List.find?_cons,this]
  cases qK d n u<;>rfl
 | x::r=>by
  have ih:=atb (d:=d) (n:=n) u r
  unfold addU
  cases e:eqK x u with
  | true=>
   have hk:qK d n (x.1,x.2.1,w64 (x.2.2+u.2.2))=qK d n x:=rfl
   have hx:=a0t (d:=d) (n:=n) e
   rw [cond_true]
   unfold cntL
   rw [List.find?_cons,List.find?_cons,hk,hx]
   cases qK d n u<;>rfl
  | false=>
   rw [cond_false]
   unfold cntL at ih ⊢
   rw [List.find?_cons,List.find?_cons]
   cases hx:qK d n x with
   | false=>exact ih
   | true=>
    have:qK d n u=false:=by rw [a0u hx,e]
    rw [this];rfl
theorem akl {d:List UInt8}{n:Int}:∀ (L l:List UseT) (m:Nat),cntL l d n=(m:Int)->m+L.length<=4000000000->(∀ u,u∈L->u.2.2=1)->cntL (L.foldl addU l) d n=((m+L.countP (qK d n):Nat):Int)
 | [],l,m,h,_,_=>h
 | u::L,l,m,h,hm,h1=>by
  rw [List.length_cons] at hm
  rw [List.foldl_cons,List.countP_cons]
  have ha:=atb (d:=d) (n:=n) u l
  rw [h,h1 u (by simp)] at ha
  cases hq:qK d n u with
  | true=>
   rw [hq,cond_true] at ha
   have hw:w64 ((m:Int)+1)=((m+1:Nat):Int):=wsum (m:=m) (c:=1) (by omega)
   rw [hw] at ha
   rw [akl L _ (m+1) ha (by omega) fun v hv=>h1 v (List.mem_cons_of_mem _ hv),if_pos rfl]
   congr 1
   omega
  | false=>
   rw [hq,cond_false] at ha
   rw [akl L _ m ha (by omega) fun v hv=>h1 v (List.mem_cons_of_mem _ hv)]
   rfl
theorem aq6 {l:List UseT}{d:List UInt8}{n:Int} (h:l.Pairwise (fun a b=>eqK a b=false)) {x:UseT} (hx:x∈l) (hq:qK d n x=true):cntL l d n=x.2.2:=by
 induction l with
 | nil=>cases hx
 | cons y r ih=>
  rw [List.pairwise_cons] at h
  unfold cntL at ih ⊢
  rw [List.find?_cons]
  rcases List.mem_cons.1 hx with rfl | hx
  ·rw [hq]
  ·have:=h.1 x hx
   have hy:qK d n y=false:=by rw [a0u hq,aj0];exact this
   rw [hy]
   exact ih h.2 hx
theorem aq5 {l:List UseT}{d:List UInt8}{n:Int} (h:∀ x,x∈l->qK d n x=false):cntL l d n=0:=by
 unfold cntL
 have:l.find? (qK d n)=none:=by
  rw [List.find?_eq_none]
  intro x hx
  rw [h x hx];simp
 rw [this]
theorem a2c {l:List UseT} (h:l.Pairwise (fun a b=>ltU a b=true)):l.Pairwise (fun a b=>eqK a b=false):=h.imp fun h=>azx h
theorem aym {l:List UseT} (h:okU l=true) (d:List UInt8) (n:Int):cntL (srtU l) d n=cntL l d n:=by
 by_cases k:∃ x,x∈l/\qK d n x=true
 ·obtain ⟨x,hx,hq⟩:=k
  rw [aq6 (okU_pw.1 h) hx hq,aq6 (a2c (agb h)) (srtU_mem.2 hx) hq]
 ·have k':∀ x,x∈l->qK d n x=false:=fun x hx=>by
   cases q:qK d n x with
   | false=>rfl
   | true=>exact absurd ⟨x,hx,q⟩ k
  rw [aq5 k',aq5 fun x hx=>k' x (srtU_mem.1 hx)]
theorem ax1 {u:UseT}:∀ {K:List (List UInt8×Int)},K.Nodup->(K.map fun κ=>if qK κ.1 κ.2 u=true then 1 else 0).sum=if (u.1,u.2.1)∈K then 1 else 0
 | [],_=>rfl
 | κ::K,h=>by
  rw [List.nodup_cons] at h
  rw [List.map_cons,List.sum_cons,ax1 h.2]
  by_cases e:(u.1,u.2.1)=κ
  ·subst e
   have hq:qK u.1 u.2.1 u=true:=by simp [qK]
   rw [if_pos hq,if_neg h.1,if_pos (by simp)]
  ·have hq:¬qK κ.1 κ.2 u=true:=fun q=>by
    unfold qK at q
    rw [Bool.and_eq_true] at q
    exact e (Prod.ext (eq_of_beq q.1) (eq_of_beq q.2))
   rw [if_neg hq,Nat.zero_add]
   by_cases m:(u.1,u.2.1)∈K
   ·rw [if_pos m,if_pos (List.mem_cons_of_mem _ m)]
   ·rw [if_neg m,if_neg (fun h=>by rcases List.mem_cons.1 h with h | h;exact e h;exact m h)]
theorem aon {K:List (List UInt8×Int)} (hK:K.Nodup):∀ {U:List UseT},(∀ u,u∈U->(u.1,u.2.1)∈K)->(K.map fun κ=>U.countP (qK κ.1 κ.2)).sum=U.length
 | [],_=>by
  have h0:∀ K:List (List UInt8×Int),(K.map fun κ=>([]:List UseT).countP (qK κ.1 κ.2)).sum=0:=by
   intro K
   induction K with
   | nil=>rfl
   | cons κ K ih=>rw [List.map_cons,List.sum_cons,ih];rfl
  exact h0 K
 | u::U,h=>by
  have h1:=aon hK fun v hv=>h v (List.mem_cons_of_mem _ hv)
  have h2:=ax1 (u:=u) hK
  rw [if_pos (h u (by simp))] at h2
  have h3:∀ K:List (List UInt8×Int),(K.map fun κ=>(u::U).countP (qK κ.1 κ.2)).sum=(K.map fun κ=>U.countP (qK κ.1 κ.2)).sum+(K.map fun κ=>if qK κ.1 κ.2 u=true then 1 else 0).sum:=by
   intro K
   induction K with
   | nil=>rfl
   | cons κ K ih=>
    simp only [List.map_cons,List.sum_cons]
    rw [ih,List.countP_cons]
    omega
  rw [h3,h1,h2,List.length_cons]
end Go.Ab
namespace Go.Ab
open Go
set_option maxRecDepth 100000
structure CntOk (a t v:PV) (U V R:List UseT):Prop where
 fil:U=V.filter (ag0 a)
 val:∀ d n,(-1<=n/\n<=2147483647)->F13 0 a t v d n=some ((V.countP (qK d n):Nat):Int)
 cnt:∀ d n,cntL R d n=((U.countP (qK d n):Nat):Int)
 lenR:R.length<=4000000000
theorem ay7 {l:List PV} (hl:l.length<=1048576):F12 0 l=some (adb l):=by
 show (F22 0 l depS).bind _=_
 rw [ald hl];rfl
theorem ata {a t v:PV}{U V R:List UseT} (h:CntOk a t v U V R) {l:List PV} (hl:l.length<=1048576) {d:List UInt8}{n:Int} (hn:-1<=n/\n<=2147483647) (hf:afa a d n=adb l) {α:Type}{bad:Option α}{K:Int->Option α}:
 ((F12 0 l).bind fun y=>bif y then (F13 0 a t v d n).bind fun y1=>(F14 0 (R.map aax) d n).bind fun y2=>bif (y2 != y1) then bad else K y1 else (F14 0 (R.map aax) d n).bind fun y3=>bif (y3 != (0:Int)) then bad else K (0:Int))=K ((U.countP (qK d n):Nat):Int):=by
 have hc:U.countP (qK d n)=bif adb l then V.countP (qK d n) else 0:=by rw [h.fil,aml,hf]
 rw [ay7 hl,aq9 R d n h.lenR,h.cnt,h.val d n hn]
 simp only [Option.bind_some]
 cases hb:adb l with
 | true=>
  rw [hb,cond_true] at hc
  rw [hc,cond_true,show (((V.countP (qK d n):Nat):Int) != ((V.countP (qK d n):Nat):Int))=false by simp]
  rfl
 | false=>
  rw [hb,cond_false] at hc
  rw [hc,cond_false]
  rfl
def aky (m:PV):List (List UInt8×Int):=(aak m,-1)::(m.fld 1).asList.map (fun f=>(aak m,kNum f))
def apo (e:PV):List (List UInt8×Int):=(aak e,-1)::(e.fld 2).asList.map (fun f=>(aak e,adk f))
def cU (U:List UseT) (κ:List UInt8×Int):Nat:=U.countP (qK κ.1 κ.2)
theorem axi {a t v:PV} (ha:SOk a) (sa:SchemaV a) {U V R:List UseT} (h:CntOk a t v U V R) {m:PV} (hm:m∈(a.fld 0).asList) (hfr:∀ f,f∈(m.fld 1).asList->kNum f<=2147483647) (i:Int) (c:Nat) (hc:c+((aky m).map (cU U)).sum<=4000000000):
 aag 0 (S4_12step 0) ((),(),R.map aax,(),(c:Int),i,(),(-1:Int),a,v,t,m)=some (.inr ((),(),R.map aax,(),((c+((aky m).map (cU U)).sum:Nat):Int),i,a,v,t,m)):=by
 have hself:dmem aak (aak m) (a.fld 0).asList zMsg=(m,true):=aen sa.uq.m hm rfl
 have h2:(dmem aak (aak m) (a.fld 0).asList zMsg).2=true:=by rw [hself]
 have om:=ha.msg m hm
 have hml:=om.fields
 unfold aky at hc ⊢
 rw [List.map_cons,List.sum_cons,List.map_map] at hc ⊢
 have fm:=a1l h2
 rw [hself] at fm
 have s1:S4_12step 0 ((),(),R.map aax,(),(c:Int),i,(),(-1:Int),a,v,t,m)=some (.inl ((),(),R.map aax,(),((c+cU U (aak m,-1):Nat):Int),i,(),(0:Int),a,v,t,m)):=by
  have hd:decide ((-1:Int)<((m.fld 1).asList.length:Int))=true:=decide_eq_true (by omega)
  have hd2:decide ((-1:Int)≥(0:Int))=false:=rfl
  simp only [S4_12step,S4_12,hd,hd2,cond_true,cond_false]
  refine (ata h om.notes (d:=aak m) (n:=-1) (by omega) fm (bad:=some (Sum.inr (Sum.inl (false,a,v,t,m)))) (K:=fun y=>some (Sum.inl ((),(),R.map aax,(),IntKind.wrap .i64 ((c:Int)+y),i,(),IntKind.wrap .i64 ((-1:Int)+(1:Int)),a,v,t,m)))).trans ?_
  have hle:c+U.countP (qK (aak m) (-1))<=4000000000:=by
   have h1:cU U (aak m,-1)=U.countP (qK (aak m) (-1)):=rfl
   omega
  rw [wsum hle]
  rfl
 rw [af2,aav s1,<-Nat.add_assoc]
 have hl:=aec (step:=S4_12step 0) (fun j (c:Int)=>((),(),R.map aax,(),c,i,(),((j:Nat):Int),a,v,t,m)) (m.fld 1).asList (cU U∘fun f=>(aak m,kNum f)) (fun c=>.inr ((),(),R.map aax,(),c,i,a,v,t,m)) 4000000000 (fun j hj c hc=>by
  have hy:=List.getElem_mem hj
  have hp:=fpos sa hm hy
  have hr:=hfr _ hy
  have hsf:dmem kNum (kNum (m.fld 1).asList[j]) (m.fld 1).asList zFld=((m.fld 1).asList[j],true):=aen (sa.uq.ms m hm) hy rfl
  have ff:=a1j (n:=kNum (m.fld 1).asList[j]) sa h2 (by rw [hself,hsf])
  rw [hself,hsf] at ff
  have hg:decide (((j:Nat):Int)≥(0:Int))=true:=decide_eq_true (by omega)
  simp only [S4_12step,S4_12,decL j _ hj,hg,cond_true,aaa,decide_eq_true hj,Int.toNat_natCast,aaf hj]
  refine (ata h (om.field _ hy).notes (d:=aak m) (n:=kNum (m.fld 1).asList[j]) (by omega) ff (bad:=some (Sum.inr (Sum.inl (false,a,v,t,m)))) (K:=fun y=>some (Sum.inl ((),(),R.map aax,(),IntKind.wrap .i64 ((c:Int)+y),i,(),IntKind.wrap .i64 (((j:Nat):Int)+(1:Int)),a,v,t,m)))).trans ?_
  have hle:c+U.countP (qK (aak m) (kNum (m.fld 1).asList[j]))<=4000000000:=hc
  rw [wsum hle,aa5 j (by omega)]
  rfl) (fun c=>by
  simp only [S4_12step,S4_12,decN,cond_false]) (m.fld 1).asList.length 0 (c+cU U (aak m,-1)) (by omega) (by rw [List.drop_zero];omega)
 rw [List.drop_zero] at hl
 exact hl
theorem auk {a t v:PV} (ha:SOk a) (sa:SchemaV a) {U V R:List UseT} (h:CntOk a t v U V R) {e:PV} (he:e∈(a.fld 1).asList) (i:Int) (c:Nat) (hc:c+((apo e).map (cU U)).sum<=4000000000):
 aag 0 (S4_28step 0) ((),(),R.map aax,(),(c:Int),i,(),(-1:Int),a,v,t,e)=some (.inr ((),(),R.map aax,(),((c+((apo e).map (cU U)).sum:Nat):Int),i,a,v,t,e)):=by
 have hself:dmem aak (aak e) (a.fld 1).asList ab3=(e,true):=aen sa.uq.e he rfl
 have h2:(dmem aak (aak e) (a.fld 1).asList ab3).2=true:=by rw [hself]
 have oe:=ha.enum e he
 have hel:=oe.items
 have hu:=eu sa (aak e)
 rw [hself] at hu
 unfold apo at hc ⊢
 rw [List.map_cons,List.sum_cons,List.map_map] at hc ⊢
 have fm:=a1i ha sa h2
 rw [hself] at fm
 have s1:S4_28step 0 ((),(),R.map aax,(),(c:Int),i,(),(-1:Int),a,v,t,e)=some (.inl ((),(),R.map aax,(),((c+cU U (aak e,-1):Nat):Int),i,(),(0:Int),a,v,t,e)):=by
  have hd:decide ((-1:Int)<((e.fld 2).asList.length:Int))=true:=decide_eq_true (by omega)
  have hd2:decide ((-1:Int)≥(0:Int))=false:=rfl
  simp only [S4_28step,S4_28,hd,hd2,cond_true,cond_false]
  refine (ata h oe.notes (d:=aak e) (n:=-1) (by omega) fm (bad:=some (Sum.inr (Sum.inl (false,a,v,t,e)))) (K:=fun y=>some (Sum.inl ((),(),R.map aax,(),IntKind.wrap .i64 ((c:Int)+y),i,(),IntKind.wrap .i64 ((-1:Int)+(1:Int)),a,v,t,e)))).trans ?_
  have hle:c+U.countP (qK (aak e) (-1))<=4000000000:=by
   have h1:cU U (aak e,-1)=U.countP (qK (aak e) (-1)):=rfl
   omega
  rw [wsum hle]
  rfl
 rw [af2,aav s1,<-Nat.add_assoc]
 have hl:=aec (step:=S4_28step 0) (fun j (c:Int)=>((),(),R.map aax,(),c,i,(),((j:Nat):Int),a,v,t,e)) (e.fld 2).asList (cU U∘fun f=>(aak e,adk f)) (fun c=>.inr ((),(),R.map aax,(),c,i,a,v,t,e)) 4000000000 (fun j hj c hc=>by
  have hy:=List.getElem_mem hj
  have hr:0<=adk (e.fld 2).asList[j]/\adk (e.fld 2).asList[j]<=2147483647:=hu.rng _ hy
  have hsf:dmem adk (adk (e.fld 2).asList[j]) (e.fld 2).asList al9=((e.fld 2).asList[j],true):=aen hu.uq hy rfl
  have ff:=a1k (n:=adk (e.fld 2).asList[j]) ha sa h2 hr.1
  rw [hself,hsf,cond_true] at ff
  have hg:decide (((j:Nat):Int)≥(0:Int))=true:=decide_eq_true (by omega)
  simp only [S4_28step,S4_28,decL j _ hj,hg,cond_true,aaa,decide_eq_true hj,Int.toNat_natCast,aaf hj]
  refine (ata h (oe.item _ hy).notes (d:=aak e) (n:=adk (e.fld 2).asList[j]) (by omega) ff (bad:=some (Sum.inr (Sum.inl (false,a,v,t,e)))) (K:=fun y=>some (Sum.inl ((),(),R.map aax,(),IntKind.wrap .i64 ((c:Int)+y),i,(),IntKind.wrap .i64 (((j:Nat):Int)+(1:Int)),a,v,t,e)))).trans ?_
  have hle:c+U.countP (qK (aak e) (adk (e.fld 2).asList[j]))<=4000000000:=hc
  rw [wsum hle,aa5 j (by omega)]
  rfl) (fun c=>by
  simp only [S4_28step,S4_28,decN,cond_false]) (e.fld 2).asList.length 0 (c+cU U (aak e,-1)) (by omega) (by rw [List.drop_zero];omega)
 rw [List.drop_zero] at hl
 exact hl
theorem aom {α β:Type} (f:α->List β) (g:β->Nat):∀ xs:List α,((xs.flatMap f).map g).sum=(xs.map fun x=>((f x).map g).sum).sum
 | []=>rfl
 | x::r=>by rw [List.flatMap_cons,List.map_append,List.sum_append,aom f g r,List.map_cons,List.sum_cons]
def au0 (a:PV):List (List UInt8×Int):=(a.fld 0).asList.flatMap aky++(a.fld 1).asList.flatMap apo
theorem ai4 {f:PV->List (List UInt8×Int)} (hf1:∀ x κ,κ∈f x->κ.1=aak x):∀ {l:List PV},(l.map aak).Nodup->(∀ x,x∈l->(f x).Nodup)->(l.flatMap f).Nodup
 | [],_,_=>List.nodup_nil
 | x::r,h,hf=>by
  rw [List.map_cons,List.nodup_cons] at h
  rw [List.flatMap_cons,List.nodup_append]
  refine ⟨hf x (by simp),ai4 hf1 h.2 fun y hy=>hf y (List.mem_cons_of_mem _ hy),fun κ hκ κ' hκ' e=>?_⟩
  subst e
  obtain ⟨y,hy,hκ'⟩:=List.mem_flatMap.1 hκ'
  exact h.1 (List.mem_map.2 ⟨y,hy,(hf1 y _ hκ').symm.trans (hf1 x _ hκ)⟩)
theorem amp {m:PV}{κ:List UInt8×Int} (h:κ∈aky m):κ.1=aak m:=by
 unfold aky at h
 rcases List.mem_cons.1 h with rfl | h
 ·rfl
 ·obtain ⟨f,_,rfl⟩:=List.mem_map.1 h;rfl
theorem amo {m:PV}{κ:List UInt8×Int} (h:κ∈apo m):κ.1=aak m:=by
 unfold apo at h
 rcases List.mem_cons.1 h with rfl | h
 ·rfl
 ·obtain ⟨f,_,rfl⟩:=List.mem_map.1 h;rfl
theorem amu {s:List UInt8}:∀ {l:List Int},l.Nodup->(l.map fun n=>(s,n)).Nodup
 | [],_=>List.nodup_nil
 | x::r,h=>by
  rw [List.nodup_cons] at h
  rw [List.map_cons,List.nodup_cons]
  refine ⟨fun hm=>?_,amu h.2⟩
  obtain ⟨y,hy,e⟩:=List.mem_map.1 hm
  have e2:y=x:=(Prod.ext_iff.1 e).2
  rw [e2] at hy
  exact h.1 hy
theorem amx {s:List UInt8}{key:PV->Int}:∀ {l:List PV},(l.map key).Nodup->(∀ f,f∈l->0<=key f)->((s,(-1:Int))::l.map (fun f=>(s,key f))).Nodup:=by
 intro l h hp
 rw [List.nodup_cons]
 refine ⟨fun hm=>?_,?_⟩
 ·obtain ⟨f,hf,e⟩:=List.mem_map.1 hm
  have:=hp f hf
  have e2:key f=-1:=(Prod.ext_iff.1 e).2
  omega
 ·have:l.map (fun f=>(s,key f))=(l.map key).map (fun n=>(s,n)):=by rw [List.map_map];rfl
  rw [this]
  exact amu h
theorem arp {a:PV} (ha:SOk a) (sa:SchemaV a):(au0 a).Nodup:=by
 unfold au0
 rw [List.nodup_append]
 refine ⟨ai4 (fun x κ h=>amp h) sa.uq.m fun m hm=>amx (sa.uq.ms m hm) fun f hf=>by have:=fpos sa hm hf;omega,ai4 (fun x κ h=>amo h) sa.uq.e fun e he=>?_,fun κ hκ κ' hκ' e=>?_⟩
 ·have hu:=eu sa (aak e)
  rw [show dmem aak (aak e) (a.fld 1).asList ab3=(e,true) from aen sa.uq.e he rfl] at hu
  exact amx hu.uq fun f hf=>(hu.rng f hf).1
 ·subst e
  obtain ⟨m,hm,h1⟩:=List.mem_flatMap.1 hκ
  obtain ⟨e,he,h2⟩:=List.mem_flatMap.1 hκ'
  exact azp ha sa m hm e he ((amo h2).symm.trans (amp h1))
theorem awx {a:PV}{u:UseT} (h:ag0 a u=true):(u.1,u.2.1)∈au0 a:=by
 unfold ag0 afa at h
 unfold au0
 rw [List.mem_append]
 cases hm:(dmem aak u.1 (a.fld 0).asList zMsg).2 with
 | true=>
  rw [hm,cond_true] at h
  obtain ⟨p1,p2⟩:=ac3 hm
  refine .inl (List.mem_flatMap.2 ⟨_,p1,?_⟩)
  unfold aky
  rw [p2]
  cases hn:u.2.1==-1 with
  | true=>rw [eq_of_beq hn];simp
  | false=>
   rw [hn,cond_false] at h
   cases hf:(dmem kNum u.2.1 ((dmem aak u.1 (a.fld 0).asList zMsg).1.fld 1).asList zFld).2 with
   | false=>rw [hf] at h;cases h
   | true=>
    obtain ⟨q1,q2⟩:=ac3 hf
    exact List.mem_cons_of_mem _ (List.mem_map.2 ⟨_,q1,by rw [q2]⟩)
 | false=>
  rw [hm,cond_false] at h
  cases he:(dmem aak u.1 (a.fld 1).asList ab3).2 with
  | false=>
   rw [ara he] at h
   cases hn:u.2.1==-1 with
   | true=>rw [hn] at h;cases h
   | false=>rw [hn] at h;cases h
  | true=>
   obtain ⟨p1,p2⟩:=ac3 he
   refine .inr (List.mem_flatMap.2 ⟨_,p1,?_⟩)
   unfold apo
   rw [p2]
   cases hn:u.2.1==-1 with
   | true=>rw [eq_of_beq hn];simp
   | false=>
    rw [hn,cond_false] at h
    cases hf:(dmem adk u.2.1 ((dmem aak u.1 (a.fld 1).asList ab3).1.fld 2).asList al9).2 with
    | false=>rw [hf] at h;cases h
    | true=>
     obtain ⟨q1,q2⟩:=ac3 hf
     exact List.mem_cons_of_mem _ (List.mem_map.2 ⟨_,q1,by rw [q2]⟩)
def sumI (l:List UseT):Int:=(l.map fun x=>x.2.2).sum
theorem aw2 {a t v:PV}{R:List UseT} (hs:R.Pairwise (fun x y=>ltU x y=true)) (hp:∀ x,x∈R->1<=x.2.2) (hb:sumI R<=4000000000) (hl:R.length<=4000000000):∀ k i,i+k=R.length->0<=sumI (R.drop i)/\(sumI (R.drop i)<=4000000000->abv (S4_40step 0) (R.map aax,sumI (R.drop i),((i:Nat):Int),a,v,t)=some (.inr ((0:Int),a,v,t))):=by
 intro k
 induction k with
 | zero=>
  intro i hi
  obtain rfl:i=R.length:=by omega
  rw [List.drop_length]
  refine ⟨Int.le_refl _,fun _=>aai ?_⟩
  have hd:decide ((R.length:Int)<((R.map aax).length:Int))=false:=decide_eq_false (by rw [List.length_map];omega)
  simp only [S4_40step,S4_40,hd,cond_false]
  rfl
 | succ k ih=>
  intro i hi
  have hlt:i<R.length:=by omega
  obtain ⟨n1,n2⟩:=ih (i+1) (by omega)
  have hc:=hp _ (List.getElem_mem hlt)
  have hsum:sumI (R.drop i)=(R[i]).2.2+sumI (R.drop (i+1)):=by rw [List.drop_eq_getElem_cons hlt];unfold sumI;rw [List.map_cons,List.sum_cons]
  refine ⟨by omega,fun hle=>?_⟩
  have hd:decide ((i:Int)<((R.map aax).length:Int))=true:=decide_eq_true (by rw [List.length_map];omega)
  have hr:decide (i<(R.map aax).length)=true:=decide_eq_true (by rw [List.length_map];exact hlt)
  have hw:IntKind.wrap .i64 (sumI (R.drop i)-(R[i]).2.2)=sumI (R.drop (i+1)):=by rw [am7 (by omega) (by omega)];omega
  have e1:decide (((aax R[i]).fld 2).asInt<(1:Int))=false:=decide_eq_false (by show ¬(R[i]).2.2<1;omega)
  rw [aav (x1:=(R.map aax,sumI (R.drop (i+1)),((i+1:Nat):Int),a,v,t))]
  ·exact n2 (by omega)
  ·simp only [S4_40step,S4_40,hd,cond_true,aaa,hr,Int.toNat_natCast,a03 hlt,e1,cond_false,Bool.not_false,a2h (i:=i) (by omega)]
   have hcc:((aax R[i]).fld 2).asInt=(R[i]).2.2:=rfl
   rw [hcc,hw]
   cases i with
   | zero=>
    have e2:decide ((((0:Nat):Nat):Int)>(0:Int))=false:=rfl
    rw [e2]
    have hi2:∀ b,imp false b=true:=fun b=>arl _ _ fun h=>by cases h
    simp only [cond_false,Bool.cond_self,hi2,cond_true]
   | succ j=>
    have e2:decide (((j+1:Nat):Int)>(0:Int))=true:=decide_eq_true (by omega)
    have e3:IntKind.wrap .i64 (((j+1:Nat):Int)-(1:Int))=((j:Nat):Int):=by rw [am7 (by omega) (by omega)];omega
    have hj:j<R.length:=by omega
    have hrj:decide (j<(R.map aax).length)=true:=decide_eq_true (by rw [List.length_map];exact hj)
    have lt:ltU R[j] R[j+1]=true:=List.pairwise_iff_getElem.1 hs j (j+1) hj hlt (by omega)
    have e4:(Op.bytesLess (R[j]).1 (R[j+1]).1||(R[j]).1==(R[j+1]).1)=true:=by
     unfold ltU at lt
     cases q:(R[j]).1==(R[j+1]).1 with
     | true=>rw [Bool.or_true]
     | false=>rw [q,cond_false] at lt;rw [lt];rfl
    have f0:((aax R[j]).fld 0).asStr=(R[j]).1:=rfl
    have f1:((aax R[j+1]).fld 0).asStr=(R[j+1]).1:=rfl
    have g0:((aax R[j]).fld 1).asInt=(R[j]).2.1:=rfl
    have g1:((aax R[j+1]).fld 1).asInt=(R[j+1]).2.1:=rfl
    rw [e2,e3]
    simp only [cond_true,aaa,hrj,Int.toNat_natCast,a03 hj,f0,f1,g0,g1,apk,e4,Bool.not_true,Bool.not_false,cond_false]
    cases q:(R[j]).1==(R[j+1]).1 with
    | false=>rfl
    | true=>
     unfold ltU at lt
     rw [q,cond_true] at lt
     have:=of_decide_eq_true lt
     have e5:decide ((R[j]).2.1≥(R[j+1]).2.1)=false:=decide_eq_false (by omega)
     rw [e5]
     rfl
end Go.Ab
namespace Go.Ab
open Go
set_option maxRecDepth 100000
theorem ftop {a:PV} (sa:SchemaV a) {m f:PV} (hm:m∈(a.fld 0).asList) (hf:f∈(m.fld 1).asList):kNum f<=65535:=by
 obtain ⟨i,hi,rfl⟩:=List.mem_iff_getElem.1 hm
 obtain ⟨j,hj,rfl⟩:=List.mem_iff_getElem.1 hf
 have:=(sa.msg i hi)
 rw [aaf hi] at this
 have:=(this j hj).top
 rw [aaf hj] at this
 exact this
theorem aql (f:UseT->Nat):∀ {l:List UseT},(∀ x,x∈l->x.2.2=((f x:Nat):Int))->sumI l=(((l.map f).sum:Nat):Int)
 | [],_=>rfl
 | x::r,h=>by
  have ih:=aql f (l:=r) fun y hy=>h y (List.mem_cons_of_mem _ hy)
  have hx:=h x (by simp)
  unfold sumI at ih ⊢
  rw [List.map_cons,List.sum_cons,ih,hx,List.map_cons,List.sum_cons,Int.natCast_add]
theorem amt:∀ {l:List UseT},l.Pairwise (fun a b=>eqK a b=false)->(l.map fun x=>(x.1,x.2.1)).Nodup
 | [],_=>List.nodup_nil
 | x::r,h=>by
  rw [List.pairwise_cons] at h
  rw [List.map_cons,List.nodup_cons]
  refine ⟨fun hm=>?_,amt h.2⟩
  obtain ⟨y,hy,e⟩:=List.mem_map.1 hm
  have e1:=Prod.ext_iff.1 e
  have:=h.1 y hy
  rw [eqK_iff.2 ⟨e1.1.symm,e1.2.symm⟩] at this
  cases this
theorem ath {x:UseT}:∀ {L l:List UseT},x∈L.foldl addU l->(∃ u,u∈L/\eqK x u=true)∨x∈l
 | [],_,h=>.inr h
 | u::L,l,h=>by
  rcases ath (L:=L) h with ⟨w,hw,e⟩ | h
  ·exact .inl ⟨w,List.mem_cons_of_mem _ hw,e⟩
  ·rcases ane h with h | h
   ·exact .inl ⟨u,by simp,h⟩
   ·exact .inr h
theorem ar4 (u:UseT):qK u.1 u.2.1 u=true:=by simp [qK]
theorem auj {a t v:PV} (ha:SOk a) (sa:SchemaV a) {U V R:List UseT} (hK:CntOk a t v U V R) (hlU:U.length<=3000000) (hpw:R.Pairwise (fun x y=>ltU x y=true)) (hkey:∀ x,x∈R->∃ u,u∈U/\eqK x u=true):
 aag 0 (S4_8step 0) ((),(),R.map aax,(),(0:Int),(0:Int),a,v,t)=some (.inr ((),(),R.map aax,(),(((((a.fld 0).asList.map fun m=>((aky m).map (cU U)).sum).sum:Nat)):Int),a,v,t))/\
 aag 0 (S4_24step 0) ((),(),R.map aax,(),(((((a.fld 0).asList.map fun m=>((aky m).map (cU U)).sum).sum:Nat)):Int),(0:Int),a,v,t)=some (.inr (R.map aax,((U.length:Nat):Int),a,v,t))/\
 aag 0 (S4_40step 0) (R.map aax,((U.length:Nat):Int),(0:Int),a,v,t)=some (.inr ((0:Int),a,v,t)):=by
 have l0:=ha.len.m
 have l1:=ha.len.e
 have hsum:((au0 a).map (cU U)).sum=U.length:=aon (arp ha sa) fun u hu=>by
  rw [hK.fil] at hu
  exact awx (List.mem_filter.1 hu).2
 unfold au0 at hsum
 rw [List.map_append,List.sum_append,aom,aom] at hsum
 refine ⟨?_,?_,?_⟩
 ·have h:=aec (step:=S4_8step 0) (fun i (c:Int)=>((),(),R.map aax,(),c,((i:Nat):Int),a,v,t)) (a.fld 0).asList (fun m=>((aky m).map (cU U)).sum) (fun c=>.inr ((),(),R.map aax,(),c,a,v,t)) 4000000000 (fun i hi c hc=>by
   have hm:=List.getElem_mem hi
   have hm1:=axi ha sa hK hm (fun f hf=>by have:=ftop sa hm hf;omega) ((i:Nat):Int) c hc
   simp only [S4_8step,S4_8,decL i _ hi,cond_true,aaa,decide_eq_true hi,Int.toNat_natCast,aaf hi,hm1,Option.bind_some,ac5,aa5 i (by omega)]) (fun c=>by
   simp only [S4_8step,S4_8,decN,cond_false]) (a.fld 0).asList.length 0 0 (by omega) (by rw [List.drop_zero];omega)
  rw [List.drop_zero,Nat.zero_add] at h
  exact h
 ·have h:=aec (step:=S4_24step 0) (fun i (c:Int)=>((),(),R.map aax,(),c,((i:Nat):Int),a,v,t)) (a.fld 1).asList (fun m=>((apo m).map (cU U)).sum) (fun c=>.inr (R.map aax,c,a,v,t)) 4000000000 (fun i hi c hc=>by
   have hm:=List.getElem_mem hi
   have hm1:=auk ha sa hK hm ((i:Nat):Int) c hc
   simp only [S4_24step,S4_24,decL i _ hi,cond_true,aaa,decide_eq_true hi,Int.toNat_natCast,aaf hi,hm1,Option.bind_some,ac5,aa5 i (by omega)]) (fun c=>by
   simp only [S4_24step,S4_24,decN,cond_false]) (a.fld 1).asList.length 0 (((a.fld 0).asList.map fun m=>((aky m).map (cU U)).sum).sum) (by omega) (by rw [List.drop_zero];omega)
  rw [List.drop_zero,hsum] at h
  exact h
 ·have hne:=a2c hpw
  have hval:∀ x,x∈R->x.2.2=((U.countP (qK x.1 x.2.1):Nat):Int):=fun x hx=>by
   rw [<-hK.cnt,aq6 hne hx (ar4 x)]
  have hcov:∀ u,u∈U->(u.1,u.2.1)∈R.map fun x=>(x.1,x.2.1):=fun u hu=>by
   by_cases k:∃ x,x∈R/\qK u.1 u.2.1 x=true
   ·obtain ⟨x,hx,hq⟩:=k
    unfold qK at hq
    rw [Bool.and_eq_true] at hq
    exact List.mem_map.2 ⟨x,hx,by rw [eq_of_beq hq.1,eq_of_beq hq.2]⟩
   ·have h1:cntL R u.1 u.2.1=0:=aq5 fun x hx=>by
     cases q:qK u.1 u.2.1 x with
     | false=>rfl
     | true=>exact absurd ⟨x,hx,q⟩ k
    rw [hK.cnt] at h1
    have h2:0<U.countP (qK u.1 u.2.1):=List.countP_pos_iff.2 ⟨u,hu,ar4 u⟩
    omega
  have hs:sumI R=((U.length:Nat):Int):=by
   rw [aql (fun x=>U.countP (qK x.1 x.2.1)) hval,<-aon (amt hne) hcov,List.map_map]
   rfl
  have h:=(aw2 (a:=a) (t:=t) (v:=v) hpw (fun x hx=>by
   obtain ⟨u,hu,e⟩:=hkey x hx
   have h2:0<U.countP (qK x.1 x.2.1):=List.countP_pos_iff.2 ⟨u,hu,by rw [a0u (ar4 x)];exact e⟩
   rw [hval x hx]
   omega) (by rw [hs];omega) hK.lenR R.length 0 (by omega)).2
  rw [List.drop_zero,hs] at h
  exact h (by omega)
theorem ap2 {a v:PV}{s:List UInt8} (ha:SOk a) (ba:aac a<=1048576) (hv:VOk v) (hb:aac v<=1048576):F4 0 a s v=some true:=by
 obtain ⟨q,q1,q2⟩:=a0c ha ba
 obtain ⟨c,hc⟩:=ao4 hb
 obtain ⟨e,he,hfit⟩:=av8 ha hv hb s
 unfold F4
 simp only [q1,Option.bind_some]
 cases q with
 | false=>rfl
 | true=>
  have sa:=q2 rfl
  simp only [Bool.not_true,Bool.not_false,cond_true,hc,Option.bind_some,cond_false]
  cases decide (c>500) with
  | true=>rfl
  | false=>
   simp only [Bool.not_false,cond_true,he,Option.bind_some,cond_false]
   cases hne:e != 0 with
   | true=>rfl
   | false=>
    have h0:e=0:=by simpa using hne
    obtain ⟨f1,f2⟩:=hfit h0
    have hl:=alq sa hv s
    have hone:∀ u,u∈acb a s v->u.2.2=1:=fun u hu=>aou (aot _) hu
    obtain ⟨p1,p2⟩:=alm (L:=acb a s v) (l:=[]) rfl fun u hu=>by rw [hone u hu];rfl
    have p2:srtU ((acb a s v).foldl addU [])=(acb a s v).foldl ahw []:=p2
    have hpw:=agb p1
    have hcnt:∀ d n,cntL ((acb a s v).foldl ahw []) d n=(((acb a s v).countP (qK d n):Nat):Int):=fun d n=>by
     rw [<-p2,aym p1]
     have:=akl (d:=d) (n:=n) (acb a s v) [] 0 rfl (by omega) hone
     rw [Nat.zero_add] at this
     exact this
    have hlR:=anu aqr (acb a s v) []
    simp only [List.length_nil,Nat.zero_add] at hlR
    have hK:CntOk a (PV.agg [(PV.int (10:Int)),(PV.str s)]) v (acb a s v) (visM (visF a (aac v)) s (dmem aak s (a.fld 0).asList zMsg).1 v) ((acb a s v).foldl ahw []):=
     ⟨filM sa (filF ha sa (aac v)) hv f1 f2,fun d n hn=>agq (4*aac v+6) fun N hN=>valM ha sa (valF ha sa hn (aac v)) (PV.agg [(PV.int (10:Int)),(PV.str s)]) v (by omega) hb hv f1 N hN,hcnt,by omega⟩
    rw [p2] at hpw
    have hkey:∀ x,x∈(acb a s v).foldl ahw []->∃ u,u∈acb a s v/\eqK x u=true:=fun x hx=>by
     rw [<-p2,srtU_mem] at hx
     rcases ath hx with h | h
     ·exact h
     ·cases h
    obtain ⟨r1,r2,r3⟩:=auj ha sa hK (by omega) hpw hkey
    simp only [cond_false,ax8 ha sa hv hb s,Option.bind_some,r1,ac5,r2,r3]
    rfl
end Go.Ab
