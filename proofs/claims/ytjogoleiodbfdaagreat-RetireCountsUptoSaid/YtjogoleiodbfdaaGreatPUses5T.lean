/- What a value uses, as the specification counts it; the law RetireUses. -/
import Derived.Test.YtjogoleiodbfdaaGreatPUses3T
set_option linter.unusedVariables false
set_option linter.unusedSimpArgs false
set_option linter.unnecessarySimpa false
namespace Go.Ab
open Go
set_option maxRecDepth 100000
theorem akr {key:PV->Int}{g:PV->List UseT}{z:PV}{k:Int}:∀ {l:List PV},(l.map key).Nodup->l.flatMap (fun y=>bif key y==k then g y else [])=bif (dmem key k l z).2 then g (dmem key k l z).1 else []
 | [],_=>rfl
 | y::r,h=>by
  rw [List.map_cons,List.nodup_cons] at h
  rw [List.flatMap_cons]
  unfold dmem fst
  rw [List.find?_cons]
  cases e:key y==k with
  | true=>
   have hr:r.flatMap (fun y=>bif key y==k then g y else [])=[]:=by
    rw [List.flatMap_eq_nil_iff]
    intro x hx
    cases q:key x==k with
    | false=>rfl
    | true=>
     have e1:=eq_of_beq e;have e2:=eq_of_beq q
     exact absurd (List.mem_map.2 ⟨x,hx,e2.trans e1.symm⟩) h.1
   rw [hr,List.append_nil]
  | false=>
   have:=akr (g:=g) (z:=z) (k:=k) h.2
   unfold dmem fst at this
   rw [cond_false,List.nil_append,this]
structure EU (e:PV):Prop where
 uq:((e.fld 2).asList.map adk).Nodup
 rng:∀ f,f∈(e.fld 2).asList->0<=(f.fld 1).asInt/\(f.fld 1).asInt<=2147483647
theorem eu {a:PV} (h:SchemaV a) (n:List UInt8):EU (dmem aak n (a.fld 1).asList ab3).1:=
 ahf (P:=EU) (fun x hx=>⟨h.uq.es x hx,fun f hf=>by
  obtain ⟨i,hi,rfl⟩:=List.mem_iff_getElem.1 hx
  have hE:=h.enum i hi
  rw [aaf hi] at hE
  obtain ⟨j,hj,rfl⟩:=List.mem_iff_getElem.1 hf
  have:=hE j hj
  have p:=this.pos;have q:=this.top
  rw [aaf hj] at p q
  exact ⟨p,q⟩⟩) ⟨List.nodup_nil,fun f hf=>by cases hf⟩
theorem mu {a:PV} (h:SchemaV a) (n:List UInt8):(((dmem aak n (a.fld 0).asList zMsg).1.fld 1).asList.map kNum).Nodup:=
 ahf (P:=fun m=>((m.fld 1).asList.map kNum).Nodup) (fun x hx=>h.uq.ms x hx) List.nodup_nil
theorem a2g {n:Int} (h:0<=n/\n<=2147483647):IntKind.wrap .u64 n=n:=by
 rw [IntKind.wrap_u64]
 omega
end Go.Ab
namespace Go.Ab
open Go
set_option maxRecDepth 100000
theorem anj (l:List PV) (s:List UInt8) (n:Int):(depU l s n).length<=1:=by
 unfold depU
 cases adb l<;>simp
theorem ank {l:List PV}{s:List UInt8}{n:Int}{u:UseT} (h:u∈depU l s n):u.2.2=1:=by
 unfold depU at h
 cases hf:adb l with
 | false=>rw [hf] at h;cases h
 | true=>rw [hf] at h;simp at h;subst h;rfl
theorem acz (v:PV) (i:Nat):aar (v.fld i).asList<aac v:=by
 refine Nat.lt_of_lt_of_le ?_ (ahv v i)
 cases v.fld i with
 | slice xs=>show aar xs<aar xs+1;omega
 | _=>exact aa7 _
theorem ada {c:PV->List UseT}:∀ {xs:List PV},(∀ x,x∈xs->(c x).length<=2*aac x)->(xs.flatMap c).length<=2*aar xs
 | [],_=>Nat.zero_le _
 | x::r,h=>by
  have h1:=h x (by simp)
  have h2:=ada (xs:=r) fun y hy=>h y (List.mem_cons_of_mem _ hy)
  rw [List.flatMap_cons,List.length_append]
  simp only [aar]
  omega
theorem aqo {key:PV->Int}{c:PV->List UseT}{k:Int} (hc:∀ x,(c x).length<=1):∀ {xs:List PV},(xs.map key).Nodup->(∀ x,x∈xs->c x≠[]->key x=k)->(xs.flatMap c).length<=1
 | [],_,_=>Nat.zero_le _
 | x::r,h,hk=>by
  rw [List.map_cons,List.nodup_cons] at h
  have ih:=aqo hc h.2 fun y hy=>hk y (List.mem_cons_of_mem _ hy)
  rw [List.flatMap_cons]
  by_cases e:c x=[]
  ·rw [e,List.nil_append];exact ih
  ·have hx:=hk x (by simp) e
   have hr:r.flatMap c=[]:=by
    rw [List.flatMap_eq_nil_iff]
    intro y hy
    by_cases q:c y=[]
    ·exact q
    ·exact absurd (List.mem_map.2 ⟨y,hy,(hk y (List.mem_cons_of_mem _ hy) q).trans hx.symm⟩) h.1
   rw [hr,List.append_nil]
   exact hc x
theorem azm {e:PV} (he:EU e) (s:List UInt8) (v:PV):(useN s e v).length<=2:=by
 unfold useN
 rw [List.length_append]
 have h1:=anj (e.fld 4).asList s (-1)
 have h2:((e.fld 2).asList.flatMap (useI s v)).length<=1:=by
  refine aqo (key:=adk) (k:=(v.fld 1).asInt) (fun x=>?_) he.uq (fun x hx hne=>?_)
  ·unfold useI
   cases (bif decide ((x.fld 1).asInt≥(0:Int)) then IntKind.wrap .u64 (x.fld 1).asInt==(v.fld 1).asInt else false) with
   | true=>exact anj _ _ _
   | false=>exact Nat.zero_le _
  ·have hr:=he.rng x hx
   unfold useI at hne
   rw [decide_eq_true hr.1,cond_true,a2g hr] at hne
   cases q:((x.fld 1).asInt==(v.fld 1).asInt) with
   | false=>rw [q] at hne;exact absurd rfl hne
   | true=>exact eq_of_beq q
 omega
theorem at6 {U:PV->PV->List UseT} (hU:∀ f x,VOk x->(U f x).length<=2*aac x) (s:List UInt8) (m:PV) {v:PV} (hv:VOk v):(useM U s m v).length<=2*aac v:=by
 unfold useM
 rw [List.length_append]
 have h1:=anj (m.fld 4).asList s (-1)
 have h2:=ada (c:=useS U s m) (xs:=(v.fld 5).asList) fun x hx=>by
  unfold useS
  have h3:=hU (dmem kNum (x.fld 0).asInt (m.fld 1).asList zFld).1 (x.fld 1) (hv.slot hx)
  have h4:=anj ((dmem kNum (x.fld 0).asInt (m.fld 1).asList zFld).1.fld 8).asList s ((dmem kNum (x.fld 0).asInt (m.fld 1).asList zFld).1.fld 0).asInt
  have h5:aac (x.fld 1)+2<=aac x:=by cases hv with | mk _ _ _ _ _ _ _ h=>exact h x hx
  cases (dmem kNum (x.fld 0).asInt (m.fld 1).asList zFld).2 with
  | false=>exact Nat.zero_le _
  | true=>rw [cond_true,List.length_append];omega
 have h6:=acz v 5
 omega
theorem aor {a:PV} (sa:SchemaV a) {U:PV->PV->List UseT} (hU:∀ f x,VOk x->(U f x).length<=2*aac x) (t:PV) {v:PV} (hv:VOk v):(useE a U t v).length<=2*aac v:=by
 unfold useE
 have hp:=aa7 v
 cases (t.fld 0).asInt==10 with
 | true=>exact at6 hU _ _ hv
 | false=>
  cases (t.fld 0).asInt==9 with
  | true=>have:=azm (eu sa (t.fld 1).asStr) (t.fld 1).asStr v;rw [cond_false,cond_true];omega
  | false=>exact Nat.zero_le _
theorem at5 {a:PV} (sa:SchemaV a):∀ k f v,VOk v->(useF a k f v).length<=2*aac v
 | 0,_,_,_=>Nat.zero_le _
 | k+1,f,v,hv=>by
  have ih:=at5 sa k
  show (useD a (useF a k) f v).length<=_
  unfold useD
  cases (f.fld 2).asInt==4 with
  | true=>
   have h1:=ada (c:=useE a (useF a k) (f.fld 4)) (xs:=(v.fld 3).asList) fun x hx=>aor sa ih _ (hv.elem hx)
   have h2:=acz v 3
   rw [cond_true];omega
  | false=>
   cases (f.fld 2).asInt==5 with
   | true=>
    have h1:=ada (c:=fun x:PV=>useE a (useF a k) (f.fld 4) (x.fld 1)) (xs:=(v.fld 4).asList) fun x hx=>by
     have h3:=aor sa ih (f.fld 4) (hv.val hx)
     have h4:=ahv x 1
     show (useE a (useF a k) (f.fld 4) (x.fld 1)).length<=_
     omega
    have h2:=acz v 4
    rw [cond_false,cond_true];omega
   | false=>exact aor sa ih _ hv
theorem aou {U:PV->PV->List UseT} (hU:∀ f x u,u∈U f x->u.2.2=1) {s:List UInt8}{m v:PV}{u:UseT} (h:u∈useM U s m v):u.2.2=1:=by
 unfold useM at h
 rcases List.mem_append.1 h with h | h
 ·exact ank h
 ·obtain ⟨x,_,h⟩:=List.mem_flatMap.1 h
  unfold useS at h
  cases hq:(dmem kNum (x.fld 0).asInt (m.fld 1).asList zFld).2 with
  | false=>rw [hq] at h;cases h
  | true=>
   rw [hq,cond_true] at h
   rcases List.mem_append.1 h with h | h
   ·exact ank h
   ·exact hU _ _ _ h
theorem aos {a:PV}{U:PV->PV->List UseT} (hU:∀ f x u,u∈U f x->u.2.2=1) {t v:PV}{u:UseT} (h:u∈useE a U t v):u.2.2=1:=by
 unfold useE at h
 cases h10:(t.fld 0).asInt==10 with
 | true=>rw [h10,cond_true] at h;exact aou hU h
 | false=>
  rw [h10,cond_false] at h
  cases h9:(t.fld 0).asInt==9 with
  | false=>rw [h9] at h;cases h
  | true=>
   rw [h9,cond_true] at h
   unfold useN at h
   rcases List.mem_append.1 h with h | h
   ·exact ank h
   ·obtain ⟨x,_,h⟩:=List.mem_flatMap.1 h
    unfold useI at h
    cases hq:(bif decide ((x.fld 1).asInt≥(0:Int)) then IntKind.wrap .u64 (x.fld 1).asInt==(v.fld 1).asInt else false) with
    | false=>rw [hq] at h;cases h
    | true=>rw [hq] at h;exact ank h
theorem aot {a:PV}:∀ k f v u,u∈useF a k f v->u.2.2=1
 | 0,_,_,_,h=>by cases h
 | k+1,f,v,u,h=>by
  have ih:=aot (a:=a) k
  have h:u∈useD a (useF a k) f v:=h
  unfold useD at h
  cases h4:(f.fld 2).asInt==4 with
  | true=>
   rw [h4,cond_true] at h
   obtain ⟨x,_,h⟩:=List.mem_flatMap.1 h
   exact aos ih h
  | false=>
   rw [h4,cond_false] at h
   cases h5:(f.fld 2).asInt==5 with
   | true=>
    rw [h5,cond_true] at h
    obtain ⟨x,_,h⟩:=List.mem_flatMap.1 h
    exact aos ih h
   | false=>rw [h5,cond_false] at h;exact aos ih h
def acb (a:PV) (s:List UInt8) (v:PV):List UseT:=useM (useF a (aac v)) s (dmem aak s (a.fld 0).asList zMsg).1 v
theorem alq {a v:PV} (sa:SchemaV a) (hv:VOk v) (s:List UInt8):(acb a s v).length<=2*aac v:=at6 (at5 sa _) s _ hv
theorem ax8 {a v:PV} (ha:SOk a) (sa:SchemaV a) (hv:VOk v) (hb:aac v<=1048576) (s:List UInt8):F9 0 a s v=some (((acb a s v).foldl ahw []).map aax):=by
 have h1:F17 0 () s v a () []=some (a,(),aau ((acb a s v).foldl addU [])):=agq (4*aac v+6) fun n hn=>a2b ha (a2a ha (aac v)) s v [] (by omega) hb n hn
 obtain ⟨p1,p2⟩:=alm (L:=acb a s v) (l:=[]) rfl fun u hu=>by rw [aou (aot _) hu];rfl
 have hl:=alq sa hv s
 have hf:=anu as2 (acb a s v) []
 have h2:=avi p1 (by simp at hf;omega)
 rw [p2] at h2
 unfold F9
 rw [h1,Option.bind_some]
 show (F18 0 _).bind _=_
 rw [h2]
 rfl
end Go.Ab
