/- The law RetireUses. -/
import Derived.Test.YtjogoleiodbfdaaGreatPUses5T
set_option linter.unusedVariables false
set_option linter.unusedSimpArgs false
set_option linter.unnecessarySimpa false
namespace Go.Ab
open Go
set_option maxRecDepth 100000
theorem am1 (l:List PV) (s:List UInt8) (n:Int):(depU l s n).length<=1:=by
 unfold depU
 cases akk l<;>simp
theorem am2 {l:List PV}{s:List UInt8}{n:Int}{u:UseT} (h:u∈depU l s n):u.2.2=1:=by
 unfold depU at h
 cases hf:akk l with
 | false=>rw [hf] at h;cases h
 | true=>rw [hf] at h;simp at h;subst h;rfl
theorem aiq (v:PV) (i:Nat):aas (v.fld i).asList<aad v:=by
 refine Nat.lt_of_lt_of_le ?_ (ai9 v i)
 cases v.fld i with
 | slice xs=>show aas xs<aas xs+1;omega
 | _=>exact aba _
theorem ail {c:PV->List UseT}:∀ {xs:List PV},(∀ x,x∈xs->(c x).length<=2*aad x)->(xs.flatMap c).length<=2*aas xs
 | [],_=>Nat.zero_le _
 | x::r,h=>by
  have h1:=h x (by simp)
  have h2:=ail (xs:=r) fun y hy=>h y (List.mem_cons_of_mem _ hy)
  rw [List.flatMap_cons,List.length_append]
  simp only [aas]
  omega
theorem ap3 {key:PV->Int}{c:PV->List UseT}{k:Int} (hc:∀ x,(c x).length<=1):∀ {xs:List PV},(xs.map key).Nodup->(∀ x,x∈xs->c x≠[]->key x=k)->(xs.flatMap c).length<=1
 | [],_,_=>Nat.zero_le _
 | x::r,h,hk=>by
  rw [List.map_cons,List.nodup_cons] at h
  have ih:=ap3 hc h.2 fun y hy=>hk y (List.mem_cons_of_mem _ hy)
  rw [List.flatMap_cons]
  by_cases e:c x=[]
  ·rw [e,List.nil_append];exact ih
  ·have hx:=hk x (by simp) e
   have hr:r.flatMap c=[]:=by
    rw [List.flatMap_eq_nil_iff]
    intro y hy
    by_cases q:c y=[]
    ·exact q
    ·exact absurd (List.mem_map.2 ⟨y,hy,(hk y (List.mem_cons_of_mem _ hy) q).trans hx.symm⟩) h.1
   rw [hr,List.append_nil]
   exact hc x
theorem ayw {e:PV} (he:EU e) (s:List UInt8) (v:PV):(useN s e v).length<=2:=by
 unfold useN
 rw [List.length_append]
 have h1:=am1 (e.fld 4).asList s (-1)
 have h2:((e.fld 2).asList.flatMap (useI s v)).length<=1:=by
  refine ap3 (key:=av6) (k:=(v.fld 1).asInt) (fun x=>?_) he.uq (fun x hx hne=>?_)
  ·unfold useI
   cases (bif decide ((x.fld 1).asInt≥(0:Int)) then IntKind.wrap .u64 (x.fld 1).asInt==(v.fld 1).asInt else false) with
   | true=>exact am1 _ _ _
   | false=>exact Nat.zero_le _
  ·have hr:=he.rng x hx
   unfold useI at hne
   rw [decide_eq_true hr.1,cond_true,wrapU hr] at hne
   cases q:((x.fld 1).asInt==(v.fld 1).asInt) with
   | false=>rw [q] at hne;exact absurd rfl hne
   | true=>exact eq_of_beq q
 omega
theorem ate {U:PV->PV->List UseT} (hU:∀ f x,VOk x->(U f x).length<=2*aad x) (s:List UInt8) (m:PV) {v:PV} (hv:VOk v):(useM U s m v).length<=2*aad v:=by
 unfold useM
 rw [List.length_append]
 have h1:=am1 (m.fld 4).asList s (-1)
 have h2:=ail (c:=useS U s m) (xs:=(v.fld 5).asList) fun x hx=>by
  unfold useS
  have h3:=hU (dmem kNum (x.fld 0).asInt (m.fld 1).asList zFld).1 (x.fld 1) (hv.slot hx)
  have h4:=am1 ((dmem kNum (x.fld 0).asInt (m.fld 1).asList zFld).1.fld 8).asList s ((dmem kNum (x.fld 0).asInt (m.fld 1).asList zFld).1.fld 0).asInt
  have h5:aad (x.fld 1)+2<=aad x:=by cases hv with | mk _ _ _ _ _ _ _ h=>exact h x hx
  cases (dmem kNum (x.fld 0).asInt (m.fld 1).asList zFld).2 with
  | false=>exact Nat.zero_le _
  | true=>rw [cond_true,List.length_append];omega
 have h6:=aiq v 5
 omega
theorem an9 {a:PV} (sa:SchemaV a) {U:PV->PV->List UseT} (hU:∀ f x,VOk x->(U f x).length<=2*aad x) (t:PV) {v:PV} (hv:VOk v):(useE a U t v).length<=2*aad v:=by
 unfold useE
 have hp:=aba v
 cases (t.fld 0).asInt==10 with
 | true=>exact ate hU _ _ hv
 | false=>
  cases (t.fld 0).asInt==9 with
  | true=>have:=ayw (eu sa (t.fld 1).asStr) (t.fld 1).asStr v;rw [cond_false,cond_true];omega
  | false=>exact Nat.zero_le _
theorem atc {a:PV} (sa:SchemaV a):∀ k f v,VOk v->(useF a k f v).length<=2*aad v
 | 0,_,_,_=>Nat.zero_le _
 | k+1,f,v,hv=>by
  have ih:=atc sa k
  show (useD a (useF a k) f v).length<=_
  unfold useD
  cases (f.fld 2).asInt==4 with
  | true=>
   have h1:=ail (c:=useE a (useF a k) (f.fld 4)) (xs:=(v.fld 3).asList) fun x hx=>an9 sa ih _ (hv.elem hx)
   have h2:=aiq v 3
   rw [cond_true];omega
  | false=>
   cases (f.fld 2).asInt==5 with
   | true=>
    have h1:=ail (c:=fun x:PV=>useE a (useF a k) (f.fld 4) (x.fld 1)) (xs:=(v.fld 4).asList) fun x hx=>by
     have h3:=an9 sa ih (f.fld 4) (hv.val hx)
     have h4:=ai9 x 1
     show (useE a (useF a k) (f.fld 4) (x.fld 1)).length<=_
     omega
    have h2:=aiq v 4
    rw [cond_false,cond_true];omega
   | false=>exact an9 sa ih _ hv
theorem atf {U:PV->PV->List UseT} (hU:∀ f x u,u∈U f x->u.2.2=1) {s:List UInt8}{m v:PV}{u:UseT} (h:u∈useM U s m v):u.2.2=1:=by
 unfold useM at h
 rcases List.mem_append.1 h with h | h
 ·exact am2 h
 ·obtain ⟨x,_,h⟩:=List.mem_flatMap.1 h
  unfold useS at h
  cases hq:(dmem kNum (x.fld 0).asInt (m.fld 1).asList zFld).2 with
  | false=>rw [hq] at h;cases h
  | true=>
   rw [hq,cond_true] at h
   rcases List.mem_append.1 h with h | h
   ·exact am2 h
   ·exact hU _ _ _ h
theorem aoa {a:PV}{U:PV->PV->List UseT} (hU:∀ f x u,u∈U f x->u.2.2=1) {t v:PV}{u:UseT} (h:u∈useE a U t v):u.2.2=1:=by
 unfold useE at h
 cases h10:(t.fld 0).asInt==10 with
 | true=>rw [h10,cond_true] at h;exact atf hU h
 | false=>
  rw [h10,cond_false] at h
  cases h9:(t.fld 0).asInt==9 with
  | false=>rw [h9] at h;cases h
  | true=>
   rw [h9,cond_true] at h
   unfold useN at h
   rcases List.mem_append.1 h with h | h
   ·exact am2 h
   ·obtain ⟨x,_,h⟩:=List.mem_flatMap.1 h
    unfold useI at h
    cases hq:(bif decide ((x.fld 1).asInt≥(0:Int)) then IntKind.wrap .u64 (x.fld 1).asInt==(v.fld 1).asInt else false) with
    | false=>rw [hq] at h;cases h
    | true=>rw [hq] at h;exact am2 h
theorem atd {a:PV}:∀ k f v u,u∈useF a k f v->u.2.2=1
 | 0,_,_,_,h=>by cases h
 | k+1,f,v,u,h=>by
  have ih:=atd (a:=a) k
  have h:u∈useD a (useF a k) f v:=h
  unfold useD at h
  cases h4:(f.fld 2).asInt==4 with
  | true=>
   rw [h4,cond_true] at h
   obtain ⟨x,_,h⟩:=List.mem_flatMap.1 h
   exact aoa ih h
  | false=>
   rw [h4,cond_false] at h
   cases h5:(f.fld 2).asInt==5 with
   | true=>
    rw [h5,cond_true] at h
    obtain ⟨x,_,h⟩:=List.mem_flatMap.1 h
    exact aoa ih h
   | false=>rw [h5,cond_false] at h;exact aoa ih h
def ad8 (a:PV) (s:List UInt8) (v:PV):List UseT:=useM (useF a (aad v)) s (dmem aau s (a.fld 0).asList zMsg).1 v
theorem aho {a v:PV} (sa:SchemaV a) (hv:VOk v) (s:List UInt8):(ad8 a s v).length<=2*aad v:=ate (atc sa _) s _ hv
theorem axh {a v:PV} (ha:SOk a) (sa:SchemaV a) (hv:VOk v) (hb:aad v<=1048576) (s:List UInt8):F9 0 a s v=some (((ad8 a s v).foldl acz []).map aar):=by
 have h1:F17 0 () s v a () []=some (a,(),aav ((ad8 a s v).foldl addU [])):=agj (4*aad v+6) fun n hn=>a03 ha (a02 ha (aad v)) s v [] (by omega) hb n hn
 obtain ⟨p1,p2⟩:=apz (L:=ad8 a s v) (l:=[]) rfl fun u hu=>by rw [atf (atd _) hu];rfl
 have hl:=aho sa hv s
 have hf:=ae2 ar8 (ad8 a s v) []
 have h2:=auq p1 (by simp at hf;omega)
 rw [p2] at h2
 unfold F9
 rw [h1,Option.bind_some]
 show (F18 0 _).bind _=_
 rw [h2]
 rfl
theorem axi {a v:PV} (ha:SOk a) (sa:SchemaV a) (hv:VOk v) (hb:aad v<=1048576) (s:List UInt8) (hfit:fitM (fitF a (aad v)) (dmem aau s (a.fld 0).asList zMsg).1 v):F10 0 a s v=some (((ad8 a s v).foldl acz []).map aar):=by
 have hl:=aho sa hv s
 have h1:F19 0 a s v []=some (((ad8 a s v).foldl acz []).map aar):=agj (4*aad v+6) fun n hn=>a06 ha sa (a05 ha sa (aad v)) s v [] (by omega) hb hfit (by show 0+(ad8 a s v).length<=_;omega) n hn
 unfold F10
 rw [h1]
 rfl
theorem aug {a v:PV}{s:List UInt8} (ha:SOk a) (ba:aad a<=1048576) (hv:VOk v) (hb:aad v<=1048576):F3 0 a s v=some true:=by
 obtain ⟨q,q1,q2⟩:=azh ha ba
 obtain ⟨c,hc⟩:=aol hb
 obtain ⟨e,he,hfit⟩:=avh ha hv hb s
 unfold F3
 simp only [q1,Option.bind_some]
 cases q with
 | false=>rfl
 | true=>
  have sa:=q2 rfl
  simp only [Bool.not_true,Bool.not_false,cond_true,hc,Option.bind_some,cond_false]
  cases decide (c>3000) with
  | true=>rfl
  | false=>
   simp only [Bool.not_false,cond_true,he,Option.bind_some,cond_false]
   cases hne:e != 0 with
   | true=>rfl
   | false=>
    have h0:e=0:=by simpa using hne
    have hl:=aho sa hv s
    have hf:=ae2 aey (ad8 a s v) []
    have h8:=a04 (((ad8 a s v).foldl acz []).map aar) (by rw [List.length_map];simp at hf;omega)
    simp only [cond_false,axh ha sa hv hb s,axi ha sa hv hb s (hfit h0),h8,Option.bind_some]
    rfl
end Go.Ab
