/- Lists that are compared part by part. -/
import Derived.Test.YtcpkdafleaddlaaGreatDoorAbPlain
import Derived.Lib.ParseIntB
import Derived.Lib.ItoaNum
import Derived.KernelRfl
set_option linter.unusedVariables false
set_option linter.unusedSimpArgs false
set_option linter.unnecessarySimpa false
namespace Go.Ab
open Go
end Go.Ab
namespace Go.Ab
open Go
def aio (c:UInt8):Prop:=48<=c.toNat/\c.toNat<=57
def valD (acc:Nat):List UInt8->Nat
 | []=>acc
 | c::r=>valD (acc*10+(c.toNat-48)) r
theorem at8 (l m:List UInt8):∀ acc,valD acc (l++m)=valD (valD acc l) m:=by
 induction l with
 | nil=>intro acc;rfl
 | cons c r ih=>intro acc;exact ih _
theorem a0j (l:List UInt8):∀ acc,acc<=valD acc l:=by
 induction l with
 | nil=>intro acc;exact Nat.le_refl _
 | cons c r ih=>intro acc;exact Nat.le_trans (show acc<=acc*10+(c.toNat-48) by omega) (ih _)
theorem a9j:((List.range 10).all fun d=>(UInt8.ofNat (48+d)).toNat==48+d)=true:=by kernel_rfl
theorem agz {d:Nat} (h:d<10):(UInt8.ofNat (48+d)).toNat=48+d:=by
 have:=List.all_eq_true.1 a9j d (List.mem_range.2 h)
 simpa using this
theorem ahk (u:Nat):(∀ c,c∈Lib.decDigits u->aio c)/\valD 0 (Lib.decDigits u)=u/\Lib.decDigits u≠[]/\(u≠0->∀ c,(Lib.decDigits u).head?=some c->c.toNat≠48):=by
 induction u using Nat.strongRecOn with
 | _ u ih=>
  have e:=Lib.decDigits.eq_1 u
  by_cases h:u<10
  ·rw [dif_pos h] at e
   rw [e]
   refine ⟨fun c hc=>?_,?_,by simp,fun h0 c hc=>?_⟩
   ·have:=List.mem_singleton.1 hc;subst this;unfold aio;rw [agz h];omega
   ·have hx:=agz h
    generalize UInt8.ofNat (48+u)=x at hx
    show 0*10+(x.toNat-48)=u
    omega
   ·have:=Option.some.inj hc;subst this;rw [agz h];omega
  ·rw [dif_neg h] at e
   obtain ⟨h1,h2,h3,h4⟩:=ih (u / 10) (by omega)
   have hm:u%10<10:=Nat.mod_lt _ (by decide)
   rw [e]
   refine ⟨fun c hc=>?_,?_,by simp,fun h0 c hc=>?_⟩
   ·rcases List.mem_append.1 hc with hc | hc
    ·exact h1 c hc
    ·have:=List.mem_singleton.1 hc;subst this;unfold aio;rw [agz hm];omega
   ·have hx:=agz hm
    generalize UInt8.ofNat (48+u%10)=x at hx
    rw [at8,h2]
    show u / 10*10+(x.toNat-48)=u
    omega
   ·refine h4 (by omega) c ?_
    rw [List.head?_append] at hc
    cases hh:(Lib.decDigits (u / 10)).head? with
    | none=>exact absurd (List.head?_eq_none_iff.1 hh) h3
    | some x=>rw [hh] at hc;simpa using hc
theorem a2v (M:Nat) (hM:M<18446744073709551616):∀ (l:List UInt8) (acc:Nat),(∀ c,c∈l->aio c)->valD acc l<=M->Lib.parseUintM M acc l=.ok (valD acc l):=by
 intro l
 induction l with
 | nil=>intro acc _ _;rfl
 | cons c r ih=>
  intro acc hd hv
  have hc:=hd c (by simp)
  have hv':valD (acc*10+(c.toNat-48)) r<=M:=hv
  have hs:acc*10+(c.toNat-48)<=M:=Nat.le_trans (a0j r _) hv'
  have b1:¬1844674407370955162<=acc:=by clear hv hv' ih hd;unfold aio at hc;omega
  have b2:¬M<acc*10+(c.toNat-48):=Nat.not_lt.2 hs
  have e:Lib.parseUintM M acc (c::r)=Lib.parseUintM M (acc*10+(c.toNat-48)) r:=by
   rw [Lib.parseUintM,if_pos (show 48<=c.toNat/\c.toNat<=57 from hc),if_neg b1,if_neg b2]
  rw [e]
  exact ih _ (fun x hx=>hd x (by simp [hx])) hv
theorem af4 {u:Nat} (hu:u<18446744073709551616):Lib.parseUintB 64 (Lib.decDigits u)=.ok u:=by
 obtain ⟨h1,h2,h3,_⟩:=ahk u
 unfold Lib.parseUintB
 rw [if_neg h3,a2v _ (by decide) _ _ h1 (by rw [h2];omega),h2]
theorem apx (l:List UInt8):Lib.parseUintB 64 (45::l)=Lib.NumEnd.syntax:=by
 unfold Lib.parseUintB
 rw [if_neg (by simp)]
 unfold Lib.parseUintM
 rw [if_neg (by decide)]
theorem as6 {u:Nat} (hu:u<18446744073709551616):Lib.parseIntB 64 (Lib.decDigits u)=if 9223372036854775808<=u then .range else .ok (u:Int):=by
 obtain ⟨h1,h2,h3,_⟩:=ahk u
 cases hd:Lib.decDigits u with
 | nil=>exact absurd hd h3
 | cons c r=>
  have hc:=h1 c (by rw [hd];simp)
  unfold aio at hc
  have hp:=af4 hu
  rw [hd] at hp
  unfold Lib.parseIntB
  have n43:¬c.toNat=43:=by omega
  have n45:¬c.toNat=45:=by omega
  simp only [n43,n45,or_self,if_false,hp,not_false_eq_true,true_and,false_and]
theorem arx {u:Nat} (hu:u<18446744073709551616):Lib.parseIntB 64 (45::Lib.decDigits u)=if 9223372036854775808<u then .range else .ok (-(u:Int)):=by
 have hp:=af4 hu
 unfold Lib.parseIntB
 have e:(45:UInt8).toNat=45:=rfl
 simp only [e,or_true,if_true,hp,not_true_eq_false,false_and,if_false,true_and]
end Go.Ab
