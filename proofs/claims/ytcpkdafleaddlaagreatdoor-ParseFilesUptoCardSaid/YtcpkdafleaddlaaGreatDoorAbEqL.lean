/- Lists that are compared part by part. -/
import Derived.Test.YtcpkdafleaddlaaGreatDoorAbUtf
import Derived.Lib.ParseIntB
import Derived.Lib.ItoaNum
set_option linter.unusedVariables false
set_option linter.unusedSimpArgs false
set_option linter.unnecessarySimpa false
namespace Go.Ab
open Go
end Go.Ab
namespace Go.Ab
open Go
def akg (c:UInt8):Prop:=48<=c.toNat/\c.toNat<=57
def valD (d:Nat):Bq->Nat
 | []=>d
 | c::r=>valD (d*10+(c.toNat-48)) r
theorem ayb (l m:Bq):∀ d,valD d (l++m)=valD (valD d l) m:=by
 induction l with
 | nil=>intro d;rfl
 | cons c r o=>intro d;exact o _
theorem a7p (l:Bq):∀ d,d<=valD d l:=by
 induction l with
 | nil=>intro d;exact Nat.le_refl _
 | cons c r m=>intro d;exact Nat.le_trans (show d<=d*10+(c.toNat-48) by omega) (m _)
theorem bcc:((List.range 10).all λd=>(UInt8.ofNat (48+d)).toNat==48+d)=true:=by kernel_rfl
theorem ahv {d:Nat} (h:d<10):(UInt8.ofNat (48+d)).toNat=48+d:=by grind [List.all_eq_true,bcc]
theorem aht (u:Nat):(∀ c,c∈Lib.decDigits u->akg c)/\valD 0 (Lib.decDigits u)=u/\Lib.decDigits u≠[]/\(u≠0->∀ c,(Lib.decDigits u).head?=some c->c.toNat≠48):=by
 induction u using Nat.strongRecOn with
 | _ u M=>
  have e:=Lib.decDigits.eq_1 u;by_cases h:u<10
  ·rw [dif_pos h] at e;rw [e];refine ⟨λc d=>?_,?_,by simp,λo c d=>?_⟩
   ·grind [List.mem_singleton,akg,ahv]
   ·have m:=ahv h;generalize UInt8.ofNat (48+u)=x at m;show 0*10+(x.toNat-48)=u;omega
   grind [Option.some.inj,ahv]
  ·rw [dif_neg h] at e;obtain ⟨O,z,U,V⟩:=M (u / 10) (by omega);have H:u%10<10:=Nat.mod_lt _ (by decide);rw [e];refine ⟨λc d=>?_,?_,by simp,λo c d=>?_⟩
   ·grind [List.mem_singleton,akg,ahv]
   ·have m:=ahv H;generalize UInt8.ofNat (48+u%10)=x at m;rw [ayb,z];show u / 10*10+(x.toNat-48)=u;omega
   grind [List.head?_append,Lib.decDigits,absurd,List.head?_eq_none_iff]
theorem a58 (M:Nat) (Y:M<18446744073709551616):∀ (l:Bq) (d:Nat),(∀ c,c∈l->akg c)->valD d l<=M->Lib.parseUintM M d l=.ok (valD d l):=by
 intro l;induction l with
 | nil=>intro d _ _;rfl
 | cons c r X=>
  intro d o z;have U:=o c (by simp);have m:valD (d*10+(c.toNat-48)) r<=M:=z;have V:d*10+(c.toNat-48)<=M:=Nat.le_trans (a7p r _) m;have H:¬1844674407370955162<=d:=by grind
  have O:¬M<d*10+(c.toNat-48):=Nat.not_lt.2 V;have e:Lib.parseUintM M d (c::r)=Lib.parseUintM M (d*10+(c.toNat-48)) r:=by rw [Lib.parseUintM,if_pos (show 48<=c.toNat/\c.toNat<=57 from U),if_neg H,if_neg O]
  rw [e];exact X _ (λx W=>o x (by simp [W])) z
theorem aen {u:Nat} (z:u<18446744073709551616):Lib.parseUintB 64 (Lib.decDigits u)=.ok u:=by obtain ⟨m,d,o,_⟩:=aht u;unfold Lib.parseUintB;rw [if_neg o,a58 _ (by decide) _ _ m (by rw [d];omega),d]
theorem akt (l:Bq):Lib.parseUintB 64 (45::l)=Lib.NumEnd.syntax:=by unfold Lib.parseUintB;rw [if_neg (by simp)];unfold Lib.parseUintM;grind
theorem amb {u:Nat} (H:u<18446744073709551616):Lib.parseIntB 64 (Lib.decDigits u)=if 9223372036854775808<=u then .range else .ok (u:Int):=by
 obtain ⟨m,M,O,_⟩:=aht u;cases d:Lib.decDigits u with
 | nil=>grind
 | cons c r=>have o:=m c (by rw [d];simp);unfold akg at o;have z:=aen H;rw [d] at z;unfold Lib.parseIntB;grind
theorem amc {u:Nat} (d:u<18446744073709551616):Lib.parseIntB 64 (45::Lib.decDigits u)=if 9223372036854775808<u then .range else .ok (-(u:Int)):=by have m:=aen d;unfold Lib.parseIntB;grind
end Go.Ab
