/- Lists that are compared part by part. -/
import Derived.Test.YtcpkdafleaddlaaGreatDoorAbUtf
import Derived.Lib.ParseIntB
import Derived.Lib.ItoaNum
set_option linter.unusedVariables false
set_option linter.unusedSimpArgs false
set_option linter.unnecessarySimpa false
namespace Go.Ab
open Go
def eqL {d:Type} (f:d->d->Bool):List d->List d->Bool
 | [],[]=>true
 | x::xs,y::ys=>f x y&&eqL f xs ys
 | _,_=>false
theorem au6 {m:Type}{f:m->m->Bool}:∀ {xs d:List m},xs.length≠d.length->eqL f xs d=false:=by
 intro xs;induction xs with
 | nil=>intro d h;cases d with
  | nil=>grind
  | cons=>rfl
 | cons x r o=>intro d h;cases d with
  | nil=>rfl
  | cons y q=>grind [eqL]
theorem bkr {z:Type}{f:z->z->Bool} (d:z):∀ (xs o:List z) (m pre2:List z),m.length=pre2.length->xs.length=o.length->
 allF (λi=>f ((m++xs).getD i d) ((pre2++o).getD i d)) m.length xs.length=eqL f xs o:=by
 intro xs
 induction xs with
 | nil=>intro o p q H h;cases o with
  | nil=>rfl
  | cons=>simp at h
 | cons x r U=>
  intro o p q H h
  cases o with
  | nil=>simp at h
  | cons y s=>
   simp only [Ak,allF,eqL]
   have M:(p++x::r).getD p.length d=x:=by simp [List.getD]
   have O:(q++y::s).getD p.length d=y:=by simp_all
   rw [M,O]
   have:=U s (p++[x]) (q++[y]) (by simp [H]) (by simpa using h)
   simp_all
theorem al3 {o:Type}{f:o->o->Bool} (d:o) {xs m:List o} (h:xs.length=m.length):allF (λi=>f (xs.getD i d) (m.getD i d)) 0 xs.length=eqL f xs m:=by exact bkr (f:=f) d xs m [] [] rfl h
theorem neLen (a b:List PV):((a.length:Int) != (b.length:Int))=!decide (a.length=b.length):=by grind
theorem a6w (a b:List PV):((a.length:Int)==(b.length:Int))=decide (a.length=b.length):=by grind
end Go.Ab
namespace Go.Ab
open Go
def avj (c:UInt8):Prop:=48<=c.toNat/\c.toNat<=57
def valD (d:Nat):Bo->Nat
 | []=>d
 | c::r=>valD (d*10+(c.toNat-48)) r
theorem a2z (l m:Bo):∀ d,valD d (l++m)=valD (valD d l) m:=by
 induction l with
 | nil=>intro d;rfl
 | cons c r o=>intro d;exact o _
theorem bmz (l:Bo):∀ d,d<=valD d l:=by
 induction l with
 | nil=>intro d;exact Nat.le_refl _
 | cons c r m=>intro d;exact Nat.le_trans (show d<=d*10+(c.toNat-48) by omega) (m _)
theorem bkk:((List.range 10).all λd=>(UInt8.ofNat (48+d)).toNat==48+d)=true:=by kernel_rfl
theorem aiz {d:Nat} (h:d<10):(UInt8.ofNat (48+d)).toNat=48+d:=by grind [List.all_eq_true,bkk]
theorem aiw (u:Nat):(∀ c,c∈Lib.decDigits u->avj c)/\valD 0 (Lib.decDigits u)=u/\Lib.decDigits u≠[]/\(u≠0->∀ c,(Lib.decDigits u).head?=some c->c.toNat≠48):=by
 induction u using Nat.strongRecOn with
 | _ u M=>
  have e:=Lib.decDigits.eq_1 u;by_cases h:u<10
  ·rw [dif_pos h] at e;rw [e];refine ⟨λc d=>?_,?_,by simp,λo c d=>?_⟩
   ·grind [List.mem_singleton,avj,aiz]
   ·have m:=aiz h;generalize UInt8.ofNat (48+u)=x at m;show 0*10+(x.toNat-48)=u;omega
   grind [Option.some.inj,aiz]
  ·rw [dif_neg h] at e;obtain ⟨O,z,U,V⟩:=M (u / 10) (by omega);have H:u%10<10:=Nat.mod_lt _ (by decide);rw [e];refine ⟨λc d=>?_,?_,by simp,λo c d=>?_⟩
   ·grind [List.mem_singleton,avj,aiz]
   ·have m:=aiz H;generalize UInt8.ofNat (48+u%10)=x at m;rw [a2z,z];show u / 10*10+(x.toNat-48)=u;omega
   grind [List.head?_append,Lib.decDigits,absurd,List.head?_eq_none_iff]
theorem bc8 (M:Nat) (Y:M<18446744073709551616):∀ (l:Bo) (d:Nat),(∀ c,c∈l->avj c)->valD d l<=M->Lib.parseUintM M d l=.ok (valD d l):=by
 intro l;induction l with
 | nil=>intro d _ _;rfl
 | cons c r X=>
  intro d o z;have U:=o c (by simp);have m:valD (d*10+(c.toNat-48)) r<=M:=z;have V:d*10+(c.toNat-48)<=M:=Nat.le_trans (bmz r _) m;have H:¬1844674407370955162<=d:=by grind
  have O:¬M<d*10+(c.toNat-48):=Nat.not_lt.2 V;have e:Lib.parseUintM M d (c::r)=Lib.parseUintM M (d*10+(c.toNat-48)) r:=by rw [Lib.parseUintM,if_pos (show 48<=c.toNat/\c.toNat<=57 from U),if_neg H,if_neg O]
  rw [e];exact X _ (λx W=>o x (by simp [W])) z
theorem aem {u:Nat} (z:u<18446744073709551616):Lib.parseUintB 64 (Lib.decDigits u)=.ok u:=by obtain ⟨m,d,o,_⟩:=aiw u;unfold Lib.parseUintB;rw [if_neg o,bc8 _ (by decide) _ _ m (by rw [d];omega),d]
theorem ams (l:Bo):Lib.parseUintB 64 (45::l)=Lib.NumEnd.syntax:=by unfold Lib.parseUintB;rw [if_neg (by simp)];unfold Lib.parseUintM;grind
theorem ao1 {u:Nat} (H:u<18446744073709551616):Lib.parseIntB 64 (Lib.decDigits u)=if 9223372036854775808<=u then .range else .ok (u:Int):=by
 obtain ⟨m,M,O,_⟩:=aiw u;cases d:Lib.decDigits u with
 | nil=>grind
 | cons c r=>have o:=m c (by rw [d];simp);unfold avj at o;have z:=aem H;rw [d] at z;unfold Lib.parseIntB;grind
theorem ao2 {u:Nat} (d:u<18446744073709551616):Lib.parseIntB 64 (45::Lib.decDigits u)=if 9223372036854775808<u then .range else .ok (-(u:Int)):=by have m:=aem d;unfold Lib.parseIntB;grind
end Go.Ab
