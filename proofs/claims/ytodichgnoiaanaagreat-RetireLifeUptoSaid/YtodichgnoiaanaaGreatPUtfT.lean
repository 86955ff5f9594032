/- UTF-8: what the printed functions compute. -/
import Derived.Test.YtodichgnoiaanaaGreatAbUtf
import Derived.Test.YtodichgnoiaanaaGreatGenZ
set_option linter.unusedVariables false
set_option linter.unusedSimpArgs false
set_option linter.unnecessarySimpa false
namespace Go.Ab
open Go
theorem wadd {i k:Nat} (h:i+k<=9223372036854775807):IntKind.wrap .i64 ((i:Int)+(k:Int))=((i+k:Nat):Int):=by rw [<-Int.natCast_add];exact ac7 h
theorem asv {i:Nat} (h:i+1<=9223372036854775807):IntKind.wrap .i64 ((i:Int)+(1:Int))=((i+1:Nat):Int):=wadd (k:=1) h
theorem wadd2 {i:Nat} (h:i+2<=9223372036854775807):IntKind.wrap .i64 ((i:Int)+(2:Int))=((i+2:Nat):Int):=wadd (k:=2) h
theorem gb {α:Type} (b c:Bool) (k:Bool->Option α):((bif b then some c else some false).bind k)=k (b&&c):=by cases b<;>rfl
theorem gand (b c:Bool):(bif b then (b&&c) else false)=(b&&c):=by cases b<;>rfl
theorem aiq {α:Type} (b:Bool) (x:α):(bif b then x else x)=x:=by cases b<;>rfl
theorem aat (a b:Nat):decide ((a:Int)<(b:Int))=decide (a<b):=by simp
def betw (s:List UInt8) (i lo hi:Nat):Bool:=decide (i<s.length/\lo<=byteAt s i/\byteAt s i<=hi)
theorem ae1 (s:List UInt8) (i lo hi:Nat):F173 0 s (i:Int) (lo:Int) (hi:Int)=some (betw s i lo hi):=by
 have e2:((s.getD i 0).toNat:Int)=(byteAt s i:Int):=rfl
 by_cases h:i<s.length
 ·simp only [F173,aat,aab,h,decide_true,cond_true,imp,Int.toNat_natCast,e2,betw,true_and,ge_iff_le,Int.ofNat_le,Bool.decide_and]
  cases decide (lo<=byteAt s i)<;>rfl
 ·simp only [F173,aat,aab,h,decide_false,cond_false,cond_true,imp,Bool.not_false,betw,false_and]
def af3 (s:List UInt8):Nat->Nat->Bool
 | _,0=>true
 | i,n+1=>betw s i 128 191&&af3 s (i+1) n
theorem a1g:∀ (m:Nat) (s:List UInt8) (i n k:Nat),n-k=m->k<=n->i+n<=9223372036854775800->aay (S172_3step 0) (s,(i:Int),(n:Int),(k:Int))=some (bif af3 s (i+k) (n-k) then .inr () else .inl false):=by
 intro m
 induction m with
 | zero=>
  intro s i n k hm hk hs
  have hkn:k=n:=by omega
  subst hkn
  rw [aah (y:=.inr ())]
  ·simp [af3]
  ·simp [S172_3step,S172_3]
 | succ m ih=>
  intro s i n k hm hk hs
  have hlt:k<n:=by omega
  have hb:F173 0 s ((i+k:Nat):Int) (128:Int) (191:Int)=some (betw s (i+k) 128 191):=ae1 s (i+k) 128 191
  have e:n-k=(n-(k+1))+1:=by omega
  rw [e,af3]
  cases hc:betw s (i+k) 128 191 with
  | false=>
   rw [aah (y:=.inl false)]
   ·rfl
   ·rw [hc] at hb
    simp only [S172_3step,S172_3,aat,hlt,decide_true,cond_true,wadd (i:=i) (k:=k) (by omega),hb,Option.bind_some,Bool.not_false]
  | true=>
   rw [aa0 (x1:=(s,(i:Int),(n:Int),((k+1:Nat):Int)))]
   ·rw [ih s i n (k+1) (by omega) (by omega) hs]
    rfl
   ·rw [hc] at hb
    simp only [S172_3step,S172_3,aat,hlt,decide_true,cond_true,wadd (i:=i) (k:=k) (by omega),hb,Option.bind_some,Bool.not_true,cond_false,asv (i:=k) (by omega)]
theorem am5 (s:List UInt8) (i n:Nat) (hs:i+n<=9223372036854775800):F172 0 s (i:Int) (n:Int)=some (af3 s i n):=by
 have h:=a1g n s i n 0 (by omega) (by omega) hs
 unfold F172
 rw [aa9]
 have e:((0:Nat):Int)=(0:Int):=rfl
 rw [<-e,h]
 simp only [Nat.add_zero,Nat.sub_zero]
 cases af3 s i n<;>rfl
theorem ag1 {c:Bool}{p:Prop} [Decidable p] {rest:Option Int}{x r:Nat} (h:c=true ↔ p) (h2:rest=some (r:Int)):(bif c then some (x:Int) else rest)=some ((if p then x else r:Nat):Int):=by
 by_cases hp:p
 ·rw [h.2 hp];simp [hp]
 ·have:c=false:=by cases c with | false=>rfl | true=>exact absurd (h.1 rfl) hp
  rw [this];simp [hp,h2]
theorem a1c (s:List UInt8) (i:Nat) (hi:i<s.length) (hs:s.length<=9223372036854775000):F154 0 s (i:Int)=some (sizeAt s i:Int):=by
 have e2:((s.getD i 0).toNat:Int)=(byteAt s i:Int):=rfl
 have t11:F172 0 s ((i+1:Nat):Int) (1:Int)=some (af3 s (i+1) 1):=am5 s (i+1) 1 (by omega)
 have t12:F172 0 s ((i+1:Nat):Int) (2:Int)=some (af3 s (i+1) 2):=am5 s (i+1) 2 (by omega)
 have t13:F172 0 s ((i+1:Nat):Int) (3:Int)=some (af3 s (i+1) 3):=am5 s (i+1) 3 (by omega)
 have t21:F172 0 s ((i+2:Nat):Int) (1:Int)=some (af3 s (i+2) 1):=am5 s (i+2) 1 (by omega)
 have t22:F172 0 s ((i+2:Nat):Int) (2:Int)=some (af3 s (i+2) 2):=am5 s (i+2) 2 (by omega)
 have b0:F173 0 s ((i+1:Nat):Int) (160:Int) (191:Int)=some (betw s (i+1) 160 191):=ae1 s (i+1) 160 191
 have b1:F173 0 s ((i+1:Nat):Int) (128:Int) (159:Int)=some (betw s (i+1) 128 159):=ae1 s (i+1) 128 159
 have b2:F173 0 s ((i+1:Nat):Int) (144:Int) (191:Int)=some (betw s (i+1) 144 191):=ae1 s (i+1) 144 191
 have b3:F173 0 s ((i+1:Nat):Int) (128:Int) (143:Int)=some (betw s (i+1) 128 143):=ae1 s (i+1) 128 143
 unfold F154
 simp only [aab,hi,decide_true,cond_true,Int.toNat_natCast,e2,asv (i:=i) (by omega),wadd2 (i:=i) (by omega),t11,t12,t13,t21,t22,b0,b1,b2,b3,gb,gand]
 unfold sizeAt a1b
 have nl:∀ k,(i+k<s.length)=(k<s.length-i):=fun k=>propext ⟨fun h=>by omega,fun h=>by omega⟩
 simp only [af3,betw,Bool.and_true,Nat.add_assoc,Nat.reduceAdd,nl,<-Bool.decide_and]
 generalize byteAt s i=c0 at*
 generalize byteAt s (i+1)=c1 at*
 generalize byteAt s (i+2)=c2 at*
 generalize byteAt s (i+3)=c3 at*
 generalize s.length-i=n at*
 clear t11 t12 t13 t21 t22 b0 b1 b2 b3 nl e2
 have hc:∀ (k:Nat),(((c0:Int)==(k:Int))=true ↔ c0=k):=fun k=>by simp;omega
 have hd:∀ (k:Nat),(((c0:Int) != (k:Int))=true ↔ c0≠k):=fun k=>by simp;omega
 have ci:∀ (a b:Bool),((bif a then b else false)=true ↔ a=true/\b=true):=fun a b=>by cases a<;>simp
 refine ag1 (x:=1) (by simp only [decide_eq_true_eq];omega) ?_
 refine ag1 (x:=2) (by simp only [ci,Bool.and_eq_true,decide_eq_true_eq];omega) ?_
 refine ag1 (x:=3) (by have:=hc 224;simp only [ci,Bool.and_eq_true,decide_eq_true_eq];rw [show ((c0:Int)==224)=((c0:Int)==((224:Nat):Int)) from rfl,this];omega) ?_
 refine ag1 (x:=3) (by have:=hc 237;simp only [ci,Bool.and_eq_true,decide_eq_true_eq];rw [show ((c0:Int)==237)=((c0:Int)==((237:Nat):Int)) from rfl,this];omega) ?_
 refine ag1 (x:=3) (by have:=hd 237;simp only [ci,Bool.and_eq_true,decide_eq_true_eq];rw [show ((c0:Int) != 237)=((c0:Int) != ((237:Nat):Int)) from rfl,this];omega) ?_
 refine ag1 (x:=4) (by have:=hc 240;simp only [ci,Bool.and_eq_true,decide_eq_true_eq];rw [show ((c0:Int)==240)=((c0:Int)==((240:Nat):Int)) from rfl,this];omega) ?_
 refine ag1 (x:=4) (by simp only [ci,Bool.and_eq_true,decide_eq_true_eq];omega) ?_
 refine ag1 (x:=4) (by have:=hc 244;simp only [ci,Bool.and_eq_true,decide_eq_true_eq];rw [show ((c0:Int)==244)=((c0:Int)==((244:Nat):Int)) from rfl,this];omega) ?_
 rfl
theorem aua (s:List UInt8) (hs:s.length<=9223372036854775000):∀ (m i:Nat),s.length-i<=m->i<=s.length->aay (S144_3step 0) (s,(i:Int))=some (bif decide (ah1 s i=-1) then .inr () else .inl (ah1 s i)):=by
 intro m
 induction m with
 | zero=>
  intro i hm hi
  have:¬i<s.length:=by omega
  rw [ajy,if_neg this]
  exact aah (by simp only [S144_3step,S144_3,aat,this,decide_false,cond_false];rfl)
 | succ m ih=>
  intro i hm hi
  by_cases hlt:i<s.length
  ·rw [ajy,if_pos hlt]
   have hz:=a1c s i hlt hs
   have hle:=(awa (s.length-i) (byteAt s i) (byteAt s (i+1)) (byteAt s (i+2)) (byteAt s (i+3)) (by omega)).1
   by_cases h0:sizeAt s i=0
   ·rw [if_pos h0]
    rw [show decide ((i:Int)=-1)=false from decide_eq_false (by omega)]
    exact aah (by simp only [S144_3step,S144_3,aat,hlt,decide_true,cond_true,hz,h0,Option.bind_some];rfl)
   ·rw [if_neg h0]
    rw [aa0 (x1:=(s,((i+sizeAt s i:Nat):Int)))]
    ·have:sizeAt s i<=s.length-i:=hle
     exact ih _ (by omega) (by omega)
    ·have h1:((sizeAt s i:Int)==(0:Int))=false:=by simp;omega
     have:sizeAt s i<=s.length-i:=hle
     simp only [S144_3step,S144_3,aat,hlt,decide_true,cond_true,hz,Option.bind_some,h1,cond_false,wadd (i:=i) (k:=sizeAt s i) (by omega)]
  ·rw [ajy,if_neg hlt]
   exact aah (by simp only [S144_3step,S144_3,aat,hlt,decide_false,cond_false];rfl)
theorem a0t (s:List UInt8) (hs:s.length<=9223372036854775000):F144 0 s=some (bad s):=by
 have h:=aua s hs s.length 0 (by omega) (by omega)
 unfold F144
 rw [aa9,show (0:Int)=((0:Nat):Int) from rfl,h]
 unfold bad
 by_cases hb:ah1 s 0=-1
 ·simp [hb,sumE]
 ·simp [hb,sumE]
theorem aie (s:List UInt8) (hs:s.length<=9223372036854775000):F112 0 s=some (aqh s):=by
 unfold F112
 rw [a0t s hs];rfl
end Go.Ab
