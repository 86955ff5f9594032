/- UTF-8: what the printed functions compute. -/
import Derived.Test.YthokbeimbdnnoaaGreatDoorAbUtf
import Derived.Test.YthokbeimbdnnoaaGreatDoorGenEf
set_option linter.unusedVariables false
set_option linter.unusedSimpArgs false
set_option linter.unnecessarySimpa false
namespace Go.Ab
open Go
theorem wadd {i k:Nat} (h:i+k<=9223372036854775807):IntKind.wrap .i64 ((i:Int)+(k:Int))=((i+k:Nat):Int):=by rw [<-Int.natCast_add];exact aa5 h
theorem ay6 {i:Nat} (h:i+1<=9223372036854775807):IntKind.wrap .i64 ((i:Int)+(1:Int))=((i+1:Nat):Int):=wadd (k:=1) h
theorem wadd2 {i:Nat} (h:i+2<=9223372036854775807):IntKind.wrap .i64 ((i:Int)+(2:Int))=((i+2:Nat):Int):=wadd (k:=2) h
theorem gb {α:Type} (b c:Bool) (k:Bool->Option α):((bif b then some c else some false).bind k)=k (b&&c):=by cases b<;>rfl
theorem gand (b c:Bool):(bif b then (b&&c) else false)=(b&&c):=by cases b<;>rfl
theorem ao4 {α:Type} (b:Bool) (x:α):(bif b then x else x)=x:=by cases b<;>rfl
theorem afl (a b:Nat):decide ((a:Int)<(b:Int))=decide (a<b):=by simp
def betw (s:List UInt8) (i lo hi:Nat):Bool:=decide (i<s.length/\lo<=byteAt s i/\byteAt s i<=hi)
theorem aer (s:List UInt8) (i lo hi:Nat):F172 0 s (i:Int) (lo:Int) (hi:Int)=some (betw s i lo hi):=by
 have e2:((s.getD i 0).toNat:Int)=(byteAt s i:Int):=rfl
 by_cases h:i<s.length
 ·simp only [F172,afl,aab,h,decide_true,cond_true,imp,Int.toNat_natCast,e2,betw,true_and,ge_iff_le,Int.ofNat_le,Bool.decide_and]
  cases decide (lo<=byteAt s i)<;>rfl
 ·simp only [F172,afl,aab,h,decide_false,cond_false,cond_true,imp,Bool.not_false,betw,false_and]
def afx (s:List UInt8):Nat->Nat->Bool
 | _,0=>true
 | i,n+1=>betw s i 128 191&&afx s (i+1) n
theorem ayu:∀ (m:Nat) (s:List UInt8) (i n k:Nat),n-k=m->k<=n->i+n<=9223372036854775800->aba (S171_3step 0) (s,(i:Int),(n:Int),(k:Int))=some (bif afx s (i+k) (n-k) then .inr () else .inl false):=by
 intro m
 induction m with
 | zero=>
  intro s i n k hm hk hs
  have hkn:k=n:=by omega
  subst hkn
  rw [aag (y:=.inr ())]
  ·simp [afx]
  ·simp [S171_3step,S171_3]
 | succ m ih=>
  intro s i n k hm hk hs
  have hlt:k<n:=by omega
  have hb:F172 0 s ((i+k:Nat):Int) (128:Int) (191:Int)=some (betw s (i+k) 128 191):=aer s (i+k) 128 191
  have e:n-k=(n-(k+1))+1:=by omega
  rw [e,afx]
  cases hc:betw s (i+k) 128 191 with
  | false=>
   rw [aag (y:=.inl false)]
   ·rfl
   ·rw [hc] at hb
    simp only [S171_3step,S171_3,afl,hlt,decide_true,cond_true,wadd (i:=i) (k:=k) (by omega),hb,Option.bind_some,Bool.not_false]
  | true=>
   rw [aas (x1:=(s,(i:Int),(n:Int),((k+1:Nat):Int)))]
   ·rw [ih s i n (k+1) (by omega) (by omega) hs]
    rfl
   ·rw [hc] at hb
    simp only [S171_3step,S171_3,afl,hlt,decide_true,cond_true,wadd (i:=i) (k:=k) (by omega),hb,Option.bind_some,Bool.not_true,cond_false,ay6 (i:=k) (by omega)]
theorem alz (s:List UInt8) (i n:Nat) (hs:i+n<=9223372036854775800):F171 0 s (i:Int) (n:Int)=some (afx s i n):=by
 have h:=ayu n s i n 0 (by omega) (by omega) hs
 unfold F171
 rw [af0]
 have e:((0:Nat):Int)=(0:Int):=rfl
 rw [<-e,h]
 simp only [Nat.add_zero,Nat.sub_zero]
 cases afx s i n<;>rfl
theorem agy {c:Bool}{p:Prop} [Decidable p] {rest:Option Int}{x r:Nat} (h:c=true ↔ p) (h2:rest=some (r:Int)):(bif c then some (x:Int) else rest)=some ((if p then x else r:Nat):Int):=by
 by_cases hp:p
 ·rw [h.2 hp];simp [hp]
 ·have:c=false:=by cases c with | false=>rfl | true=>exact absurd (h.1 rfl) hp
  rw [this];simp [hp,h2]
theorem a3t (s:List UInt8) (i:Nat) (hi:i<s.length) (hs:s.length<=9223372036854775000):F109 0 s (i:Int)=some (sizeAt s i:Int):=by
 have e2:((s.getD i 0).toNat:Int)=(byteAt s i:Int):=rfl
 have t11:F171 0 s ((i+1:Nat):Int) (1:Int)=some (afx s (i+1) 1):=alz s (i+1) 1 (by omega)
 have t12:F171 0 s ((i+1:Nat):Int) (2:Int)=some (afx s (i+1) 2):=alz s (i+1) 2 (by omega)
 have t13:F171 0 s ((i+1:Nat):Int) (3:Int)=some (afx s (i+1) 3):=alz s (i+1) 3 (by omega)
 have t21:F171 0 s ((i+2:Nat):Int) (1:Int)=some (afx s (i+2) 1):=alz s (i+2) 1 (by omega)
 have t22:F171 0 s ((i+2:Nat):Int) (2:Int)=some (afx s (i+2) 2):=alz s (i+2) 2 (by omega)
 have b0:F172 0 s ((i+1:Nat):Int) (160:Int) (191:Int)=some (betw s (i+1) 160 191):=aer s (i+1) 160 191
 have b1:F172 0 s ((i+1:Nat):Int) (128:Int) (159:Int)=some (betw s (i+1) 128 159):=aer s (i+1) 128 159
 have b2:F172 0 s ((i+1:Nat):Int) (144:Int) (191:Int)=some (betw s (i+1) 144 191):=aer s (i+1) 144 191
 have b3:F172 0 s ((i+1:Nat):Int) (128:Int) (143:Int)=some (betw s (i+1) 128 143):=aer s (i+1) 128 143
 unfold F109
 simp only [aab,hi,decide_true,cond_true,Int.toNat_natCast,e2,ay6 (i:=i) (by omega),wadd2 (i:=i) (by omega),t11,t12,t13,t21,t22,b0,b1,b2,b3,gb,gand]
 unfold sizeAt acd
 have nl:∀ k,(i+k<s.length)=(k<s.length-i):=fun k=>propext ⟨fun h=>by omega,fun h=>by omega⟩
 simp only [afx,betw,Bool.and_true,Nat.add_assoc,Nat.reduceAdd,nl,<-Bool.decide_and]
 generalize byteAt s i=c0 at*
 generalize byteAt s (i+1)=c1 at*
 generalize byteAt s (i+2)=c2 at*
 generalize byteAt s (i+3)=c3 at*
 generalize s.length-i=n at*
 clear t11 t12 t13 t21 t22 b0 b1 b2 b3 nl e2
 have hc:∀ (k:Nat),(((c0:Int)==(k:Int))=true ↔ c0=k):=fun k=>by simp;omega
 have hd:∀ (k:Nat),(((c0:Int) != (k:Int))=true ↔ c0≠k):=fun k=>by simp;omega
 have ci:∀ (a b:Bool),((bif a then b else false)=true ↔ a=true/\b=true):=fun a b=>by cases a<;>simp
 refine agy (x:=1) (by simp only [decide_eq_true_eq];omega) ?_
 refine agy (x:=2) (by simp only [ci,Bool.and_eq_true,decide_eq_true_eq];omega) ?_
 refine agy (x:=3) (by have:=hc 224;simp only [ci,Bool.and_eq_true,decide_eq_true_eq];rw [show ((c0:Int)==224)=((c0:Int)==((224:Nat):Int)) from rfl,this];omega) ?_
 refine agy (x:=3) (by have:=hc 237;simp only [ci,Bool.and_eq_true,decide_eq_true_eq];rw [show ((c0:Int)==237)=((c0:Int)==((237:Nat):Int)) from rfl,this];omega) ?_
 refine agy (x:=3) (by have:=hd 237;simp only [ci,Bool.and_eq_true,decide_eq_true_eq];rw [show ((c0:Int) != 237)=((c0:Int) != ((237:Nat):Int)) from rfl,this];omega) ?_
 refine agy (x:=4) (by have:=hc 240;simp only [ci,Bool.and_eq_true,decide_eq_true_eq];rw [show ((c0:Int)==240)=((c0:Int)==((240:Nat):Int)) from rfl,this];omega) ?_
 refine agy (x:=4) (by simp only [ci,Bool.and_eq_true,decide_eq_true_eq];omega) ?_
 refine agy (x:=4) (by have:=hc 244;simp only [ci,Bool.and_eq_true,decide_eq_true_eq];rw [show ((c0:Int)==244)=((c0:Int)==((244:Nat):Int)) from rfl,this];omega) ?_
 rfl
theorem ar0 (s:List UInt8) (hs:s.length<=9223372036854775000):∀ (m i:Nat),s.length-i<=m->i<=s.length->aba (S211_3step 0) (s,(i:Int))=some (bif decide (ady s i=-1) then .inr () else .inl (ady s i)):=by
 intro m
 induction m with
 | zero=>
  intro i hm hi
  have:¬i<s.length:=by omega
  rw [aeq,if_neg this]
  exact aag (by simp only [S211_3step,S211_3,afl,this,decide_false,cond_false];rfl)
 | succ m ih=>
  intro i hm hi
  by_cases hlt:i<s.length
  ·rw [aeq,if_pos hlt]
   have hz:=a3t s i hlt hs
   have hle:=(aok (s.length-i) (byteAt s i) (byteAt s (i+1)) (byteAt s (i+2)) (byteAt s (i+3)) (by omega)).1
   by_cases h0:sizeAt s i=0
   ·rw [if_pos h0]
    rw [show decide ((i:Int)=-1)=false from decide_eq_false (by omega)]
    exact aag (by simp only [S211_3step,S211_3,afl,hlt,decide_true,cond_true,hz,h0,Option.bind_some];rfl)
   ·rw [if_neg h0]
    rw [aas (x1:=(s,((i+sizeAt s i:Nat):Int)))]
    ·have:sizeAt s i<=s.length-i:=hle
     exact ih _ (by omega) (by omega)
    ·have h1:((sizeAt s i:Int)==(0:Int))=false:=by simp;omega
     have:sizeAt s i<=s.length-i:=hle
     simp only [S211_3step,S211_3,afl,hlt,decide_true,cond_true,hz,Option.bind_some,h1,cond_false,wadd (i:=i) (k:=sizeAt s i) (by omega)]
  ·rw [aeq,if_neg hlt]
   exact aag (by simp only [S211_3step,S211_3,afl,hlt,decide_false,cond_false];rfl)
theorem ax6 (s:List UInt8) (hs:s.length<=9223372036854775000):F211 0 s=some (bad s):=by
 have h:=ar0 s hs s.length 0 (by omega) (by omega)
 unfold F211
 rw [af0,show (0:Int)=((0:Nat):Int) from rfl,h]
 unfold bad
 by_cases hb:ady s 0=-1
 ·simp [hb,sumE]
 ·simp [hb,sumE]
theorem alt (s:List UInt8) (hs:s.length<=9223372036854775000):F150 0 s=some (valid s):=by
 unfold F150
 rw [ax6 s hs];rfl
theorem aut (s:List UInt8):F227 0 s ([239,191,189]:List UInt8)=some (decide ((s.length:Int)≥3)&&(s.take 3==([239,191,189]:List UInt8))):=by
 unfold F227 F257
 have e:((([239,191,189]:List UInt8).length:Nat):Int)=(3:Int):=rfl
 simp only [e]
 by_cases h:(3:Int)<=(s.length:Int)
 ·have h2:decide ((0:Int)<=0/\(0:Int)<=3/\(3:Int)<=(s.length:Int))=true:=by simp;omega
  simp only [h2,imp,ge_iff_le,h,decide_true,cond_true,Option.bind_some,Bool.true_and]
  rfl
 ·simp only [imp,ge_iff_le,h,decide_false,cond_false,Bool.not_false,ao4,cond_true,Option.bind_some,Bool.false_and]
theorem aty (s:List UInt8) (i:Nat) (hi:i<s.length):F166 0 s (i:Int) ((aao s i).1:Int)=some (decide (sizeAt s i=0)):=by
 unfold F166
 have h2:decide ((0:Int)<=(i:Int)/\(i:Int)<=(s.length:Int)/\(s.length:Int)<=(s.length:Int))=true:=by simp;omega
 have h3:=a2z s i (by omega)
 have h4:=aft s i hi
 have hp:=(ak1 (s.length-i) (byteAt s i) (byteAt s (i+1)) (byteAt s (i+2)) (byteAt s (i+3))).1
 by_cases hc:(aao s i).1=65533
 ·have hcb:(((aao s i).1:Int)==(65533:Int))=true:=by simp;omega
  simp only [hcb,h2,imp,cond_true,Int.toNat_natCast,aut,h3,Option.bind_some]
  rw [h4]
  by_cases hf:2<s.length-i/\byteAt s i=239/\byteAt s (i+1)=191/\byteAt s (i+2)=189
  ·simp only [hf,and_self,decide_true,Bool.not_true,not_true_eq_false,and_false,if_false]
   have:(aao s i).2≠0:=by grind [aao]
   simp [this]
  grind
 ·have hcb:(((aao s i).1:Int)==(65533:Int))=false:=by simp;omega
  simp only [hcb,imp,cond_true,cond_false,Bool.not_false,Option.bind_some]
  rw [h4,if_neg (by simp [hc])]
  have:(aao s i).2≠0:=by grind [aao]
  simp [this]
theorem azm (s:List UInt8):∀ (m i:Nat),s.length-i<=m->i<=s.length->∃ y,aba (S318_3step 0) (s,(),s,(i:Int))=some y/\(ady s i=-1->∃ z,y=.inr z)/\(ady s i≠-1->∃ z,y=.inl (ady s i,z)):=by
 intro m
 induction m with
 | zero=>
  intro i hm hi
  have hlt:¬i<s.length:=by omega
  rw [aeq,if_neg hlt]
  refine ⟨_,aag (y:=.inr (s,(i:Int))) ?_,fun _=>⟨_,rfl⟩,fun h=>absurd rfl h⟩
  simp only [S318_3step,S318_3,Int.toNat_natCast,hlt,decide_false,cond_false]
 | succ m ih=>
  intro i hm hi
  by_cases hlt:i<s.length
  ·rw [aeq,if_pos hlt]
   have hw:=aty s i hlt
   have hd:=agh s i
   have h4:=aft s i hlt
   have hle:=(aok (s.length-i) (byteAt s i) (byteAt s (i+1)) (byteAt s (i+2)) (byteAt s (i+3)) (by omega)).1
   by_cases h0:sizeAt s i=0
   ·rw [if_pos h0]
    refine ⟨.inl ((i:Int),s,((i+(aao s i).2:Nat):Int)),aag ?_,fun h=>by omega,fun _=>⟨_,rfl⟩⟩
    simp only [S318_3step,S318_3,Int.toNat_natCast,hlt,decide_true,cond_true,hd,hw,h0,Option.bind_some]
   ·rw [if_neg h0]
    have h5:sizeAt s i=(aao s i).2:=by
     grind
    rw [aas (x1:=(s,(),s,((i+sizeAt s i:Nat):Int)))]
    ·have:sizeAt s i<=s.length-i:=hle
     exact ih _ (by omega) (by omega)
    ·have hz:decide (sizeAt s i=0)=false:=decide_eq_false h0
     rw [hz] at hw
     simp only [S318_3step,S318_3,Int.toNat_natCast,hlt,decide_true,cond_true,hd,hw,cond_false,Option.bind_some,h5]
  grind
theorem bad_eq (s:List UInt8):F318 0 s=some (bad s):=by
 obtain ⟨y,h,h1,h2⟩:=azm s s.length 0 (by omega) (by omega)
 unfold F318
 rw [af0,h]
 unfold bad
 by_cases hb:ady s 0=-1
 ·obtain ⟨z,rfl⟩:=h1 hb
  rw [hb];rfl
 ·obtain ⟨z,rfl⟩:=h2 hb
  rfl
theorem a1i (s:List UInt8):F306 0 s=some (valid s):=by
 unfold F306
 rw [bad_eq s];rfl
end Go.Ab
