/- UTF-8: what the printed functions compute. -/
import Derived.Test.YtcpkdafleaddlaaGreatDoorAbUtf
import Derived.Test.YtcpkdafleaddlaaGreatDoorGenIn
import Derived.Test.YtcpkdafleaddlaaGreatDoorAbPrsP
import Derived.Test.YtcpkdafleaddlaaGreatDoorAbPlain
import Derived.Test.YtcpkdafleaddlaaGreatDoorAbEqL
set_option linter.unusedVariables false
set_option linter.unusedSimpArgs false
set_option linter.unnecessarySimpa false
namespace Go.Ab
open Go
theorem wadd {i k:Nat} (h:i+k<=9223372036854775807):IntKind.wrap .i64 ((i:Int)+(k:Int))=((i+k:Nat):Int):=by rw [<-Int.natCast_add];exact ahx h
theorem ax3 {i:Nat} (h:i+1<=9223372036854775807):IntKind.wrap .i64 ((i:Int)+(1:Int))=((i+1:Nat):Int):=wadd (k:=1) h
theorem wadd2 {i:Nat} (h:i+2<=9223372036854775807):IntKind.wrap .i64 ((i:Int)+(2:Int))=((i+2:Nat):Int):=wadd (k:=2) h
theorem gb {α:Type} (b c:Bool) (k:Bool->Option α):((bif b then some c else some false).bind k)=k (b&&c):=by cases b<;>rfl
theorem gand (b c:Bool):(bif b then (b&&c) else false)=(b&&c):=by cases b<;>rfl
theorem aah {α:Type} (b:Bool) (x:α):(bif b then x else x)=x:=by cases b<;>rfl
theorem ac0 (a b:Nat):decide ((a:Int)<(b:Int))=decide (a<b):=by simp
def betw (s:List UInt8) (i lo hi:Nat):Bool:=decide (i<s.length/\lo<=byteAt s i/\byteAt s i<=hi)
theorem afp (s:List UInt8) (i lo hi:Nat):F320 0 s (i:Int) (lo:Int) (hi:Int)=some (betw s i lo hi):=by
 have e2:((s.getD i 0).toNat:Int)=(byteAt s i:Int):=rfl
 by_cases h:i<s.length
 ·simp only [F320,ac0,aab,h,decide_true,cond_true,imp,Int.toNat_natCast,e2,betw,true_and,ge_iff_le,Int.ofNat_le,Bool.decide_and]
  cases decide (lo<=byteAt s i)<;>rfl
 ·simp only [F320,ac0,aab,h,decide_false,cond_false,cond_true,imp,Bool.not_false,betw,false_and]
def ago (s:List UInt8):Nat->Nat->Bool
 | _,0=>true
 | i,n+1=>betw s i 128 191&&ago s (i+1) n
theorem a07:∀ (m:Nat) (s:List UInt8) (i n k:Nat),n-k=m->k<=n->i+n<=9223372036854775800->abi (S319_3step 0) (s,(i:Int),(n:Int),(k:Int))=some (bif ago s (i+k) (n-k) then .inr () else .inl false):=by
 intro m
 induction m with
 | zero=>
  intro s i n k hm hk hs
  have hkn:k=n:=by omega
  subst hkn
  rw [aac (y:=.inr ())]
  ·simp [ago]
  ·simp [S319_3step,S319_3]
 | succ m ih=>
  intro s i n k hm hk hs
  have hlt:k<n:=by omega
  have hb:F320 0 s ((i+k:Nat):Int) (128:Int) (191:Int)=some (betw s (i+k) 128 191):=afp s (i+k) 128 191
  have e:n-k=(n-(k+1))+1:=by omega
  rw [e,ago]
  cases hc:betw s (i+k) 128 191 with
  | false=>
   rw [aac (y:=.inl false)]
   ·rfl
   ·rw [hc] at hb
    simp only [S319_3step,S319_3,ac0,hlt,decide_true,cond_true,wadd (i:=i) (k:=k) (by omega),hb,Option.bind_some,Bool.not_false]
  | true=>
   rw [aax (x1:=(s,(i:Int),(n:Int),((k+1:Nat):Int)))]
   ·rw [ih s i n (k+1) (by omega) (by omega) hs]
    rfl
   ·rw [hc] at hb
    simp only [S319_3step,S319_3,ac0,hlt,decide_true,cond_true,wadd (i:=i) (k:=k) (by omega),hb,Option.bind_some,Bool.not_true,cond_false,ax3 (i:=k) (by omega)]
theorem ank (s:List UInt8) (i n:Nat) (hs:i+n<=9223372036854775800):F319 0 s (i:Int) (n:Int)=some (ago s i n):=by
 have h:=a07 n s i n 0 (by omega) (by omega) hs
 unfold F319
 rw [aaq]
 have e:((0:Nat):Int)=(0:Int):=rfl
 rw [<-e,h]
 simp only [Nat.add_zero,Nat.sub_zero]
 cases ago s i n<;>rfl
theorem ag9 {c:Bool}{p:Prop} [Decidable p] {rest:Option Int}{x r:Nat} (h:c=true ↔ p) (h2:rest=some (r:Int)):(bif c then some (x:Int) else rest)=some ((if p then x else r:Nat):Int):=by
 by_cases hp:p
 ·rw [h.2 hp];simp [hp]
 ·have:c=false:=by cases c with | false=>rfl | true=>exact absurd (h.1 rfl) hp
  rw [this];simp [hp,h2]
theorem size_eq (s:List UInt8) (i:Nat) (hi:i<s.length) (hs:s.length<=9223372036854775000):F243 0 s (i:Int)=some (sizeAt s i:Int):=by
 have e2:((s.getD i 0).toNat:Int)=(byteAt s i:Int):=rfl
 have t11:F319 0 s ((i+1:Nat):Int) (1:Int)=some (ago s (i+1) 1):=ank s (i+1) 1 (by omega)
 have t12:F319 0 s ((i+1:Nat):Int) (2:Int)=some (ago s (i+1) 2):=ank s (i+1) 2 (by omega)
 have t13:F319 0 s ((i+1:Nat):Int) (3:Int)=some (ago s (i+1) 3):=ank s (i+1) 3 (by omega)
 have t21:F319 0 s ((i+2:Nat):Int) (1:Int)=some (ago s (i+2) 1):=ank s (i+2) 1 (by omega)
 have t22:F319 0 s ((i+2:Nat):Int) (2:Int)=some (ago s (i+2) 2):=ank s (i+2) 2 (by omega)
 have b0:F320 0 s ((i+1:Nat):Int) (160:Int) (191:Int)=some (betw s (i+1) 160 191):=afp s (i+1) 160 191
 have b1:F320 0 s ((i+1:Nat):Int) (128:Int) (159:Int)=some (betw s (i+1) 128 159):=afp s (i+1) 128 159
 have b2:F320 0 s ((i+1:Nat):Int) (144:Int) (191:Int)=some (betw s (i+1) 144 191):=afp s (i+1) 144 191
 have b3:F320 0 s ((i+1:Nat):Int) (128:Int) (143:Int)=some (betw s (i+1) 128 143):=afp s (i+1) 128 143
 unfold F243
 simp only [aab,hi,decide_true,cond_true,Int.toNat_natCast,e2,ax3 (i:=i) (by omega),wadd2 (i:=i) (by omega),t11,t12,t13,t21,t22,b0,b1,b2,b3,gb,gand]
 unfold sizeAt acn
 have nl:∀ k,(i+k<s.length)=(k<s.length-i):=fun k=>propext ⟨fun h=>by omega,fun h=>by omega⟩
 simp only [ago,betw,Bool.and_true,Nat.add_assoc,Nat.reduceAdd,nl,<-Bool.decide_and]
 generalize byteAt s i=c0 at*
 generalize byteAt s (i+1)=c1 at*
 generalize byteAt s (i+2)=c2 at*
 generalize byteAt s (i+3)=c3 at*
 generalize s.length-i=n at*
 clear t11 t12 t13 t21 t22 b0 b1 b2 b3 nl e2
 have hc:∀ (k:Nat),(((c0:Int)==(k:Int))=true ↔ c0=k):=fun k=>by simp;omega
 have hd:∀ (k:Nat),(((c0:Int) != (k:Int))=true ↔ c0≠k):=fun k=>by simp;omega
 have ci:∀ (a b:Bool),((bif a then b else false)=true ↔ a=true/\b=true):=fun a b=>by cases a<;>simp
 refine ag9 (x:=1) (by simp only [decide_eq_true_eq];omega) ?_
 refine ag9 (x:=2) (by simp only [ci,Bool.and_eq_true,decide_eq_true_eq];omega) ?_
 refine ag9 (x:=3) (by have:=hc 224;simp only [ci,Bool.and_eq_true,decide_eq_true_eq];rw [show ((c0:Int)==224)=((c0:Int)==((224:Nat):Int)) from rfl,this];omega) ?_
 refine ag9 (x:=3) (by have:=hc 237;simp only [ci,Bool.and_eq_true,decide_eq_true_eq];rw [show ((c0:Int)==237)=((c0:Int)==((237:Nat):Int)) from rfl,this];omega) ?_
 refine ag9 (x:=3) (by have:=hd 237;simp only [ci,Bool.and_eq_true,decide_eq_true_eq];rw [show ((c0:Int) != 237)=((c0:Int) != ((237:Nat):Int)) from rfl,this];omega) ?_
 refine ag9 (x:=4) (by have:=hc 240;simp only [ci,Bool.and_eq_true,decide_eq_true_eq];rw [show ((c0:Int)==240)=((c0:Int)==((240:Nat):Int)) from rfl,this];omega) ?_
 refine ag9 (x:=4) (by simp only [ci,Bool.and_eq_true,decide_eq_true_eq];omega) ?_
 refine ag9 (x:=4) (by have:=hc 244;simp only [ci,Bool.and_eq_true,decide_eq_true_eq];rw [show ((c0:Int)==244)=((c0:Int)==((244:Nat):Int)) from rfl,this];omega) ?_
 rfl
theorem au9 (s:List UInt8) (hs:s.length<=9223372036854775000):∀ (m i:Nat),s.length-i<=m->i<=s.length->abi (S324_3step 0) (s,(i:Int))=some (bif decide (aep s i=-1) then .inr () else .inl (aep s i)):=by
 intro m
 induction m with
 | zero=>
  intro i hm hi
  have:¬i<s.length:=by omega
  rw [aem,if_neg this]
  exact aac (by simp only [S324_3step,S324_3,ac0,this,decide_false,cond_false];rfl)
 | succ m ih=>
  intro i hm hi
  by_cases hlt:i<s.length
  ·rw [aem,if_pos hlt]
   have hz:=size_eq s i hlt hs
   have hle:=(aq9 (s.length-i) (byteAt s i) (byteAt s (i+1)) (byteAt s (i+2)) (byteAt s (i+3)) (by omega)).1
   by_cases h0:sizeAt s i=0
   ·rw [if_pos h0]
    rw [show decide ((i:Int)=-1)=false from decide_eq_false (by omega)]
    exact aac (by simp only [S324_3step,S324_3,ac0,hlt,decide_true,cond_true,hz,h0,Option.bind_some];rfl)
   ·rw [if_neg h0]
    rw [aax (x1:=(s,((i+sizeAt s i:Nat):Int)))]
    ·have:sizeAt s i<=s.length-i:=hle
     exact ih _ (by omega) (by omega)
    ·have h1:((sizeAt s i:Int)==(0:Int))=false:=by simp;omega
     have:sizeAt s i<=s.length-i:=hle
     simp only [S324_3step,S324_3,ac0,hlt,decide_true,cond_true,hz,Option.bind_some,h1,cond_false,wadd (i:=i) (k:=sizeAt s i) (by omega)]
  ·rw [aem,if_neg hlt]
   exact aac (by simp only [S324_3step,S324_3,ac0,hlt,decide_false,cond_false];rfl)
theorem a3a (s:List UInt8) (hs:s.length<=9223372036854775000):F324 0 s=some (bad s):=by
 have h:=au9 s hs s.length 0 (by omega) (by omega)
 unfold F324
 rw [aaq,show (0:Int)=((0:Nat):Int) from rfl,h]
 unfold bad
 by_cases hb:aep s 0=-1
 ·simp [hb,sumE]
 ·simp [hb,sumE]
theorem an2 (s:List UInt8) (hs:s.length<=9223372036854775000):F259 0 s=some (valid s):=by
 unfold F259
 rw [a3a s hs];rfl
theorem aya (s:List UInt8):F230 0 s ([239,191,189]:List UInt8)=some (decide ((s.length:Int)≥3)&&(s.take 3==([239,191,189]:List UInt8))):=by
 unfold F230 F297
 have e:((([239,191,189]:List UInt8).length:Nat):Int)=(3:Int):=rfl
 simp only [e]
 by_cases h:(3:Int)<=(s.length:Int)
 ·have h2:decide ((0:Int)<=0/\(0:Int)<=3/\(3:Int)<=(s.length:Int))=true:=by simp;omega
  simp only [h2,imp,ge_iff_le,h,decide_true,cond_true,Option.bind_some,Bool.true_and]
  rfl
 ·simp only [imp,ge_iff_le,h,decide_false,cond_false,Bool.not_false,aah,cond_true,Option.bind_some,Bool.false_and]
theorem aw4 (s:List UInt8) (i:Nat) (hi:i<s.length):F310 0 s (i:Int) ((aak s i).1:Int)=some (decide (sizeAt s i=0)):=by
 unfold F310
 have h2:decide ((0:Int)<=(i:Int)/\(i:Int)<=(s.length:Int)/\(s.length:Int)<=(s.length:Int))=true:=by simp;omega
 have h3:=a87 s i (by omega)
 have h4:=af8 s i hi
 have hp:=(ane (s.length-i) (byteAt s i) (byteAt s (i+1)) (byteAt s (i+2)) (byteAt s (i+3))).1
 by_cases hc:(aak s i).1=65533
 ·have hcb:(((aak s i).1:Int)==(65533:Int))=true:=by simp;omega
  simp only [hcb,h2,imp,cond_true,Int.toNat_natCast,aya,h3,Option.bind_some]
  rw [h4]
  by_cases hf:2<s.length-i/\byteAt s i=239/\byteAt s (i+1)=191/\byteAt s (i+2)=189
  ·simp only [hf,and_self,decide_true,Bool.not_true,not_true_eq_false,and_false,if_false]
   have:(aak s i).2≠0:=by unfold aak;omega
   simp [this]
  ·simp only [hf,decide_false,Bool.not_false,hc,not_false_eq_true,and_self,if_true,decide_true]
 ·have hcb:(((aak s i).1:Int)==(65533:Int))=false:=by simp;omega
  simp only [hcb,imp,cond_true,cond_false,Bool.not_false,Option.bind_some]
  rw [h4,if_neg (by simp [hc])]
  have:(aak s i).2≠0:=by unfold aak;omega
  simp [this]
theorem a4g (s:List UInt8):∀ (m i:Nat),s.length-i<=m->i<=s.length->∃ y,abi (S280_3step 0) (s,(),s,(i:Int))=some y/\(aep s i=-1->∃ z,y=.inr z)/\(aep s i≠-1->∃ z,y=.inl (aep s i,z)):=by
 intro m
 induction m with
 | zero=>
  intro i hm hi
  have hlt:¬i<s.length:=by omega
  rw [aem,if_neg hlt]
  refine ⟨_,aac (y:=.inr (s,(i:Int))) ?_,fun _=>⟨_,rfl⟩,fun h=>absurd rfl h⟩
  simp only [S280_3step,S280_3,Int.toNat_natCast,hlt,decide_false,cond_false]
 | succ m ih=>
  intro i hm hi
  by_cases hlt:i<s.length
  ·rw [aem,if_pos hlt]
   have hw:=aw4 s i hlt
   have hd:=ag0 s i
   have h4:=af8 s i hlt
   have hle:=(aq9 (s.length-i) (byteAt s i) (byteAt s (i+1)) (byteAt s (i+2)) (byteAt s (i+3)) (by omega)).1
   by_cases h0:sizeAt s i=0
   ·rw [if_pos h0]
    refine ⟨.inl ((i:Int),s,((i+(aak s i).2:Nat):Int)),aac ?_,fun h=>by omega,fun _=>⟨_,rfl⟩⟩
    simp only [S280_3step,S280_3,Int.toNat_natCast,hlt,decide_true,cond_true,hd,hw,h0,Option.bind_some]
   ·rw [if_neg h0]
    have h5:sizeAt s i=(aak s i).2:=by
     rw [h4] at h0 ⊢
     split
     ·rename_i hc;rw [if_pos hc] at h0;exact absurd rfl h0
     ·rfl
    rw [aax (x1:=(s,(),s,((i+sizeAt s i:Nat):Int)))]
    ·have:sizeAt s i<=s.length-i:=hle
     exact ih _ (by omega) (by omega)
    ·have hz:decide (sizeAt s i=0)=false:=decide_eq_false h0
     rw [hz] at hw
     simp only [S280_3step,S280_3,Int.toNat_natCast,hlt,decide_true,cond_true,hd,hw,cond_false,Option.bind_some,h5]
  ·rw [aem,if_neg hlt]
   refine ⟨_,aac (y:=.inr (s,(i:Int))) ?_,fun _=>⟨_,rfl⟩,fun h=>absurd rfl h⟩
   simp only [S280_3step,S280_3,Int.toNat_natCast,hlt,decide_false,cond_false]
theorem bad_eq (s:List UInt8):F280 0 s=some (bad s):=by
 obtain ⟨y,h,h1,h2⟩:=a4g s s.length 0 (by omega) (by omega)
 unfold F280
 rw [aaq,h]
 unfold bad
 by_cases hb:aep s 0=-1
 ·obtain ⟨z,rfl⟩:=h1 hb
  rw [hb];rfl
 ·obtain ⟨z,rfl⟩:=h2 hb
  rfl
theorem axe (s:List UInt8):F185 0 s=some (valid s):=by
 unfold F185
 rw [bad_eq s];rfl
end Go.Ab
namespace Go.Ab
open Go
theorem a1s {α:Type} (f:α->Bool) (d:α):∀ (xs pre:List α),allF (fun i=>f ((pre++xs).getD i d)) pre.length xs.length=xs.all f:=by
 intro xs
 induction xs with
 | nil=>intro pre;rfl
 | cons x r ih=>
  intro pre
  simp only [List.length_cons,allF,List.all_cons]
  have e1:(pre++x::r).getD pre.length d=x:=by simp [List.getD]
  rw [e1]
  have:=ih (pre++[x])
  rw [show pre++x::r=pre++[x]++r by simp,<-this]
  simp
theorem aug {α:Type} (f:α->Bool) (d:α) (xs:List α):allF (fun i=>f (xs.getD i d)) 0 xs.length=xs.all f:=a1s f d xs []
def lowB (b:Nat):Bool:=decide (97<=b/\b<=122)
def capB (b:Nat):Bool:=decide (65<=b/\b<=90)
def digB (b:Nat):Bool:=decide (48<=b/\b<=57)
def letB (b:UInt8):Bool:=lowB b.toNat||capB b.toNat
def alnB (b:UInt8):Bool:=lowB b.toNat||capB b.toNat||digB b.toNat||decide (b.toNat=95)
theorem a9z {b:UInt8} (h:letB b=true):alnB b=true:=by
 unfold letB at h;unfold alnB;rw [h];rfl
def agy (s:List UInt8):Bool:=
 match s with
 | []=>false
 | c::r=>decide (r.length+1<=40)&&letB c&&r.all alnB
def apq (s:List UInt8):Bool:=decide (s.length<=120)&&(ads 46 s).all agy
def alj (s:List UInt8):Bool:=
 match s with
 | []=>apq []
 | c::r=>bif c==46 then apq r else apq (c::r)
end Go.Ab
namespace Go.Ab
open Go
set_option maxRecDepth 100000
theorem aj5 {α:Type}{l:List α}{i:Nat} (h:i<l.length) (d:α):l.getD i d∈l:=by rw [afx h];exact List.getElem_mem h
theorem ab2 {i:Nat} (h:i<=9223372036854775000):IntKind.wrap .i64 ((i:Int)+1)=((i+1:Nat):Int):=ax3 (by omega)
theorem geI (a b:Nat):decide ((a:Int)≥(b:Int))=decide (b<=a):=by rw [decide_eq_decide];omega
theorem leI (a b:Nat):decide ((a:Int)<=(b:Int))=decide (a<=b):=by rw [decide_eq_decide];omega
theorem neB (a b:Nat):((a:Int) != (b:Int))=!decide (a=b):=by
 by_cases h:a=b
 ·subst h;simp
 ·have:(a:Int)≠(b:Int):=by omega
  simp [h,this]
theorem eqB (a b:Nat):((a:Int)==(b:Int))=decide (a=b):=by
 by_cases h:a=b
 ·subst h;simp
 ·have:(a:Int)≠(b:Int):=by omega
  simp [h,this]
theorem ba3 (b c:UInt8):decide (b.toNat=c.toNat)=(b==c):=by
 by_cases h:b=c
 ·subst h;simp
 ·have:b.toNat≠c.toNat:=fun e=>h (UInt8.toNat_inj.1 e)
  rw [decide_eq_false this];symm;simpa using h
def clsN (b:Nat):Int:=bif lowB b then 1 else bif capB b then 2 else bif digB b then 3 else bif decide (b=95) then 4 else 0
theorem aw3 (b:Nat):F285 0 (b:Int)=some (clsN b):=by
 unfold F285 clsN
 rw [show (97:Int)=((97:Nat):Int) from rfl,show (122:Int)=((122:Nat):Int) from rfl,show (65:Int)=((65:Nat):Int) from rfl,show (90:Int)=((90:Nat):Int) from rfl,show (48:Int)=((48:Nat):Int) from rfl,show (57:Int)=((57:Nat):Int) from rfl,show (95:Int)=((95:Nat):Int) from rfl]
 simp only [geI,leI,eqB,lowB,capB,digB,Bool.decide_and]
 cases decide (97<=b)<;>cases decide (b<=122)<;>cases decide (65<=b)<;>cases decide (b<=90)<;>cases decide (48<=b)<;>cases decide (b<=57)<;>cases decide (b=95)<;>rfl
theorem a7r {b:Nat} (h:128<=b):clsN b=0:=by
 have h1:lowB b=false:=decide_eq_false (by omega)
 have h2:capB b=false:=decide_eq_false (by omega)
 have h3:digB b=false:=decide_eq_false (by omega)
 have h4:decide (b=95)=false:=decide_eq_false (by omega)
 simp only [clsN,h1,h2,h3,h4,cond_false]
theorem cls0 (b:UInt8):(clsN b.toNat==0)=!alnB b:=by
 unfold clsN alnB
 cases lowB b.toNat<;>cases capB b.toNat<;>cases digB b.toNat<;>cases decide (b.toNat=95)<;>rfl
theorem a96 (b:UInt8):(bif (clsN b.toNat != 1) then (clsN b.toNat != 2) else false)=!letB b:=by
 unfold clsN letB
 cases lowB b.toNat<;>cases capB b.toNat<;>cases digB b.toNat<;>cases decide (b.toNat=95)<;>rfl
def okAt (i:Nat) (b:UInt8):Bool:=alnB b&&(!decide (i=0)||letB b)
def apk:Nat->List UInt8->Bool
 | _,[]=>true
 | i,b::r=>okAt i b&&apk (i+1) r
theorem ayy:∀ (r:List UInt8) (i:Nat),apk (i+1) r=r.all alnB:=by
 intro r
 induction r with
 | nil=>intro i;rfl
 | cons b r ih=>
  intro i
  rw [apk,ih,List.all_cons,okAt,decide_eq_false (by omega)]
  simp
theorem a1k (s:List UInt8):∀ (m i:Nat),s.length-i<=m->i<=s.length->∃ z,abi (S202_3step 0) (s,(),s,(i:Int))=some (bif apk i (s.drop i) then .inr (s,z) else .inl (false,z)):=by
 intro m
 induction m with
 | zero=>
  intro i hm hi
  have hlt:¬i<s.length:=by omega
  rw [List.drop_eq_nil_of_le (by omega)]
  exact ⟨_,aac (by simp only [S202_3step,S202_3,Int.toNat_natCast,hlt,decide_false,cond_false];rfl)⟩
 | succ m ih=>
  intro i hm hi
  by_cases hlt:i<s.length
  ·have e0:((i:Int)==(0:Int))=decide (i=0):=eqB i 0
   rw [aau hlt 0,apk]
   by_cases ha:byteAt s i<128
   ·have hd:=ae6 s i ha
    have hc:F285 0 (byteAt s i:Int)=some (clsN (s.getD i 0).toNat):=aw3 _
    cases hok:okAt i (s.getD i 0) with
    | true=>
     obtain ⟨z,hz⟩:=ih (i+1) (by omega) (by omega)
     refine ⟨z,?_⟩
     rw [Bool.true_and,<-hz]
     refine aax ?_
     unfold okAt at hok
     simp only [S202_3step,S202_3,Int.toNat_natCast,hlt,decide_true,cond_true,ag0,hd,hc,Option.bind_some,cls0,e0]
     cases h1:alnB (s.getD i 0) with
     | false=>rw [h1] at hok;cases hok
     | true=>
      rw [h1] at hok
      cases h2:decide (i=0) with
      | false=>rfl
      | true=>
       rw [h2] at hok
       have h3:=a96 (s.getD i 0)
       have h4:letB (s.getD i 0)=true:=by simpa using hok
       rw [h4] at h3
       simp only [Bool.not_true,cond_false,cond_true]
       rw [h3]
       rfl
    | false=>
     refine ⟨(s,((i+1:Nat):Int)),aac ?_⟩
     unfold okAt at hok
     simp only [S202_3step,S202_3,Int.toNat_natCast,hlt,decide_true,cond_true,ag0,hd,hc,Option.bind_some,cls0,e0,Bool.false_and,cond_false]
     cases h1:alnB (s.getD i 0) with
     | false=>rfl
     | true=>
      rw [h1] at hok
      cases h2:decide (i=0) with
      | false=>rw [h2] at hok;simp at hok
      | true=>
       rw [h2] at hok
       have h3:=a96 (s.getD i 0)
       have h4:letB (s.getD i 0)=false:=by simpa using hok
       rw [h4] at h3
       simp only [Bool.not_true,cond_false,cond_true]
       rw [h3]
       rfl
   ·have hh:=al9 s i (by omega)
    have hc:=aw3 (aak s i).1
    rw [a7r hh] at hc
    have hok:okAt i (s.getD i 0)=false:=by
     unfold okAt alnB lowB capB digB
     have:byteAt s i=(s.getD i 0).toNat:=rfl
     rw [<-this,decide_eq_false (by omega),decide_eq_false (by omega),decide_eq_false (by omega),decide_eq_false (by omega)]
     rfl
    refine ⟨(s,((i+(aak s i).2:Nat):Int)),aac ?_⟩
    rw [hok]
    simp only [S202_3step,S202_3,Int.toNat_natCast,hlt,decide_true,cond_true,ag0,hc,Option.bind_some,Bool.false_and,cond_false]
    rfl
  ·rw [List.drop_eq_nil_of_le (by omega)]
   exact ⟨_,aac (by simp only [S202_3step,S202_3,Int.toNat_natCast,hlt,decide_false,cond_false];rfl)⟩
theorem ahc (s:List UInt8):F202 0 s=some (agy s):=by
 obtain ⟨z,hz⟩:=a1k s s.length 0 (by omega) (by omega)
 unfold F202
 rw [aaq,hz,List.drop_zero]
 cases s with
 | nil=>rfl
 | cons c r=>
  rw [apk,ayy]
  have e1:decide (((c::r).length:Int)≥(1:Int))=true:=decide_eq_true (by simp only [List.length_cons];omega)
  have e2:decide (((c::r).length:Int)<=(40:Int))=decide (r.length+1<=40):=leI _ 40
  have e3:okAt 0 c=letB c:=by
   unfold okAt
   cases h:letB c with
   | true=>rw [a9z h];rfl
   | false=>simp
  rw [e3,agy]
  cases letB c<;>cases r.all alnB<;>simp only [Bool.and_false,Bool.and_true,Bool.false_and,Bool.true_and,cond_true,cond_false,Option.bind_some,abl,aa3,e1,e2]
theorem a2e (s:List UInt8) (xs:List (List UInt8)) (hx:xs.length<=9223372036854770000):abi (S140_3step 0) (s,xs.map PV.str,((xs.map PV.str).length:Int),((0:Nat):Int))=some (bif xs.all agy then .inr s else .inl false):=by
 have h:=ai9 (step:=S140_3step 0) (fun i=>(s,xs.map PV.str,((xs.map PV.str).length:Int),(i:Int))) (xs.map PV.str).length (fun i=>agy ((xs.map PV.str).getD i .bad).asStr) (Sum.inl false:Bool⊕List UInt8) (Sum.inr s) (fun i hi=>by
  have hi':i<xs.length:=by simpa using hi
  simp only [S140_3step,S140_3,a8d,aab,hi,decide_true,cond_true,Int.toNat_natCast,ahc,Option.bind_some,ab2 (i:=i) (by omega)]
  cases agy ((xs.map PV.str).getD i .bad).asStr<;>rfl) (by
  simp only [S140_3step,S140_3,a8d,Nat.lt_irrefl,decide_false,cond_false]) (xs.map PV.str).length 0 (by omega)
 rw [aug (fun x:PV=>agy x.asStr),List.all_map] at h
 exact h
theorem apf (c:UInt8):∀ s,(ads c s).length<=s.length+1:=by
 intro s
 induction s with
 | nil=>simp [ads]
 | cons b r ih=>
  simp only [ads]
  cases (b==c)
  ·simp only [cond_false]
   split
   ·rename_i h;rw [h] at ih;simp at ih ⊢;omega
   ·simp
  ·simp;omega
theorem atg (s:List UInt8) (hs:s.length<=1048576):ama 0 s ([46]:List UInt8)=some ((ads 46 s).map PV.str):=by
 unfold ama
 have:Nat.blt s.length 4294967281=true:=by rw [Nat.blt_eq];omega
 simp only [this,cond_true]
theorem ai5 (s:List UInt8) (hs:s.length<=1048576):F140 0 s=some (apq s):=by
 have hl:=apf 46 s
 unfold F140 apq
 have e:decide ((s.length:Int)<=(120:Int))=decide (s.length<=120):=leI _ 120
 rw [atg s hs,Option.bind_some,aaq,show (0:Int)=((0:Nat):Int) from rfl,a2e s _ (by omega)]
 cases (ads 46 s).all agy
 ·simp [sumE]
 ·simp [sumE,e]
noncomputable def alh (s:List UInt8):Bool:=(F294 0 s).getD false
theorem axo (s:List UInt8):F294 0 s=some (alh s):=by
 unfold alh
 simp only [F294,a6k,Option.getD_some]
theorem a1v (s:List UInt8):F200 0 s=some (alh s):=by
 rw [<-axo];rfl
noncomputable def a5a (s:List UInt8):Bool:=agy s&&!alh s
noncomputable def defP (s:List UInt8):Bool:=apq s&&(ads 46 s).all fun x=>!alh x
end Go.Ab
namespace Go.Ab
open Go
set_option maxRecDepth 100000
theorem nbeq (a b:Nat):((a:Int)==(b:Int))=decide (a=b):=by
 by_cases h:a=b
 ·simp [h]
 ·simp [h];omega
theorem agu {n:Nat} (h:n<=4611686018427387904):decide (n<=aa2)=true:=decide_eq_true h
theorem ax0:((List.range 256).all fun b=>F311 0 (b:Int)==some (92::120::hex2 b))=true:=by kernel_rfl
theorem a1r {b:Nat} (h:b<256):F311 0 (b:Int)=some (92::120::hex2 b):=by
 have:=List.all_eq_true.1 ax0 b (List.mem_range.2 h)
 simpa using this
theorem a5t:((List.range 256).all fun b=>F244 0 (b:Int)==some (hex2 b))=true:=by kernel_rfl
theorem a9n {b:Nat} (h:b<256):F244 0 (b:Int)=some (hex2 b):=by
 have:=List.all_eq_true.1 a5t b (List.mem_range.2 h)
 simpa using this
theorem a8r (s:List UInt8) (i:Nat) (hi:i<s.length):F240 0 s (i:Int) ((aak s i).1:Int)=some (ag4 s i):=by
 unfold F240 ag4
 have hw:=aw4 s i hi
 have hb:((s.getD ((i:Int)).toNat 0).toNat:Int)=(byteAt s i:Int):=rfl
 have he:=a1r (ab7 s i)
 have hr:aaa (i:Int) s.length=true:=by rw [aab,decide_eq_true hi]
 have k34:(((aak s i).1:Int)==(34:Int))=decide ((aak s i).1=34):=nbeq _ 34
 have k92:(((aak s i).1:Int)==(92:Int))=decide ((aak s i).1=92):=nbeq _ 92
 have k10:(((aak s i).1:Int)==(10:Int))=decide ((aak s i).1=10):=nbeq _ 10
 have k9:(((aak s i).1:Int)==(9:Int))=decide ((aak s i).1=9):=nbeq _ 9
 have k13:(((aak s i).1:Int)==(13:Int))=decide ((aak s i).1=13):=nbeq _ 13
 have k127:(((aak s i).1:Int)==(127:Int))=decide ((aak s i).1=127):=nbeq _ 127
 have k32:decide (((aak s i).1:Int)<(32:Int))=decide ((aak s i).1<32):=ac0 _ 32
 simp only [k34,k92,k10,k9,k13,k127,k32,hw,hr,hb,he,cond_true,Option.bind_some]
 by_cases ha:byteAt s i<128
 ·rw [ae6 s i ha,ahy s i ha]
  have hw1:=ai3 s i hi (by rw [ahy s i ha];decide)
  rw [ae6 s i ha,ahy s i ha] at hw1
  simp only [hw1]
  by_cases c1:byteAt s i=34
  ·simp [c1]
  by_cases c2:byteAt s i=92
  ·simp [c2]
  by_cases c3:byteAt s i=10
  ·simp [c3]
  by_cases c4:byteAt s i=9
  ·simp [c4]
  by_cases c5:byteAt s i=13
  ·simp [c5]
  simp only [c1,c2,c3,c4,c5,decide_false,cond_false,if_false]
  by_cases c6:byteAt s i<32
  ·simp [c6]
  ·by_cases c7:byteAt s i=127
   ·simp [c7]
   ·simp [c6,c7]
 ·have hh:=al9 s i (by omega)
  have d1:decide ((aak s i).1=34)=false:=decide_eq_false (by omega)
  have d2:decide ((aak s i).1=92)=false:=decide_eq_false (by omega)
  have d3:decide ((aak s i).1=10)=false:=decide_eq_false (by omega)
  have d4:decide ((aak s i).1=9)=false:=decide_eq_false (by omega)
  have d5:decide ((aak s i).1=13)=false:=decide_eq_false (by omega)
  have d6:decide ((aak s i).1=127)=false:=decide_eq_false (by omega)
  have d7:decide ((aak s i).1<32)=false:=decide_eq_false (by omega)
  have e1:¬byteAt s i=34:=by omega
  have e2:¬byteAt s i=92:=by omega
  have e3:¬byteAt s i=10:=by omega
  have e4:¬byteAt s i=9:=by omega
  have e5:¬byteAt s i=13:=by omega
  have e6:¬byteAt s i=127:=by omega
  have e7:¬byteAt s i<32:=by omega
  simp only [d1,d2,d3,d4,d5,d6,d7,e1,e2,e3,e4,e5,e6,e7,cond_false,Bool.not_false,cond_true,Option.bind_some,if_false,false_or]
  by_cases h0:sizeAt s i=0
  ·simp [h0]
  ·simp only [h0,decide_false,cond_false,if_false]
   rw [ai3 s i hi h0]
theorem ax5 (s:List UInt8):∀ (m i:Nat) (acc:List UInt8),s.length-i<=m->i<=s.length->acc.length+4*(s.length-i)<=140737488355328->
 ∃ z,abi (S134_5step 0) (s,(),(),acc,s,(i:Int))=some ((),acc++aar s i,s,z):=by
 intro m
 induction m with
 | zero=>
  intro i acc hm hi hb
  have hlt:¬i<s.length:=by omega
  rw [aar,if_neg hlt]
  refine ⟨(i:Int),aac ?_⟩
  simp only [S134_5step,S134_5,Int.toNat_natCast,hlt,decide_false,cond_false,List.append_nil]
 | succ m ih=>
  intro i acc hm hi hb
  by_cases hlt:i<s.length
  ·have hp:=amo s i hlt
   have hl:=aj8 s i hlt
   have hl1:=aes s i
   obtain ⟨z,hz⟩:=ih (i+abr s i) (acc++ag4 s i) (by omega) (by omega) (by rw [List.length_append];omega)
   refine ⟨z,?_⟩
   rw [aar,if_pos hlt,<-List.append_assoc,<-hz]
   refine aax ?_
   have hw:Nat.ble (acc.length+(ag4 s i).length) 140737488355328=true:=by rw [Nat.ble_eq];omega
   simp only [S134_5step,S134_5,Int.toNat_natCast,hlt,decide_true,cond_true,ag0,a8r s i hlt,a6z s i hlt,Option.bind_some,abz,hw]
  ·have hlt':¬i<s.length:=hlt
   rw [aar,if_neg hlt]
   refine ⟨(i:Int),aac ?_⟩
   simp only [S134_5step,S134_5,Int.toNat_natCast,hlt,decide_false,cond_false,List.append_nil]
theorem a35 (s:List UInt8):(aa6 s).length<=4*s.length+2:=by
 have:=agc s s.length 0 (by omega)
 simp [aa6];omega
theorem aqu (s:List UInt8) (hs:s.length<=1048576):F134 0 s=some (aa6 s):=by
 obtain ⟨z,hz⟩:=ax5 s s.length 0 [34] (by omega) (by omega) (by simp;omega)
 have hq:=agc s s.length 0 (by omega)
 unfold F134
 have w1:abz 0 ([34]:List UInt8) []=some (1,.nilIface,[34]):=rfl
 have w2:Nat.ble (([34]++aar s 0).length+1) 140737488355328=true:=by rw [Nat.ble_eq];simp;omega
 simp only [w1,Option.bind_some,aaq,hz]
 simp only [abz,List.length_cons,List.length_nil,Nat.zero_add,w2,cond_true,Option.bind_some,auf]
 simp [aa6]
theorem arn (s:List UInt8) (hs:s.length<=9223372036854775000) (i:Nat) (acc:List UInt8) (hi:i<s.length) (hb:acc.length<=4611686018427380000):
 S139_4step 0 (s,acc,(i:Int))=some (.inl (s,acc++ag4 s i,((i+abr s i:Nat):Int))):=by
 have hz:=amb s i hi
 have hbb:((s.getD i 0).toNat:Int)=(byteAt s i:Int):=rfl
 have hr:aaa (i:Int) s.length=true:=by rw [aab,decide_eq_true hi]
 have k34:((byteAt s i:Int)==(34:Int))=decide (byteAt s i=34):=nbeq _ 34
 have k92:((byteAt s i:Int)==(92:Int))=decide (byteAt s i=92):=nbeq _ 92
 have k10:((byteAt s i:Int)==(10:Int))=decide (byteAt s i=10):=nbeq _ 10
 have k9:((byteAt s i:Int)==(9:Int))=decide (byteAt s i=9):=nbeq _ 9
 have k13:((byteAt s i:Int)==(13:Int))=decide (byteAt s i=13):=nbeq _ 13
 have k127:((byteAt s i:Int)==(127:Int))=decide (byteAt s i=127):=nbeq _ 127
 have k32:decide ((byteAt s i:Int)<(32:Int))=decide (byteAt s i<32):=ac0 _ 32
 have k0:((sizeAt s i:Int)==(0:Int))=decide (sizeAt s i=0):=nbeq _ 0
 have w1:IntKind.wrap .i64 ((i:Int)+(1:Int))=((i+1:Nat):Int):=ax3 (by omega)
 have w2:IntKind.wrap .i64 ((i:Int)+(sizeAt s i:Int))=((i+sizeAt s i:Nat):Int):=wadd (by omega)
 have hsl:decide ((0:Int)<=(i:Int)/\(i:Int)<=((i+sizeAt s i:Nat):Int)/\((i+sizeAt s i:Nat):Int)<=(s.length:Int))=true:=decide_eq_true (by omega)
 have htk:(s.take (i+sizeAt s i)).drop i=(s.drop i).take (sizeAt s i):=by rw [List.drop_take];congr 1;omega
 have hst:(bif decide (sizeAt s i=0) then ((i+1:Nat):Int) else ((i+sizeAt s i:Nat):Int))=((i+abr s i:Nat):Int):=by
  unfold abr
  by_cases h:sizeAt s i=0
  ·simp [h]
  ·simp [h]
 have hfin:∀ t:List UInt8,(bif decide (sizeAt s i=0) then some (Sum.inl (s,t,((i+1:Nat):Int))) else some (Sum.inl (s,t,((i+sizeAt s i:Nat):Int))))=(some (.inl (s,t,((i+abr s i:Nat):Int))):Option (((List UInt8)×(List UInt8)×Int)⊕(((List UInt8))))):=by
  intro t
  rw [<-hst]
  cases decide (sizeAt s i=0)<;>rfl
 simp only [S139_4step,S139_4,ac0,hi,decide_true,cond_true,size_eq s i hi hs,Option.bind_some,hr,hbb,k34,k92,k10,k9,k13,k127,k32,k0,w1,w2,hsl,Int.toNat_natCast,htk,a9n (ab7 s i)]
 unfold ag4
 have l2:∀ a b:UInt8,decide (acc.length+[a,b].length<=aa2)=true:=fun a b=>agu (by simp;omega)
 have l4:∀ a b c d:UInt8,decide ((acc++[a,b]).length+[c,d].length<=aa2)=true:=fun a b c d=>agu (by simp;omega)
 have ls:decide (acc.length+((s.drop i).take (sizeAt s i)).length<=aa2)=true:=agu (by simp;omega)
 have l5:decide (acc.length+2+2<=aa2)=true:=agu (by omega)
 simp only [l2,ls,hex2,l4,cond_true,hfin]
 by_cases c1:byteAt s i=34
 ·simp [c1]
 by_cases c2:byteAt s i=92
 ·simp [c2]
 by_cases c3:byteAt s i=10
 ·simp [c3]
 by_cases c4:byteAt s i=9
 ·simp [c4]
 by_cases c5:byteAt s i=13
 ·simp [c5]
 simp only [c1,c2,c3,c4,c5,decide_false,cond_false,if_false]
 by_cases c6:byteAt s i<32
 ·simp [c6,l5]
 ·by_cases c7:byteAt s i=127
  ·simp [c7,l5]
  ·by_cases c8:sizeAt s i=0
   ·simp [c6,c7,c8,l5]
   ·simp [c6,c7,c8]
theorem apz (s:List UInt8) (hs:s.length<=1048576):∀ (m i:Nat) (acc:List UInt8),s.length-i<=m->i<=s.length->acc.length+4*(s.length-i)<=140737488355328->
 abi (S139_4step 0) (s,acc,(i:Int))=some (acc++aar s i):=by
 intro m
 induction m with
 | zero=>
  intro i acc hm hi hb
  have hlt:¬i<s.length:=by omega
  rw [aar,if_neg hlt]
  refine aac ?_
  simp only [S139_4step,S139_4,ac0,hlt,decide_false,cond_false,List.append_nil]
 | succ m ih=>
  intro i acc hm hi hb
  by_cases hlt:i<s.length
  ·have hp:=amo s i hlt
   have hl:=aj8 s i hlt
   have hl1:=aes s i
   rw [aar,if_pos hlt,<-List.append_assoc,<-ih (i+abr s i) (acc++ag4 s i) (by omega) (by omega) (by rw [List.length_append];omega)]
   exact aax (arn s (by omega) i acc hlt (by omega))
  ·rw [aar,if_neg hlt]
   refine aac ?_
   simp only [S139_4step,S139_4,ac0,hlt,decide_false,cond_false,List.append_nil]
theorem amg (s:List UInt8) (hs:s.length<=1048576):F139 0 s=some (aa6 s):=by
 have hz:=apz s hs s.length 0 [34] (by omega) (by omega) (by simp;omega)
 have hq:=agc s s.length 0 (by omega)
 unfold F139
 rw [aaq,show (0:Int)=((0:Nat):Int) from rfl,hz,Option.bind_some,agu (by simp;omega)]
 simp [aa6]
end Go.Ab
namespace Go.Ab
open Go
theorem bneI {a b:Int} (h:a≠b):(a != b)=true:=by simp [h]
theorem beqI {a b:Int} (h:a≠b):(a==b)=false:=by simp [h]
def afb:List UInt8:=[100,101,112,114,101,99,97,116,101,100]
def alx:List UInt8:=[115,101,99,114,101,116]
def ae8:List UInt8:=[105,100,101,109,112,111,116,101,110,116]
def a4j:List UInt8:=[100,111,99]
def ard:List UInt8:=[97,108,105,97,115]
def aqh:List UInt8:=[114,111,117,116,101]
def aqc:List UInt8:=[111,119,110,101,114]
def aqj:List UInt8:=[115,105,110,99,101]
def aqd:List UInt8:=[117,110,116,105,108]
def al6:List UInt8:=[108,101,110,103,116,104]
def ajj:List UInt8:=[116,105,109,101,111,117,116]
def a5u:List UInt8:=[109,105,110]
def a43:List UInt8:=[109,97,120]
def ac9:List (List UInt8):=[afb,alx,ae8,a4j,ard,aqh,aqc,aqj,aqd,al6,ajj,a5u,a43]
noncomputable def aae (name:List UInt8):Int:=(F152 0 name).getD 0
theorem avl {name:List UInt8} (h:name∉ac9):(name==afb)=false/\(name==alx)=false/\(name==ae8)=false/\(name==a4j)=false/\(name==ard)=false/\(name==aqh)=false/\(name==aqc)=false/\
 (name==aqj)=false/\(name==aqd)=false/\(name==al6)=false/\(name==ajj)=false/\(name==a5u)=false/\(name==a43)=false:=by
 simp only [ac9,List.mem_cons,List.not_mem_nil,or_false,not_or] at h
 simp only [beq_eq_false_iff_ne,ne_eq]
 exact h
theorem aif {name:List UInt8} (h:name∉ac9):aae name=0:=by
 obtain ⟨h1,h2,h3,h4,h5,h6,h7,h8,h9,h10,h11,h12,h13⟩:=avl h
 unfold afb at h1
 unfold alx at h2
 unfold ae8 at h3
 unfold a4j at h4
 unfold ard at h5
 unfold aqh at h6
 unfold aqc at h7
 unfold aqj at h8
 unfold aqd at h9
 unfold al6 at h10
 unfold ajj at h11
 unfold a5u at h12
 unfold a43 at h13
 simp only [aae,F152,h1,h2,h3,h4,h5,h6,h7,h8,h9,h10,h11,h12,h13,cond_false,Option.getD_some]
noncomputable def aql:List (PV×PV):=(F145 0).getD []
theorem a6s:F145 0=some aql:=by kernel_rfl
theorem avd:aql=[(.str afb,.agg [.int 1,.int 126]),(.str a4j,.agg [.int 7,.int 126]),(.str ard,.agg [.int 7,.int 84]),(.str aqj,.agg [.int 4,.int 84]),(.str aqd,.agg [.int 4,.int 84]),(.str a5u,.agg [.int 3,.int 4]),(.str a43,.agg [.int 3,.int 4]),
 (.str al6,.agg [.int 4,.int 4]),(.str alx,.agg [.int 1,.int 4]),(.str ae8,.agg [.int 1,.int 64]),(.str ajj,.agg [.int 4,.int 64]),(.str aqh,.agg [.int 7,.int 64]),(.str aqc,.agg [.int 7,.int 34])]:=by kernel_rfl
theorem ar1 {name:List UInt8} (h:name∉ac9):PV.mget aql (.str name)=none:=by
 obtain ⟨h1,h2,h3,h4,h5,h6,h7,h8,h9,h10,h11,h12,h13⟩:=avl h
 rw [avd]
 simp only [PV.mget,List.find?,akf,h1,h2,h3,h4,h5,h6,h7,h8,h9,h10,h11,h12,h13,Option.map_none]
theorem a91 (name:List UInt8):F71 0 name=some (aae name):=by
 by_cases h:name∈ac9
 ·simp only [ac9,List.mem_cons,List.not_mem_nil,or_false] at h
  rcases h with rfl | rfl | rfl | rfl | rfl | rfl | rfl | rfl | rfl | rfl | rfl | rfl | rfl
  all_goals (refine Eq.trans (b:=_) ?_ rfl;kernel_rfl)
 ·rw [aif h]
  unfold F71
  rw [a6s,Option.bind_some,ar1 h]
  rfl
def amy (v:PV):Int:=(v.fld 0).asInt
def aef (v:PV):Int:=(v.fld 1).asInt
def ae3 (v:PV):List UInt8:=(v.fld 2).asStr
def vLists (v:PV):Nat:=(v.fld 3).asList.length+(v.fld 4).asList.length+(v.fld 5).asList.length+(v.fld 6).asList.length
def aw9 (v:PV):Prop:=vLists v<=1048576/\(ae3 v).length<=1048576/\0<=aef v/\aef v<18446744073709551616
def ak7 (k:Int):Bool:=decide (1<=k/\k<=9)
def adj (k:Int):Bool:=k==7||k==8
def abt (k bits:Int):Bool:=
 if k=1 then decide (bits<=1) else if k=2 then decide (-2147483648<=IntKind.wrap .i64 bits/\IntKind.wrap .i64 bits<=2147483647) else if k=4 then decide (bits<4294967296) else if k=9 then decide (bits<2147483648) else true
def ay0 (k:Int) (v:PV):Bool:=
 ak7 k&&(amy v==k)&&decide (vLists v=0)&&(if adj k then (aef v==0)&&decide ((ae3 v).length<=4096)&&((k==8)||valid (ae3 v)) else (ae3 v==[])&&abt k (aef v))
theorem baf (a b c d:List PV):(bif (bif (bif ((a.length:Int)==(0:Int)) then ((b.length:Int)==(0:Int)) else false) then ((c.length:Int)==(0:Int)) else false) then ((d.length:Int)==(0:Int)) else false)=decide (a.length+b.length+c.length+d.length=0):=by
 cases a<;>cases b<;>cases c<;>cases d<;>simp<;>omega
theorem avu (k:Int) (v:PV) (hs:aw9 v):F153 0 k v=some (ay0 k v):=by
 have hv:F259 0 (ae3 v)=some (valid (ae3 v)):=an2 _ (by have:=hs.2.1;omega)
 have e0:(v.fld 0).asInt=amy v:=rfl
 have e1:(v.fld 1).asInt=aef v:=rfl
 have e2:(v.fld 2).asStr=ae3 v:=rfl
 have i1:(bif decide (k≥(1:Int)) then decide (k<=(9:Int)) else false)=ak7 k:=by
  unfold ak7
  by_cases h:k≥1<;>simp [h]<;>omega
 have i2:(bif (k==(7:Int)) then true else (k==(8:Int)))=adj k:=by
  unfold adj;cases (k==7)<;>rfl
 unfold F153 F256 F257 F258
 simp only [Option.bind_some,baf,i1,i2,e0,e1,e2,hv,gb]
 unfold ay0
 have eL:(v.fld 3).asList.length+(v.fld 4).asList.length+(v.fld 5).asList.length+(v.fld 6).asList.length=vLists v:=rfl
 simp only [eL]
 cases h1:ak7 k
 ·simp
 cases h2:(amy v==k)
 ·have:(amy v != k)=true:=by simp [bne,h2]
  simp [this]
 have h2':(amy v != k)=false:=by simp [bne,h2]
 simp only [h2',Bool.not_true,cond_false,Bool.not_false,Bool.true_and,cond_true]
 cases h3:decide (vLists v=0)
 ·simp
 simp only [Bool.not_true,cond_false,Bool.true_and]
 cases h4:adj k
 ·simp only [cond_false,Bool.false_eq_true,if_false]
  cases h5:(ae3 v==[])
  ·simp
  simp only [Bool.not_true,cond_false,Bool.true_and]
  unfold abt
  by_cases k1:k=1
  ·subst k1;simp
  have k1':(k==1)=false:=by simp [k1]
  simp only [k1',cond_false,if_neg k1]
  by_cases k2:k=2
  ·subst k2
   simp only [beq_self_eq_true,cond_true,if_true,ge_iff_le,Bool.decide_and]
   cases decide (-2147483648<=IntKind.wrap .i64 (aef v))<;>rfl
  have k2':(k==2)=false:=by simp [k2]
  simp only [k2',cond_false,if_neg k2]
  by_cases k4:k=4
  ·subst k4;simp
  have k4':(k==4)=false:=by simp [k4]
  simp only [k4',cond_false,if_neg k4]
  by_cases k9:k=9
  ·subst k9;simp
  have k9':(k==9)=false:=by simp [k9]
  simp only [k9',cond_false,if_neg k9]
 ·simp only [cond_true,if_true]
  have hl:decide (((ae3 v).length:Int)<=4096)=decide ((ae3 v).length<=4096):=by simp;omega
  simp only [hl]
  cases (aef v==0)<;>cases decide ((ae3 v).length<=4096)<;>cases (k==8)<;>simp
theorem a58 (k:Int) (v:PV) (hs:aw9 v):F146 0 k v=some (ay0 k v):=by
 have hv:F185 0 (ae3 v)=some (valid (ae3 v)):=axe _
 have e0:(v.fld 0).asInt=amy v:=rfl
 have e1:(v.fld 1).asInt=aef v:=rfl
 have e2:(v.fld 2).asStr=ae3 v:=rfl
 have i1:(bif decide (k≥(1:Int)) then decide (k<=(9:Int)) else false)=ak7 k:=by
  unfold ak7
  by_cases h:k≥1<;>simp [h]<;>omega
 have eL:(v.fld 3).asList.length+(v.fld 4).asList.length+(v.fld 5).asList.length+(v.fld 6).asList.length=vLists v:=rfl
 have hL:=hs.1
 have w1:IntKind.wrap .i64 (((v.fld 3).asList.length:Int)+((v.fld 4).asList.length:Int))=(((v.fld 3).asList.length+(v.fld 4).asList.length:Nat):Int):=wadd (by unfold vLists at hL;omega)
 have w2:IntKind.wrap .i64 ((((v.fld 3).asList.length+(v.fld 4).asList.length:Nat):Int)+((v.fld 5).asList.length:Int))=(((v.fld 3).asList.length+(v.fld 4).asList.length+(v.fld 5).asList.length:Nat):Int):=wadd (by unfold vLists at hL;omega)
 have w3:IntKind.wrap .i64 ((((v.fld 3).asList.length+(v.fld 4).asList.length+(v.fld 5).asList.length:Nat):Int)+((v.fld 6).asList.length:Int))=(((v.fld 3).asList.length+(v.fld 4).asList.length+(v.fld 5).asList.length+(v.fld 6).asList.length:Nat):Int):=wadd (by unfold vLists at hL;omega)
 have tk:∀ k:Int,(bif (k==(7:Int)) then true else (k==(8:Int)))=adj k:=fun k=>by
  unfold adj;cases (k==7)<;>rfl
 unfold F146 F248 F249 F250 F307
 simp only [Option.bind_some,i1,tk,e0,e1,e2,hv,gb,w1,w2,w3,eL]
 have hrange:(bif (k==(1:Int)) then some (decide (aef v<=1)) else bif (k==(2:Int)) then some (bif decide (IntKind.wrap .i64 (aef v)≥-2147483648) then decide (IntKind.wrap .i64 (aef v)<=2147483647) else false) else
  bif (k==(9:Int)) then some (decide (aef v<=2147483647)) else bif (k==(4:Int)) then some (decide (aef v<=4294967295)) else some true)=some (abt k (aef v)):=by
  unfold abt
  by_cases k1:k=1
  ·subst k1;simp
  have k1':(k==1)=false:=by simp [k1]
  simp only [k1',cond_false,if_neg k1]
  by_cases k2:k=2
  ·subst k2
   simp only [beq_self_eq_true,cond_true,if_true,ge_iff_le,Bool.decide_and]
   cases decide (-2147483648<=IntKind.wrap .i64 (aef v))<;>rfl
  have k2':(k==2)=false:=by simp [k2]
  simp only [k2',cond_false,if_neg k2]
  by_cases k9:k=9
  ·subst k9
   have:decide (aef v<=2147483647)=decide (aef v<2147483648):=by rw [decide_eq_decide];omega
   simp [this]
  have k9':(k==9)=false:=by simp [k9]
  simp only [k9',cond_false,if_neg k9]
  by_cases k4:k=4
  ·subst k4
   have:decide (aef v<=4294967295)=decide (aef v<4294967296):=by rw [decide_eq_decide];omega
   simp [this]
  have k4':(k==4)=false:=by simp [k4]
  simp only [k4',cond_false,if_neg k4]
 rw [hrange]
 unfold ay0
 cases h1:ak7 k
 ·simp
 cases h2:(amy v==k)
 ·have:(amy v != k)=true:=by simp [bne,h2]
  simp [this]
 have h2':(amy v != k)=false:=by simp [bne,h2]
 have h2e:amy v=k:=by simpa using h2
 rw [h2e]
 have h2k:(k != k)=false:=by simp
 simp only [h2k,Bool.not_true,cond_false,Bool.not_false,Bool.true_and,cond_true]
 by_cases h3:vLists v=0
 ·have h3':decide ((vLists v:Int)>0)=false:=by simp;omega
  simp only [h3',cond_false,h3,decide_true,Bool.true_and]
  have hl:decide (((ae3 v).length:Int)>4096)=!decide ((ae3 v).length<=4096):=by
   by_cases q:(ae3 v).length<=4096
   ·simp [q];omega
   ·simp [q];omega
  cases h4:adj k
  ·simp only [cond_false,Bool.false_eq_true,if_false,Option.bind_some]
   have k7:(k != 7)=true:=by
    unfold adj at h4;simp at h4;simp [h4.1]
   simp only [k7,cond_true]
   cases h5:(ae3 v==[])
   ·simp
   ·have:ae3 v=[]:=by simpa using h5
    simp only [hl,this]
    cases abt k (aef v)<;>simp
  ·simp only [cond_true,if_true,Option.bind_some]
   have hr:abt k (aef v)=true:=by
    unfold adj at h4;simp at h4
    unfold abt
    rcases h4 with rfl | rfl<;>simp
   simp only [hr,hl]
   have k78:k=7∨k=8:=by unfold adj at h4;simpa using h4
   rcases k78 with rfl | rfl
   ·cases (aef v==0)<;>cases decide ((ae3 v).length<=4096)<;>simp
   ·cases (aef v==0)<;>cases decide ((ae3 v).length<=4096)<;>simp
 ·have h3':decide ((vLists v:Int)>0)=true:=by simp;omega
  simp only [h3',cond_true,Option.bind_some,h3,decide_false,Bool.not_false,Bool.not_true,cond_false,Bool.false_and]
end Go.Ab
namespace Go.Ab
open Go
set_option maxRecDepth 100000
theorem a5l:∀ (f u:Nat),(decF f u).length<=f:=by
 intro f
 induction f with
 | zero=>intro u;simp [decF]
 | succ f ih=>
  intro u
  unfold decF
  cases Nat.ble u 9 with
  | true=>simp
  | false=>have:=ih (u / 10);simp;omega
theorem ap8 (u:Nat):(decB u).length<=20:=a5l 20 u
end Go.Ab
namespace Go.Ab
open Go
set_option maxRecDepth 100000
theorem azo:((List.range 16).all fun d=>(([48,49,50,51,52,53,54,55,56,57,97,98,99,100,101,102,103,104,105,106,107,108,109,110,111,112,113,114,115,116,117,118,119,120,121,122]:List UInt8).getD d 0)==hexd d)=true:=by kernel_rfl
theorem a7x {d:Nat} (h:d<16):(([48,49,50,51,52,53,54,55,56,57,97,98,99,100,101,102,103,104,105,106,107,108,109,110,111,112,113,114,115,116,117,118,119,120,121,122]:List UInt8).getD d 0)=hexd d:=by
 have:=List.all_eq_true.1 azo d (List.mem_range.2 h)
 simpa using this
theorem ahe (b:UInt8):aan (PV.int (b.toNat:Int))=b:=by
 show UInt8.ofNat ((b.toNat:Int)).toNat=b
 rw [Int.toNat_natCast,UInt8.ofNat_toNat]
theorem axd {α:Type} (l:List α) (i:Nat) (x:α) (h:i<l.length):(l.set i x).drop i=x::l.drop (i+1):=by
 rw [List.drop_set,if_neg (Nat.lt_irrefl i),Nat.sub_self,List.drop_eq_getElem_cons h]
 rfl
theorem a2m:∀ (k u i:Nat) (ps:List PV),u<16^(k+1)->u<18446744073709551616->k+1<=i->i<=65->ps.length=65->
 ∃ (u' i':Nat) (ps':List PV),abi (S315_12step 0) ([],(u:Int),false,false,[],([]:List UInt8),(),(i:Int),(4:Int),(16:Int),(15:Int),PV.agg ps)=some ([],(u':Int),false,false,[],([]:List UInt8),(),(i':Int),PV.agg ps')/\
  u'<16/\1<=i'/\i'<=65/\ps'.length=65/\hexd u'::(ps'.drop i').map aan=hexF (k+1) u++(ps.drop i).map aan:=by
 intro k
 induction k with
 | zero=>
  intro u i ps hu h64 hi hi2 hl
  have h16:u<16:=by simpa using hu
  have hd:decide ((u:Int)≥(16:Int))=false:=decide_eq_false (by omega)
  refine ⟨u,i,ps,aac ?_,h16,hi,hi2,hl,?_⟩
  ·simp only [S315_12step,S315_12,hd,cond_false]
  ·rw [hexF,if_pos h16];rfl
 | succ k ih=>
  intro u i ps hu h64 hi hi2 hl
  by_cases h16:u<16
  ·have hd:decide ((u:Int)≥(16:Int))=false:=decide_eq_false (by omega)
   refine ⟨u,i,ps,aac ?_,h16,by omega,hi2,hl,?_⟩
   ·simp only [S315_12step,S315_12,hd,cond_false]
   ·rw [hexF,if_pos h16];rfl
  ·have hd:decide ((u:Int)≥(16:Int))=true:=decide_eq_true (by omega)
   have hm:u%16<16:=Nat.mod_lt _ (by decide)
   obtain ⟨u',i',ps',h1,h2,h3,h4,h5,h6⟩:=ih (u / 16) (i-1) (ps.set (i-1) (PV.int ((hexd (u%16)).toNat:Int))) (by rw [Nat.pow_succ] at hu;omega) (by omega) (by omega) (by omega) (by simp [hl])
   refine ⟨u',i',ps',?_,h2,h3,h4,h5,?_⟩
   ·rw [<-h1]
    refine aax ?_
    have hw:IntKind.wrap .i64 ((i:Int)-(1:Int))=((i-1:Nat):Int):=by
     rw [show (i:Int)-1=((i-1:Nat):Int) by omega];exact ahx (by omega)
    have hb:af0 .and .u64 (u:Int) (15:Int)=((u%16:Nat):Int):=by
     have:=ai4 u 15 h64 (by decide)
     rw [show u &&& 15=u%16 from Nat.and_two_pow_sub_one_eq_mod u 4] at this
     exact this
    have hr1:aaa ((u%16:Nat):Int) (([48,49,50,51,52,53,54,55,56,57,97,98,99,100,101,102,103,104,105,106,107,108,109,110,111,112,113,114,115,116,117,118,119,120,121,122]:List UInt8).length)=true:=by
     rw [aab];exact decide_eq_true (Nat.lt_of_lt_of_le hm (by decide))
    have hr2:aaa ((i-1:Nat):Int) 65=true:=by rw [aab];exact decide_eq_true (by omega)
    have h04:decide ((0:Int)<=(4:Int))=true:=rfl
    have hdiv:(u:Int).fdiv (2^(min (4:Int).toNat (IntKind.bits .u64)))=((u / 16:Nat):Int):=by
     show (u:Int).fdiv 16=_
     rw [Int.fdiv_eq_ediv_of_nonneg _ (by decide)];rfl
    simp only [S315_12step,S315_12,hd,cond_true,hw,hb,hr1,hr2,h04,hdiv,Int.toNat_natCast,a7x hm]
    rfl
   ·rw [h6,show hexF (k+1+1) u=hexF (k+1) (u / 16)++[hexd (u%16)] by rw [hexF,if_neg h16],List.append_assoc]
    congr 1
    rw [axd _ _ _ (by omega),show i-1+1=i by omega,List.map_cons,ahe]
    rfl
def a0o (y81:((List PV)×Int×Bool×Bool×(List PV)×(List UInt8)×Unit×Int×PV)):Option ((List PV)×(List UInt8)):=
 let x83:=IntKind.wrap .i64 (y81.2.2.2.2.2.2.2.1-(1:Int))
 let x84:=y81.2.1
 bif aaa x84 (([48,49,50,51,52,53,54,55,56,57,97,98,99,100,101,102,103,104,105,106,107,108,109,110,111,112,113,114,115,116,117,118,119,120,121,122]:List UInt8).length) then
 let x85:=((([48,49,50,51,52,53,54,55,56,57,97,98,99,100,101,102,103,104,105,106,107,108,109,110,111,112,113,114,115,116,117,118,119,120,121,122]:List UInt8).getD x84.toNat 0).toNat:Int)
 bif aaa x83 65 then
 bif y81.2.2.1 then
  let x87:=IntKind.wrap .i64 (x83-(1:Int))
  bif aaa x87 65 then
  bif y81.2.2.2.1 then
   bif decide (0<=x87/\x87<65/\x87<=(65:Int)/\(65:Int)<=65) then
   none
   else none
  else
   bif decide (0<=x87/\x87<65/\x87<=(65:Int)/\(65:Int)<=65) then
   let x90:=(((PV.agg ((PV.agg (y81.2.2.2.2.2.2.2.2.parts.set x83.toNat (PV.int x85))).parts.set x87.toNat (PV.int (45:Int)))).parts.drop x87.toNat).take ((65:Int).toNat-x87.toNat)).map aan
   some (y81.2.2.2.2.1,x90)
   else none
  else none
 else
  bif y81.2.2.2.1 then
   bif decide (0<=x83/\x83<65/\x83<=(65:Int)/\(65:Int)<=65) then
   none
   else none
  else
   bif decide (0<=x83/\x83<65/\x83<=(65:Int)/\(65:Int)<=65) then
   let x93:=(((PV.agg (y81.2.2.2.2.2.2.2.2.parts.set x83.toNat (PV.int x85))).parts.drop x83.toNat).take ((65:Int).toNat-x83.toNat)).map aan
   some (y81.2.2.2.2.1,x93)
   else none
 else none
 else none
theorem a2a (u:Int):F315 0 [] u 16 false false=(abi (S315_12step 0) ([],u,false,false,[],([]:List UInt8),(),(65:Int),(4:Int),(16:Int),(15:Int),PV.agg (List.replicate 65 (PV.int (0:Int))))).bind a0o:=by kernel_rfl
theorem fmt16 (u:Nat) (hu:u<18446744073709551616):Lfmt 0 (u:Int) (16:Int)=some (hexF 16 u):=by
 obtain ⟨u',i',ps',h1,h2,h3,h4,h5,h6⟩:=a2m 15 u 65 (List.replicate 65 (PV.int (0:Int))) (by omega) hu (by omega) (by omega) (by simp)
 have e:Lfmt 0 (u:Int) (16:Int)=(F315 0 [] (u:Int) 16 false false).bind fun y=>some y.2:=rfl
 rw [e,a2a,show (65:Int)=((65:Nat):Int) from rfl,h1,Option.bind_some]
 have hw:IntKind.wrap .i64 ((i':Int)-(1:Int))=((i' - 1:Nat):Int):=by
  rw [show (i':Int)-1=((i' - 1:Nat):Int) by omega];exact ahx (by omega)
 have hr1:aaa ((u':Nat):Int) (([48,49,50,51,52,53,54,55,56,57,97,98,99,100,101,102,103,104,105,106,107,108,109,110,111,112,113,114,115,116,117,118,119,120,121,122]:List UInt8).length)=true:=by
  rw [aab];exact decide_eq_true (Nat.lt_of_lt_of_le h2 (by decide))
 have hr2:aaa ((i' - 1:Nat):Int) 65=true:=by rw [aab];exact decide_eq_true (by omega)
 have hc:decide ((0:Int)<=((i' - 1:Nat):Int)/\((i' - 1:Nat):Int)<65/\((i' - 1:Nat):Int)<=(65:Int)/\(65:Int)<=65)=true:=decide_eq_true (by omega)
 have hstr:(((PV.agg (ps'.set (i' - 1) (PV.int ((hexd u').toNat:Int)))).parts.drop (i' - 1)).take ((65:Int).toNat-(i' - 1))).map aan=hexF 16 u:=by
  show (((ps'.set (i' - 1) (PV.int ((hexd u').toNat:Int))).drop (i' - 1)).take (65-(i' - 1))).map aan=_
  rw [List.take_of_length_le (by simp;omega),axd _ _ _ (by omega),show i' - 1+1=i' by omega,List.map_cons,ahe,h6]
  simp
 unfold a0o
 simp only [hw,hr1,hr2,hc,cond_true,cond_false,Int.toNat_natCast,a7x h2,PV.parts] at hstr ⊢
 rw [hstr]
 rfl
theorem a1z (u:Nat) (hu:u<18446744073709551616):F253 0 (u:Int)=some (adi u):=by
 have h1:af0 .and .u64 (u:Int) (9218868437227405312:Int)=((u / 4503599627370496%2048*4503599627370496:Nat):Int):=by
  have:=ai4 u 9218868437227405312 hu (by decide)
  rw [a6g] at this;exact this
 have h2:af0 .and .u64 (u:Int) (4503599627370495:Int)=((u%4503599627370496:Nat):Int):=by
  have:=ai4 u 4503599627370495 hu (by decide)
  rw [a5e] at this;exact this
 have c1:(((u / 4503599627370496%2048*4503599627370496:Nat):Int)==(9218868437227405312:Int))=decide (u / 4503599627370496%2048=2047):=by
  refine (nbeq _ 9218868437227405312).trans ?_
  rw [decide_eq_decide];omega
 have c2:(((u / 4503599627370496%2048*4503599627370496:Nat):Int)==(0:Int))=decide (u / 4503599627370496%2048=0):=by
  refine (nbeq _ 0).trans ?_
  rw [decide_eq_decide];omega
 have c3:(((u%4503599627370496:Nat):Int)==(0:Int))=decide (u%4503599627370496=0):=nbeq _ 0
 unfold F253 adi
 simp only [h1,h2,c1,c2,c3,bne]
 by_cases d1:u / 4503599627370496%2048=2047
 ·have d2:¬u / 4503599627370496%2048=0:=by omega
  by_cases d3:u%4503599627370496=0
  ·rw [if_neg (by omega),if_pos (by omega)];simp [d1,d3]
  ·rw [if_pos (by omega)];simp [d1,d3]
 ·by_cases d2:u / 4503599627370496%2048=0
  ·by_cases d3:u%4503599627370496=0
   ·rw [if_neg (by omega),if_neg (by omega),if_pos (by omega)];simp [d2,d3]
   ·rw [if_neg (by omega),if_neg (by omega),if_neg (by omega),if_pos (by omega)];simp [d2,d3]
  ·rw [if_neg (by omega),if_neg (by omega),if_neg (by omega),if_neg (by omega)];simp [d1,d2]
theorem auy (u:Nat):F155 0 (u:Int)=some (adi u):=by
 have h1:(u:Int).tmod (9223372036854775808:Int)=((u%9223372036854775808:Nat):Int):=rfl
 have c1:decide (((u%9223372036854775808:Nat):Int)>(9218868437227405312:Int))=decide (9218868437227405312<u%9223372036854775808):=by rw [decide_eq_decide];omega
 have c2:(((u%9223372036854775808:Nat):Int)==(9218868437227405312:Int))=decide (u%9223372036854775808=9218868437227405312):=nbeq _ 9218868437227405312
 have c3:(((u%9223372036854775808:Nat):Int)==(0:Int))=decide (u%9223372036854775808=0):=nbeq _ 0
 have c4:decide (((u%9223372036854775808:Nat):Int)<(4503599627370496:Int))=decide (u%9223372036854775808<4503599627370496):=by rw [decide_eq_decide];omega
 unfold F155 adi
 simp only [h1,c1,c2,c3,c4]
 by_cases d1:9218868437227405312<u%9223372036854775808
 ·simp [d1]
 ·by_cases d2:u%9223372036854775808=9218868437227405312
  ·simp [d2]
  ·by_cases d3:u%9223372036854775808=0
   ·simp [d3]
   ·by_cases d4:u%9223372036854775808<4503599627370496
    ·simp [d1,d2,d3,d4]
    ·simp [d1,d2,d3,d4]
def aff (u:Nat):List UInt8:=
 bif adi u==0 then [110,97,110] else bif adi u==1 then (bif decide (9223372036854775808<=u) then [45,105,110,102] else [105,110,102]) else [48,120]++hexN 16 u
theorem avi (n:Nat):Lib.repeatL ([48]:List UInt8) n=List.replicate n 48:=by
 induction n with
 | zero=>rfl
 | succ n ih=>rw [List.replicate_succ,<-ih];rfl
theorem atw (u:Nat) (hu:u<18446744073709551616):F149 0 (u:Int)=some (aff u):=by
 obtain ⟨hl,hp⟩:(hexF 16 u).length<=16/\List.replicate (16-(hexF 16 u).length) 48++hexF 16 u=hexN 16 u:=a5q 15 u (by omega)
 have hs:af0 .and .u64 (u:Int) (9223372036854775808:Int)=((u / 9223372036854775808*9223372036854775808:Nat):Int):=by
  have:=ai4 u 9223372036854775808 hu (by decide)
  rw [a5j u hu] at this;exact this
 have hs2:(((u / 9223372036854775808*9223372036854775808:Nat):Int) != (0:Int))=decide (9223372036854775808<=u):=by
  rw [show (((u / 9223372036854775808*9223372036854775808:Nat):Int) != (0:Int))=!(((u / 9223372036854775808*9223372036854775808:Nat):Int)==((0:Nat):Int)) from rfl,nbeq,<-decide_not,decide_eq_decide];omega
 have hw:IntKind.wrap .i64 ((16:Int)-((hexF 16 u).length:Int))=((16-(hexF 16 u).length:Nat):Int):=by
  rw [show (16:Int)-((hexF 16 u).length:Int)=((16-(hexF 16 u).length:Nat):Int) by omega];exact ahx (by omega)
 have hr:akp 0 ([48]:List UInt8) ((16-(hexF 16 u).length:Nat):Int)=some (List.replicate (16-(hexF 16 u).length) 48):=by
  unfold akp
  rw [decide_eq_true (by omega),decide_eq_true (by omega),Int.toNat_natCast,show Nat.ble (([48]:List UInt8).length*(16-(hexF 16 u).length)) 140737488355328=true by rw [Nat.ble_eq];simp;omega,avi]
  rfl
 have g1:decide (([48,120]:List UInt8).length+(List.replicate (16-(hexF 16 u).length) (48:UInt8)).length<=aa2)=true:=agu (by simp;omega)
 have g2:decide ((([48,120]:List UInt8)++List.replicate (16-(hexF 16 u).length) (48:UInt8)).length+(hexF 16 u).length<=aa2)=true:=agu (by simp;omega)
 unfold F149 aff
 simp only [a1z u hu,Option.bind_some,hs,hs2,F135,fmt16 u hu,hw,hr,g1,g2,List.append_assoc,hp]
 cases adi u==0<;>cases adi u==1<;>cases decide (9223372036854775808<=u)<;>rfl
end Go.Ab
namespace Go.Ab
open Go
set_option maxRecDepth 100000
end Go.Ab
namespace Go.Ab
open Go
set_option maxRecDepth 100000
theorem amw (s:List UInt8) (hs:s.length<=1048576):((F141 0 s ([46]:List UInt8)).bind fun y1=>(F140 0 y1).bind fun y2=>some y2)=some (alj s):=by
 have ht:F141 0 s ([46]:List UInt8)=some (match s with | []=>[] | c::r=>bif c==46 then r else c::r):=by
  unfold F141 F245 F297
  cases s with
  | nil=>rfl
  | cons c r=>
   have e1:decide (((c::r).length:Int)≥(([46]:List UInt8).length:Int))=true:=decide_eq_true (by simp only [List.length_cons,List.length_nil];omega)
   have e2:decide ((0:Int)<=(0:Int)/\(0:Int)<=(([46]:List UInt8).length:Int)/\(([46]:List UInt8).length:Int)<=((c::r).length:Int))=true:=decide_eq_true (by simp only [List.length_cons,List.length_nil];omega)
   have e3:decide ((0:Int)<=(([46]:List UInt8).length:Int)/\(([46]:List UInt8).length:Int)<=((c::r).length:Int)/\((c::r).length:Int)<=((c::r).length:Int))=true:=decide_eq_true (by simp only [List.length_cons,List.length_nil];omega)
   have e4:(((c::r).take (([46]:List UInt8).length:Int).toNat).drop (0:Int).toNat==([46]:List UInt8))=(c==46):=by
    show ([c]==([46]:List UInt8))=_
    simp
   have e5:(((c::r).take ((c::r).length:Int).toNat).drop (([46]:List UInt8).length:Int).toNat)=r:=by
    show ((c::r).take (c::r).length).drop 1=r
    rw [List.take_length];rfl
   simp only [e1,e2,e3,e4,e5,imp,cond_true,Option.bind_some]
   cases (c==46)<;>rfl
 rw [ht,Option.bind_some]
 cases s with
 | nil=>rw [ai5 _ (by simp)];rfl
 | cons c r=>
  have hl:(bif c==46 then r else c::r).length<=1048576:=by
   simp only [List.length_cons] at hs
   cases (c==46)
   ·simp only [cond_false,List.length_cons];omega
   ·simp only [cond_true];omega
  simp only [ai5 _ hl,Option.bind_some,alj]
  cases (c==46)<;>rfl
end Go.Ab
namespace Go.Ab
open Go
set_option maxRecDepth 100000
end Go.Ab
namespace Go.Ab
open Go
set_option maxRecDepth 100000
theorem a7a:((List.range 256).all fun b=>(List.range 256).all fun d=>!(hex2 b==hex2 d)||b==d)=true:=by kernel_rfl
theorem a6a {b d:Nat} (hb:b<256) (hd:d<256) (h:hex2 b=hex2 d):b=d:=by
 have:=List.all_eq_true.1 a7a b (List.mem_range.2 hb)
 have:=List.all_eq_true.1 this d (List.mem_range.2 hd)
 rw [h] at this
 simpa using this
def al7 (b:UInt8) (c:List UInt8):Prop:=(c=[b]/\b≠34/\b≠92)∨(b=34/\c=[92,34])∨(b=92/\c=[92,92])∨(b=10/\c=[92,110])∨(b=9/\c=[92,116])∨(b=13/\c=[92,114])∨c=92::120::hex2 b.toNat
theorem a64 {b d:UInt8}{c e s t:List UInt8} (h:al7 b c) (k:al7 d e) (q:c++s=e++t):b=d/\s=t:=by
 have hx:∀ {b d:UInt8}{s t:List UInt8},(92::120::hex2 b.toNat)++s=(92::120::hex2 d.toNat)++t->b=d/\s=t:=by
  intro b d s t q
  simp only [List.cons_append,List.cons.injEq,true_and] at q
  have e1:hex2 b.toNat=hex2 d.toNat:=by
   have:=congrArg (List.take 2) q
   simpa [hex2] using this
  have e2:s=t:=by
   have:=congrArg (List.drop 2) q
   simpa [hex2] using this
  exact ⟨UInt8.toNat_inj.1 (a6a b.toNat_lt d.toNat_lt e1),e2⟩
 rcases h with ⟨rfl,h1,h2⟩ | ⟨rfl,rfl⟩ | ⟨rfl,rfl⟩ | ⟨rfl,rfl⟩ | ⟨rfl,rfl⟩ | ⟨rfl,rfl⟩ | rfl<;>
  rcases k with ⟨rfl,k1,k2⟩ | ⟨rfl,rfl⟩ | ⟨rfl,rfl⟩ | ⟨rfl,rfl⟩ | ⟨rfl,rfl⟩ | ⟨rfl,rfl⟩ | rfl<;>
  first
   | exact hx q
   | (simp only [List.cons_append,List.nil_append,List.cons.injEq,true_and] at q
      first
       | exact ⟨q.1,q.2⟩
       | exact ⟨rfl,q⟩
       | exact absurd q.1 (by assumption)
       | exact absurd q.1.symm (by assumption)
       | exact absurd q.1 (by decide)
       | exact absurd q (by decide))
inductive Codes:List UInt8->List UInt8->Prop
 | nil:Codes [] []
 | cons {b:UInt8}{c r q:List UInt8}:al7 b c->Codes r q->Codes (b::r) (c++q)
theorem ati {b:UInt8}{c s:List UInt8} (h:al7 b c) {t:List UInt8} (q:c++s=34::t):False:=by
 rcases h with ⟨rfl,h1,h2⟩ | ⟨rfl,rfl⟩ | ⟨rfl,rfl⟩ | ⟨rfl,rfl⟩ | ⟨rfl,rfl⟩ | ⟨rfl,rfl⟩ | rfl
 ·simp only [List.cons_append,List.nil_append,List.cons.injEq] at q;exact h1 q.1
 all_goals (simp only [List.cons_append,List.nil_append,List.cons.injEq] at q;exact absurd q.1 (by decide))
theorem a3x {a x:List UInt8} (h:Codes a x):∀ {b y s t:List UInt8},Codes b y->x++34::s=y++34::t->a=b/\s=t:=by
 induction h with
 | nil=>
  intro b y s t k q
  cases k with
  | nil=>simp at q;exact ⟨rfl,q⟩
  | cons hc hr=>rw [List.nil_append,List.append_assoc] at q;exact (ati hc q.symm).elim
 | cons hc hr ih=>
  intro b y s t k q
  cases k with
  | nil=>rw [List.nil_append,List.append_assoc] at q;exact (ati hc q).elim
  | cons kc kr=>
   rw [List.append_assoc,List.append_assoc] at q
   obtain ⟨rfl,q⟩:=a64 hc kc q
   obtain ⟨rfl,q⟩:=ih kr q
   exact ⟨rfl,q⟩
theorem a1m:∀ (l:List UInt8) {r q:List UInt8},(∀ b,b∈l->b≠34/\b≠92)->Codes r q->Codes (l++r) (l++q):=by
 intro l
 induction l with
 | nil=>intro r q _ h;exact h
 | cons b l ih=>
  intro r q hl h
  have h1:=hl b (by simp)
  show Codes (b::(l++r)) ([b]++(l++q))
  exact .cons (Or.inl ⟨rfl,h1.1,h1.2⟩) (ih (fun x hx=>hl x (by simp [hx])) h)
theorem a3g {s:List UInt8}{i:Nat}{k:UInt8} (h:byteAt s i≠k.toNat):s.getD i 0≠k:=fun e=>h (by unfold byteAt;rw [e])
theorem ams {s:List UInt8}{i:Nat}{k:UInt8} (h:byteAt s i=k.toNat):s.getD i 0=k:=UInt8.toNat_inj.1 h
theorem aet (s:List UInt8):∀ (m i:Nat),s.length-i<=m->Codes (s.drop i) (aar s i):=by
 intro m
 induction m with
 | zero=>
  intro i hm
  rw [List.drop_eq_nil_of_le (by omega),aar,if_neg (by omega)]
  exact .nil
 | succ m ih=>
  intro i hm
  by_cases hi:i<s.length
  ·have hp:=aes s i
   have hr:=ih (i+abr s i) (by omega)
   rw [aar,if_pos hi]
   unfold ag4
   have one:sizeAt s i<=1->abr s i=1:=fun h=>by unfold abr;split<;>omega
   have lone:∀ c:List UInt8,byteAt s i<128∨sizeAt s i=0->al7 (s.getD i 0) c->Codes (s.drop i) (c++aar s (i+abr s i)):=fun c hz hc=>by
    have h1:abr s i=1:=one (by rcases hz with h | h;· rw [ahy s i h];exact Nat.le_refl _
                               ·omega)
    rw [h1] at hr ⊢
    rw [aau hi 0]
    exact .cons hc hr
   by_cases c1:byteAt s i=34
   ·rw [if_pos c1];exact lone _ (Or.inl (by omega)) (Or.inr (Or.inl ⟨ams c1,rfl⟩))
   rw [if_neg c1]
   by_cases c2:byteAt s i=92
   ·rw [if_pos c2];exact lone _ (Or.inl (by omega)) (Or.inr (Or.inr (Or.inl ⟨ams c2,rfl⟩)))
   rw [if_neg c2]
   by_cases c3:byteAt s i=10
   ·rw [if_pos c3];exact lone _ (Or.inl (by omega)) (Or.inr (Or.inr (Or.inr (Or.inl ⟨ams c3,rfl⟩))))
   rw [if_neg c3]
   by_cases c4:byteAt s i=9
   ·rw [if_pos c4];exact lone _ (Or.inl (by omega)) (Or.inr (Or.inr (Or.inr (Or.inr (Or.inl ⟨ams c4,rfl⟩)))))
   rw [if_neg c4]
   by_cases c5:byteAt s i=13
   ·rw [if_pos c5];exact lone _ (Or.inl (by omega)) (Or.inr (Or.inr (Or.inr (Or.inr (Or.inr (Or.inl ⟨ams c5,rfl⟩))))))
   rw [if_neg c5]
   by_cases c6:byteAt s i<32∨byteAt s i=127∨sizeAt s i=0
   ·rw [if_pos c6]
    exact lone _ (by omega) (Or.inr (Or.inr (Or.inr (Or.inr (Or.inr (Or.inr rfl))))))
   ·rw [if_neg c6]
    have h0:sizeAt s i≠0:=by omega
    have hst:abr s i=sizeAt s i:=by unfold abr;rw [if_neg h0]
    rw [hst] at hr ⊢
    have e:s.drop i=(s.drop i).take (sizeAt s i)++s.drop (i+sizeAt s i):=by rw [<-List.drop_drop,List.take_append_drop]
    rw [show Codes (s.drop i) _=Codes ((s.drop i).take (sizeAt s i)++s.drop (i+sizeAt s i)) _ by rw [<-e]]
    refine a1m _ (fun b hb=>?_) hr
    obtain ⟨j,hj,rfl⟩:=List.mem_iff_getElem.1 hb
    have hjs:j<sizeAt s i:=by rw [List.length_take] at hj;omega
    have hjl:i+j<s.length:=by rw [List.length_take,List.length_drop] at hj;omega
    have ej:((s.drop i).take (sizeAt s i))[j]=s.getD (i+j) 0:=by
     rw [List.getElem_take,List.getElem_drop,afx hjl]
    rw [ej]
    have big:byteAt s (i+j)≠34/\byteAt s (i+j)≠92:=by
     have q0:byteAt s (i+0)=byteAt s i:=rfl
     rcases anr (s.length-i) (byteAt s i) (byteAt s (i+1)) (byteAt s (i+2)) (byteAt s (i+3)) (by omega) with h | ⟨h,c⟩ | ⟨h,c⟩ | ⟨h,c⟩ | ⟨h,c⟩
     ·exact absurd h h0
     ·have h:sizeAt s i=1:=h
      have:j=0:=by omega
      subst this;omega
     ·have h:sizeAt s i=2:=h
      have:j=0∨j=1:=by omega
      rcases this with rfl | rfl<;>omega
     ·have h:sizeAt s i=3:=h
      have:j=0∨j=1∨j=2:=by omega
      rcases this with rfl | rfl | rfl<;>omega
     ·have h:sizeAt s i=4:=h
      have:j=0∨j=1∨j=2∨j=3:=by omega
      rcases this with rfl | rfl | rfl | rfl<;>omega
    exact ⟨a3g big.1,a3g big.2⟩
  ·rw [List.drop_eq_nil_of_le (by omega),aar,if_neg hi]
   exact .nil
theorem a2x {a b s t:List UInt8} (h:aa6 a++s=aa6 b++t):a=b/\s=t:=by
 have ha:=aet a a.length 0 (by omega)
 have hb:=aet b b.length 0 (by omega)
 rw [List.drop_zero] at ha hb
 unfold aa6 at h
 simp only [List.cons_append,List.append_assoc,List.cons.injEq,true_and,List.nil_append] at h
 exact a3x ha hb h
def digC (c:UInt8):Bool:=decide (48<=c.toNat/\c.toNat<=57)
theorem a7s:((List.range 16).all fun b=>(List.range 16).all fun d=>!(hexd b==hexd d)||b==d)=true:=by kernel_rfl
theorem a6o {b d:Nat} (hb:b<16) (hd:d<16) (h:hexd b=hexd d):b=d:=by
 have:=List.all_eq_true.1 a7s b (List.mem_range.2 hb)
 have:=List.all_eq_true.1 this d (List.mem_range.2 hd)
 rw [h] at this
 simpa using this
theorem a4m:∀ (n u v:Nat),u<16^n->v<16^n->hexN n u=hexN n v->u=v:=by
 intro n
 induction n with
 | zero=>intro u v hu hv _;simp at hu hv;omega
 | succ n ih=>
  intro u v hu hv h
  rw [Nat.pow_succ] at hu hv
  simp only [hexN] at h
  have hl:(hexN n (u / 16)).length=(hexN n (v / 16)).length:=by rw [alz,alz]
  obtain ⟨h1,h2⟩:=List.append_inj h hl
  have e1:=ih (u / 16) (v / 16) (by omega) (by omega) h1
  have e2:=a6o (Nat.mod_lt _ (by decide)) (Nat.mod_lt _ (by decide)) (by simpa using h2)
  omega
end Go.Ab
namespace Go.Ab
open Go
set_option maxRecDepth 100000
end Go.Ab
namespace Go.Ab
open Go
set_option maxRecDepth 100000
theorem ahg {α:Type} (l:List α) (i:Nat):(l.take ((l.length:Int)).toNat).drop ((i:Int)).toNat=l.drop i:=by simp
theorem aok {α:Type} (l:List α) {i:Nat} (h:i<=l.length):decide (0<=(i:Int)/\(i:Int)<=(l.length:Int)/\(l.length:Int)<=(l.length:Int))=true:=decide_eq_true (by omega)
theorem ag1 (c:UInt8):F231 0 (c.toNat:Int)=some (letB c):=by
 unfold F231 letB lowB capB
 rw [show (97:Int)=((97:Nat):Int) from rfl,show (122:Int)=((122:Nat):Int) from rfl,show (65:Int)=((65:Nat):Int) from rfl,show (90:Int)=((90:Nat):Int) from rfl]
 simp only [geI,leI,Bool.decide_and]
 cases decide (97<=c.toNat)<;>cases decide (c.toNat<=122)<;>cases decide (65<=c.toNat)<;>cases decide (c.toNat<=90)<;>rfl
theorem al0 (c:UInt8):F232 0 (c.toNat:Int)=some (digC c):=by
 unfold F232 digC
 rw [show (48:Int)=((48:Nat):Int) from rfl,show (57:Int)=((57:Nat):Int) from rfl]
 simp only [geI,leI,Bool.decide_and]
 cases decide (48<=c.toNat)<;>cases decide (c.toNat<=57)<;>rfl
theorem a1j (c:UInt8):F235 0 (c.toNat:Int)=some (alnB c):=by
 unfold F235
 have h:((c.toNat:Int)==(95:Int))=decide (c.toNat=95):=eqB c.toNat 95
 rw [ag1,Option.bind_some,al0,h]
 unfold letB digC alnB digB
 cases lowB c.toNat||capB c.toNat<;>simp
def runN (p:UInt8->Bool) (l:List UInt8):Nat:=(l.takeWhile p).length
theorem ak0 (p:UInt8->Bool) (l:List UInt8):runN p l<=l.length:=by
 unfold runN
 induction l with
 | nil=>simp
 | cons c r ih=>rw [List.takeWhile_cons];split<;>simp<;>omega
theorem ac1 (p:UInt8->Bool) (c:UInt8) (r:List UInt8):runN p (c::r)=if p c=true then runN p r+1 else 0:=by
 unfold runN
 rw [List.takeWhile_cons]
 split<;>simp
theorem aqr {p:UInt8->Bool}{step:(List UInt8×Unit×Int)->Option ((List UInt8×Unit×Int)⊕Int)} (s:List UInt8)
 (hs:∀ i:Nat,i<s.length->step (s,(),(i:Int))=some (bif p (s.getD i 0) then .inl (s,(),((i+1:Nat):Int)) else .inr (i:Int)))
 (he:step (s,(),(s.length:Int))=some (.inr (s.length:Int))):∀ m i:Nat,s.length-i<=m->i<=s.length->abi step (s,(),(i:Int))=some ((i+runN p (s.drop i):Nat):Int):=by
 intro m
 induction m with
 | zero=>
  intro i hm hi
  have:i=s.length:=by omega
  subst this
  rw [aac he,List.drop_length];rfl
 | succ m ih=>
  intro i hm hi
  by_cases hlt:i<s.length
  ·rw [aau hlt 0,ac1]
   cases hp:p (s.getD i 0) with
   | true=>
    have h:=hs i hlt
    rw [hp] at h
    rw [aax h,ih (i+1) (by omega) (by omega)]
    simp only [if_true]
    congr 2;omega
   | false=>
    have h:=hs i hlt
    rw [hp] at h
    rw [aac h]
    simp
  ·have:i=s.length:=by omega
   subst this
   rw [aac he,List.drop_length];rfl
theorem awz (s:List UInt8) (hl:s.length<=1048576):F124_v1 0 s ()=some ((runN alnB s:Nat):Int):=by
 have h:=aqr (p:=alnB) (step:=S124_v1_3step 0) s (fun i hi=>by
  simp only [S124_v1_3step,S124_v1_3,ac0,hi,decide_true,aab,imp,cond_true,Int.toNat_natCast,a1j,Option.bind_some,Bool.not_true,Bool.false_or,Bool.true_or,ab2 (show i<=9223372036854775000 by omega)]
  cases alnB (s.getD i 0)<;>rfl) (by
  simp only [S124_v1_3step,S124_v1_3,ac0,Nat.lt_irrefl,decide_false,aab,imp,cond_false,Bool.not_false,Bool.true_or,cond_true,Option.bind_some]) s.length 0 (by omega) (by omega)
 unfold F124_v1
 rw [aaq,show (0:Int)=((0:Nat):Int) from rfl,h,List.drop_zero,Nat.zero_add];rfl
theorem a0v (s:List UInt8) (hl:s.length<=1048576):F124_v2 0 s ()=some ((runN digC s:Nat):Int):=by
 have h:=aqr (p:=digC) (step:=S124_v2_3step 0) s (fun i hi=>by
  simp only [S124_v2_3step,S124_v2_3,ac0,hi,decide_true,aab,imp,cond_true,Int.toNat_natCast,al0,Option.bind_some,Bool.not_true,Bool.false_or,Bool.true_or,ab2 (show i<=9223372036854775000 by omega)]
  cases digC (s.getD i 0)<;>rfl) (by
  simp only [S124_v2_3step,S124_v2_3,ac0,Nat.lt_irrefl,decide_false,aab,imp,cond_false,Bool.not_false,Bool.true_or,cond_true,Option.bind_some]) s.length 0 (by omega) (by omega)
 unfold F124_v2
 rw [aaq,show (0:Int)=((0:Nat):Int) from rfl,h,List.drop_zero,Nat.zero_add];rfl
def eat:List UInt8->Nat
 | []=>0
 | c::r=>if alnB c=true then eat r+1 else if c=46 then (match r with | d::_=>if letB d=true then eat r+1 else 0 | []=>0) else 0
theorem afd (c:UInt8) (r:List UInt8):eat (c::r)=if alnB c=true then eat r+1 else if c=46 then (match r with | d::_=>if letB d=true then eat r+1 else 0 | []=>0) else 0:=by
 rw [eat.eq_def]
theorem a0i:∀ l:List UInt8,eat l=runN alnB l+eat (l.drop (runN alnB l)):=by
 intro l
 induction l with
 | nil=>rfl
 | cons c r ih=>
  rw [ac1]
  by_cases h:alnB c=true
  ·rw [if_pos h,List.drop_succ_cons]
   have:eat (c::r)=eat r+1:=by rw [afd,if_pos h]
   rw [this,ih];omega
  ·rw [if_neg h,List.drop_zero];omega
theorem av8 (p:UInt8->Bool):∀ (l:List UInt8) (c:UInt8) (r:List UInt8),l.drop (runN p l)=c::r->p c=false:=by
 intro l
 induction l with
 | nil=>intro c r h;simp at h
 | cons x l ih=>
  intro c r h
  rw [ac1] at h
  by_cases hx:p x=true
  ·rw [if_pos hx,List.drop_succ_cons] at h
   exact ih c r h
  ·rw [if_neg hx,List.drop_zero] at h
   simp only [List.cons.injEq] at h
   rw [<-h.1]
   simpa using hx
theorem am1 (s:List UInt8) (hl:s.length<=1048576) (i:Nat) (hi:i<=s.length) (hend:s.length<=i+runN alnB (s.drop i)+1):abi (S234_5step 0) (s,(i:Int))=some ((i+eat (s.drop i):Nat):Int):=by
 have hk:=ak0 alnB (s.drop i)
 rw [List.length_drop] at hk
 have hr:=awz (s.drop i) (by rw [List.length_drop];omega)
 have he:=a0i (s.drop i)
 have hst:=av8 alnB (s.drop i)
 rw [List.drop_drop] at he hst
 generalize runN alnB (s.drop i)=k at hk hr he hst hend
 have e3:IntKind.wrap .i64 ((i:Int)+((k:Nat):Int))=((i+k:Nat):Int):=by rw [abf (by omega) (by omega)];omega
 have hw:IntKind.wrap .i64 (((i+k:Nat):Int)+1)=((i+k+1:Nat):Int):=ab2 (by omega)
 have e2:decide (((i+k+1:Nat):Int)≥(s.length:Int))=true:=decide_eq_true (by omega)
 have h0:eat (s.drop (i+k))=0:=by
  cases hd:s.drop (i+k) with
  | nil=>rfl
  | cons c r=>
   have hl:=congrArg List.length hd
   rw [List.length_drop,List.length_cons] at hl
   have:r=[]:=List.eq_nil_of_length_eq_zero (by omega)
   subst this
   have hc:=hst c [] hd
   rw [afd,hc]
   simp
 refine (aac (y:=((i+k:Nat):Int)) ?_).trans (by rw [he,h0];rfl)
 simp only [S234_5step,S234_5,aok s hi,cond_true,ahg,hr,Option.bind_some,e3,hw,e2,imp,Bool.not_true,Bool.not_false,Bool.true_or,cond_false,aah]
theorem ak6 (s:List UInt8) (hl:s.length<=1048576):∀ m i:Nat,s.length-i<=m->i<=s.length->abi (S234_5step 0) (s,(i:Int))=some ((i+eat (s.drop i):Nat):Int):=by
 intro m
 induction m with
 | zero=>
  intro i hm hi
  exact am1 s hl i hi (by omega)
 | succ m ih=>
  intro i hm hi
  by_cases hend:s.length<=i+runN alnB (s.drop i)+1
  ·exact am1 s hl i hi hend
  ·have hk:=ak0 alnB (s.drop i)
   rw [List.length_drop] at hk
   have hr:=awz (s.drop i) (by rw [List.length_drop];omega)
   have he:=a0i (s.drop i)
   have hst:=av8 alnB (s.drop i)
   rw [List.drop_drop] at he hst
   generalize runN alnB (s.drop i)=k at hk hr he hst hend
   have e3:IntKind.wrap .i64 ((i:Int)+((k:Nat):Int))=((i+k:Nat):Int):=by rw [abf (by omega) (by omega)];omega
   have hw:IntKind.wrap .i64 (((i+k:Nat):Int)+1)=((i+k+1:Nat):Int):=ab2 (by omega)
   have e2:decide (((i+k+1:Nat):Int)≥(s.length:Int))=false:=decide_eq_false (by omega)
   have lt1:i+k<s.length:=by omega
   have lt2:i+k+1<s.length:=by omega
   have hd:=aau lt1 (0:UInt8)
   have hd2:=aau lt2 (0:UInt8)
   have hc:=hst _ _ hd
   have step:S234_5step 0 (s,(i:Int))=some (bif (s.getD (i+k) 0==46)&&letB (s.getD (i+k+1) 0) then .inl (s,((i+k+1:Nat):Int)) else .inr ((i+k:Nat):Int)):=by
    have hb:(((s.getD (i+k) 0).toNat:Int) != (46:Int))=!(s.getD (i+k) 0==46):=by
     rw [show (46:Int)=(((46:UInt8).toNat:Nat):Int) from rfl,neB,ba3]
    simp only [S234_5step,S234_5,aok s hi,cond_true,ahg,hr,Option.bind_some,e3,hw,e2,imp,Bool.not_true,Bool.not_false,Bool.false_or,Bool.true_or,cond_false,aab,lt1,lt2,decide_true,Int.toNat_natCast,List.take_length,hb,Bool.or_true,ag1]
    cases (s.getD (i+k) 0==46)<;>cases letB (s.getD (i+k+1) 0)<;>simp
   by_cases hg:((s.getD (i+k) 0==46)&&letB (s.getD (i+k+1) 0))=true
   ·rw [hg] at step
    rw [aax step,ih (i+k+1) (by omega) (by omega),he,hd,afd,hc]
    simp only [Bool.and_eq_true,beq_iff_eq] at hg
    rw [if_neg (by simp),if_pos hg.1,hd2]
    simp only [hg.2,if_true]
    rw [<-hd2]
    congr 2;omega
   ·have hg:((s.getD (i+k) 0==46)&&letB (s.getD (i+k+1) 0))=false:=by simpa using hg
    rw [hg] at step
    rw [aac step,he,hd,afd,hc]
    have:(if s.getD (i+k) 0=46 then (match s.drop (i+k+1) with | d::_=>if letB d=true then eat (s.drop (i+k+1))+1 else 0 | []=>0) else 0)=0:=by
     split
     ·rename_i h46
      rw [hd2]
      rw [h46] at hg
      have:letB (s.getD (i+k+1) 0)=false:=by simpa using hg
      simp only [this]
      simp
     ·rfl
    rw [if_neg (by simp),this];rfl
end Go.Ab
namespace Go.Ab
open Go
set_option maxRecDepth 100000
theorem ab6 {α:Type}{l:List α}{i:Nat}{c:α}{r:List α} (d:α) (h:l.drop i=c::r):i<l.length/\l.getD i d=c/\l.drop (i+1)=r:=by
 have hi:i<l.length:=by
  have:=congrArg List.length h
  simp only [List.length_drop,List.length_cons] at this
  omega
 rw [aau hi d] at h
 simp only [List.cons.injEq] at h
 exact ⟨hi,h.1,h.2⟩
theorem bqI {c k:UInt8}{n:Int} (h:n=((k.toNat:Nat):Int)):((c.toNat:Int)==n)=(c==k):=by rw [h,eqB,ba3]
theorem in0 {α:Type} (c:α) (r:List α):aaa (0:Int) (c::r).length=true:=by
 rw [show (0:Int)=((0:Nat):Int) from rfl,aab];simp
def ai6 (c:UInt8):Bool:=decide (0<=Lib.indexByte ([123,125,91,93,40,41,60,62,61,59,44,64,45]:List UInt8) c)
theorem a02 (c:UInt8):F142 0 [c]=some (ai6 c):=rfl
theorem pre2 (c:UInt8) (r:List UInt8) (h:c≠47):F230 0 (c::r) ([47,47]:List UInt8)=some false:=by
 unfold F230 F297
 have e:((([47,47]:List UInt8).length:Nat):Int)=(2:Int):=rfl
 simp only [e]
 by_cases hl:(2:Int)<=((c::r).length:Int)
 ·have h2:decide ((0:Int)<=0/\(0:Int)<=2/\(2:Int)<=((c::r).length:Int))=true:=decide_eq_true ⟨by omega,by omega,hl⟩
  have h3:(((c::r).take (2:Int).toNat).drop (0:Int).toNat==([47,47]:List UInt8))=false:=by
   rw [beq_eq_false_iff_ne]
   intro q
   have q:c::r.take 1=[47,47]:=q
   simp only [List.cons.injEq] at q
   exact h q.1
  rw [decide_eq_true (show ((c::r).length:Int)≥(2:Int) from hl)]
  simp only [h2,h3,imp,cond_true,Option.bind_some,Bool.not_true]
 ·simp only [imp,ge_iff_le,hl,decide_false,cond_false,Bool.not_false,aah,cond_true,Option.bind_some,Bool.false_and]
def aew (c:UInt8) (r:List UInt8):Bool:=letB c||(c==46&&(match r with | d::_=>letB d | []=>false))
def noSp (c:UInt8):Prop:=c≠32/\c≠9/\c≠13/\c≠10/\c≠47
theorem a6n (c:UInt8) (r:List UInt8) (h:noSp c):F123 0 (c::r)=some (bif aew c r then 3 else bif digC c then 4 else bif c==34 then 5 else bif ai6 c then 6 else 0):=by
 obtain ⟨h1,h2,h3,h4,h5⟩:=h
 have g:∀ k:UInt8,c≠k->(c==k)=false:=fun k h=>beq_eq_false_iff_ne.2 h
 have e1:(((c::r).take (1:Int).toNat).drop (0:Int).toNat)=[c]:=rfl
 have e2:decide ((0:Int)<=(0:Int)/\(0:Int)<=(1:Int)/\(1:Int)<=((c::r).length:Int))=true:=decide_eq_true (by simp only [List.length_cons];omega)
 have e3:(c::r).getD (0:Int).toNat 0=c:=rfl
 unfold F123
 simp only [in0,e1,e2,e3,cond_true,bqI (c:=c) (k:=32) (n:=32) rfl,bqI (c:=c) (k:=9) (n:=9) rfl,bqI (c:=c) (k:=13) (n:=13) rfl,bqI (c:=c) (k:=10) (n:=10) rfl,bqI (c:=c) (k:=46) (n:=46) rfl,bqI (c:=c) (k:=34) (n:=34) rfl,g 32 h1,g 9 h2,g 13 h3,g 10 h4,cond_false,pre2 c r h5,Option.bind_some,ag1,al0,a02]
 unfold aew
 cases r with
 | nil=>
  have d1:decide ((([c]:List UInt8).length:Int)>(1:Int))=false:=rfl
  simp only [d1,aah,imp,Bool.not_false,Bool.true_or,Bool.or_true,cond_true,cond_false,Option.bind_some,Bool.and_false,Bool.or_false]
  cases letB c<;>cases (c==46)<;>cases digC c<;>cases (c==34)<;>cases ai6 c<;>rfl
 | cons d r=>
  have d1:decide (((c::d::r).length:Int)>(1:Int))=true:=decide_eq_true (by simp only [List.length_cons];omega)
  have d2:aaa (1:Int) (c::d::r).length=true:=by rw [show (1:Int)=((1:Nat):Int) from rfl,aab];simp
  have d3:(c::d::r).getD (1:Int).toNat 0=d:=rfl
  simp only [d1,d2,d3,imp,ag1,aah,Bool.true_or,Bool.or_true,cond_true]
  cases letB c<;>cases (c==46)<;>cases digC c<;>cases (c==34)<;>cases ai6 c<;>cases letB d<;>rfl
theorem a3u (s:List UInt8) (hs:s.length<=1048576):∃ y,F141 0 s ([46]:List UInt8)=some y/\F140 0 y=some (alj s):=by
 have h:=amw s hs
 cases ht:F141 0 s ([46]:List UInt8) with
 | none=>rw [ht] at h;cases h
 | some y=>
  rw [ht,Option.bind_some] at h
  cases hf:F140 0 y with
  | none=>rw [hf] at h;cases h
  | some b=>
   rw [hf] at h
   simp at h
   exact ⟨y,rfl,by rw [hf,h]⟩
end Go.Ab
