/- UTF-8: what the printed functions compute. -/
import Derived.Test.YtcpkdafleaddlaaGreatDoorAbUtf
import Derived.Test.YtcpkdafleaddlaaGreatDoorGenRt
import Derived.Test.YtcpkdafleaddlaaGreatDoorAbPrsP
import Derived.Test.YtcpkdafleaddlaaGreatDoorAbPlain
import Derived.Test.YtcpkdafleaddlaaGreatDoorAbEqL
set_option linter.unusedVariables false
set_option linter.unusedSimpArgs false
set_option linter.unnecessarySimpa false
namespace Go.Ab
open Go
theorem wadd {i k:Nat} (h:i+k<=9223372036854775807):IntKind.wrap .i64 ((i:Int)+(k:Int))=((i+k:Nat):Int):=by rw [<-Int.natCast_add];exact ahh h
theorem ayv {i:Nat} (h:i+1<=9223372036854775807):IntKind.wrap .i64 ((i:Int)+(1:Int))=((i+1:Nat):Int):=wadd (k:=1) h
theorem wadd2 {i:Nat} (h:i+2<=9223372036854775807):IntKind.wrap .i64 ((i:Int)+(2:Int))=((i+2:Nat):Int):=wadd (k:=2) h
theorem gb {α:Type} (b c:Bool) (k:Bool->Option α):((bif b then some c else some false).bind k)=k (b&&c):=by cases b<;>rfl
theorem gand (b c:Bool):(bif b then (b&&c) else false)=(b&&c):=by cases b<;>rfl
theorem aag {α:Type} (b:Bool) (x:α):(bif b then x else x)=x:=by cases b<;>rfl
theorem abn (a b:Nat):decide ((a:Int)<(b:Int))=decide (a<b):=by simp
def betw (s:List UInt8) (i lo hi:Nat):Bool:=decide (i<s.length/\lo<=byteAt s i/\byteAt s i<=hi)
theorem aft (s:List UInt8) (i lo hi:Nat):F320 0 s (i:Int) (lo:Int) (hi:Int)=some (betw s i lo hi):=by
 have e2:((s.getD i 0).toNat:Int)=(byteAt s i:Int):=rfl
 by_cases h:i<s.length
 ·simp only [F320,abn,aab,h,decide_true,cond_true,imp,Int.toNat_natCast,e2,betw,true_and,ge_iff_le,Int.ofNat_le,Bool.decide_and]
  cases decide (lo<=byteAt s i)<;>rfl
 ·simp only [F320,abn,aab,h,decide_false,cond_false,cond_true,imp,Bool.not_false,betw,false_and]
def agf (s:List UInt8):Nat->Nat->Bool
 | _,0=>true
 | i,n+1=>betw s i 128 191&&agf s (i+1) n
theorem a0m:∀ (m:Nat) (s:List UInt8) (i n k:Nat),n-k=m->k<=n->i+n<=9223372036854775800->aba (S319_3step 0) (s,(i:Int),(n:Int),(k:Int))=some (bif agf s (i+k) (n-k) then .inr () else .inl false):=by
 intro m
 induction m with
 | zero=>
  intro s i n k hm hk hs
  have hkn:k=n:=by omega
  subst hkn
  rw [aac (y:=.inr ())]
  ·simp [agf]
  ·simp [S319_3step,S319_3]
 | succ m ih=>
  intro s i n k hm hk hs
  have hlt:k<n:=by omega
  have hb:F320 0 s ((i+k:Nat):Int) (128:Int) (191:Int)=some (betw s (i+k) 128 191):=aft s (i+k) 128 191
  have e:n-k=(n-(k+1))+1:=by omega
  rw [e,agf]
  cases hc:betw s (i+k) 128 191 with
  | false=>
   rw [aac (y:=.inl false)]
   ·rfl
   ·rw [hc] at hb
    simp only [S319_3step,S319_3,abn,hlt,decide_true,cond_true,wadd (i:=i) (k:=k) (by omega),hb,Option.bind_some,Bool.not_false]
  | true=>
   rw [aaw (x1:=(s,(i:Int),(n:Int),((k+1:Nat):Int)))]
   ·rw [ih s i n (k+1) (by omega) (by omega) hs]
    rfl
   ·rw [hc] at hb
    simp only [S319_3step,S319_3,abn,hlt,decide_true,cond_true,wadd (i:=i) (k:=k) (by omega),hb,Option.bind_some,Bool.not_true,cond_false,ayv (i:=k) (by omega)]
theorem amj (s:List UInt8) (i n:Nat) (hs:i+n<=9223372036854775800):F319 0 s (i:Int) (n:Int)=some (agf s i n):=by
 have h:=a0m n s i n 0 (by omega) (by omega) hs
 unfold F319
 rw [aan]
 have e:((0:Nat):Int)=(0:Int):=rfl
 rw [<-e,h]
 simp only [Nat.add_zero,Nat.sub_zero]
 cases agf s i n<;>rfl
theorem ag6 {c:Bool}{p:Prop} [Decidable p] {rest:Option Int}{x r:Nat} (h:c=true ↔ p) (h2:rest=some (r:Int)):(bif c then some (x:Int) else rest)=some ((if p then x else r:Nat):Int):=by
 by_cases hp:p
 ·rw [h.2 hp];simp [hp]
 ·have:c=false:=by cases c with | false=>rfl | true=>exact absurd (h.1 rfl) hp
  rw [this];simp [hp,h2]
theorem size_eq (s:List UInt8) (i:Nat) (hi:i<s.length) (hs:s.length<=9223372036854775000):F243 0 s (i:Int)=some (sizeAt s i:Int):=by
 have e2:((s.getD i 0).toNat:Int)=(byteAt s i:Int):=rfl
 have t11:F319 0 s ((i+1:Nat):Int) (1:Int)=some (agf s (i+1) 1):=amj s (i+1) 1 (by omega)
 have t12:F319 0 s ((i+1:Nat):Int) (2:Int)=some (agf s (i+1) 2):=amj s (i+1) 2 (by omega)
 have t13:F319 0 s ((i+1:Nat):Int) (3:Int)=some (agf s (i+1) 3):=amj s (i+1) 3 (by omega)
 have t21:F319 0 s ((i+2:Nat):Int) (1:Int)=some (agf s (i+2) 1):=amj s (i+2) 1 (by omega)
 have t22:F319 0 s ((i+2:Nat):Int) (2:Int)=some (agf s (i+2) 2):=amj s (i+2) 2 (by omega)
 have b0:F320 0 s ((i+1:Nat):Int) (160:Int) (191:Int)=some (betw s (i+1) 160 191):=aft s (i+1) 160 191
 have b1:F320 0 s ((i+1:Nat):Int) (128:Int) (159:Int)=some (betw s (i+1) 128 159):=aft s (i+1) 128 159
 have b2:F320 0 s ((i+1:Nat):Int) (144:Int) (191:Int)=some (betw s (i+1) 144 191):=aft s (i+1) 144 191
 have b3:F320 0 s ((i+1:Nat):Int) (128:Int) (143:Int)=some (betw s (i+1) 128 143):=aft s (i+1) 128 143
 unfold F243
 simp only [aab,hi,decide_true,cond_true,Int.toNat_natCast,e2,ayv (i:=i) (by omega),wadd2 (i:=i) (by omega),t11,t12,t13,t21,t22,b0,b1,b2,b3,gb,gand]
 unfold sizeAt acf
 have nl:∀ k,(i+k<s.length)=(k<s.length-i):=fun k=>propext ⟨fun h=>by omega,fun h=>by omega⟩
 simp only [agf,betw,Bool.and_true,Nat.add_assoc,Nat.reduceAdd,nl,<-Bool.decide_and]
 generalize byteAt s i=c0 at*
 generalize byteAt s (i+1)=c1 at*
 generalize byteAt s (i+2)=c2 at*
 generalize byteAt s (i+3)=c3 at*
 generalize s.length-i=n at*
 clear t11 t12 t13 t21 t22 b0 b1 b2 b3 nl e2
 have hc:∀ (k:Nat),(((c0:Int)==(k:Int))=true ↔ c0=k):=fun k=>by simp;omega
 have hd:∀ (k:Nat),(((c0:Int) != (k:Int))=true ↔ c0≠k):=fun k=>by simp;omega
 have ci:∀ (a b:Bool),((bif a then b else false)=true ↔ a=true/\b=true):=fun a b=>by cases a<;>simp
 refine ag6 (x:=1) (by simp only [decide_eq_true_eq];omega) ?_
 refine ag6 (x:=2) (by simp only [ci,Bool.and_eq_true,decide_eq_true_eq];omega) ?_
 refine ag6 (x:=3) (by have:=hc 224;simp only [ci,Bool.and_eq_true,decide_eq_true_eq];rw [show ((c0:Int)==224)=((c0:Int)==((224:Nat):Int)) from rfl,this];omega) ?_
 refine ag6 (x:=3) (by have:=hc 237;simp only [ci,Bool.and_eq_true,decide_eq_true_eq];rw [show ((c0:Int)==237)=((c0:Int)==((237:Nat):Int)) from rfl,this];omega) ?_
 refine ag6 (x:=3) (by have:=hd 237;simp only [ci,Bool.and_eq_true,decide_eq_true_eq];rw [show ((c0:Int) != 237)=((c0:Int) != ((237:Nat):Int)) from rfl,this];omega) ?_
 refine ag6 (x:=4) (by have:=hc 240;simp only [ci,Bool.and_eq_true,decide_eq_true_eq];rw [show ((c0:Int)==240)=((c0:Int)==((240:Nat):Int)) from rfl,this];omega) ?_
 refine ag6 (x:=4) (by simp only [ci,Bool.and_eq_true,decide_eq_true_eq];omega) ?_
 refine ag6 (x:=4) (by have:=hc 244;simp only [ci,Bool.and_eq_true,decide_eq_true_eq];rw [show ((c0:Int)==244)=((c0:Int)==((244:Nat):Int)) from rfl,this];omega) ?_
 rfl
theorem avf (s:List UInt8) (hs:s.length<=9223372036854775000):∀ (m i:Nat),s.length-i<=m->i<=s.length->aba (S324_3step 0) (s,(i:Int))=some (bif decide (aen s i=-1) then .inr () else .inl (aen s i)):=by
 intro m
 induction m with
 | zero=>
  intro i hm hi
  have:¬i<s.length:=by omega
  rw [aea,if_neg this]
  exact aac (by simp only [S324_3step,S324_3,abn,this,decide_false,cond_false];rfl)
 | succ m ih=>
  intro i hm hi
  by_cases hlt:i<s.length
  ·rw [aea,if_pos hlt]
   have hz:=size_eq s i hlt hs
   have hle:=(apv (s.length-i) (byteAt s i) (byteAt s (i+1)) (byteAt s (i+2)) (byteAt s (i+3)) (by omega)).1
   by_cases h0:sizeAt s i=0
   ·rw [if_pos h0]
    rw [show decide ((i:Int)=-1)=false from decide_eq_false (by omega)]
    exact aac (by simp only [S324_3step,S324_3,abn,hlt,decide_true,cond_true,hz,h0,Option.bind_some];rfl)
   ·rw [if_neg h0]
    rw [aaw (x1:=(s,((i+sizeAt s i:Nat):Int)))]
    ·have:sizeAt s i<=s.length-i:=hle
     exact ih _ (by omega) (by omega)
    ·have h1:((sizeAt s i:Int)==(0:Int))=false:=by simp;omega
     have:sizeAt s i<=s.length-i:=hle
     simp only [S324_3step,S324_3,abn,hlt,decide_true,cond_true,hz,Option.bind_some,h1,cond_false,wadd (i:=i) (k:=sizeAt s i) (by omega)]
  ·rw [aea,if_neg hlt]
   exact aac (by simp only [S324_3step,S324_3,abn,hlt,decide_false,cond_false];rfl)
theorem a07 (s:List UInt8) (hs:s.length<=9223372036854775000):F324 0 s=some (bad s):=by
 have h:=avf s hs s.length 0 (by omega) (by omega)
 unfold F324
 rw [aan,show (0:Int)=((0:Nat):Int) from rfl,h]
 unfold bad
 by_cases hb:aen s 0=-1
 ·simp [hb,sumE]
 ·simp [hb,sumE]
theorem alu (s:List UInt8) (hs:s.length<=9223372036854775000):F259 0 s=some (valid s):=by
 unfold F259
 rw [a07 s hs];rfl
theorem azg (s:List UInt8):F230 0 s ([239,191,189]:List UInt8)=some (decide ((s.length:Int)≥3)&&(s.take 3==([239,191,189]:List UInt8))):=by
 unfold F230 F297
 have e:((([239,191,189]:List UInt8).length:Nat):Int)=(3:Int):=rfl
 simp only [e]
 by_cases h:(3:Int)<=(s.length:Int)
 ·have h2:decide ((0:Int)<=0/\(0:Int)<=3/\(3:Int)<=(s.length:Int))=true:=by simp;omega
  simp only [h2,imp,ge_iff_le,h,decide_true,cond_true,Option.bind_some,Bool.true_and]
  rfl
 ·simp only [imp,ge_iff_le,h,decide_false,cond_false,Bool.not_false,aag,cond_true,Option.bind_some,Bool.false_and]
theorem awf (s:List UInt8) (i:Nat) (hi:i<s.length):F310 0 s (i:Int) ((aak s i).1:Int)=some (decide (sizeAt s i=0)):=by
 unfold F310
 have h2:decide ((0:Int)<=(i:Int)/\(i:Int)<=(s.length:Int)/\(s.length:Int)<=(s.length:Int))=true:=by simp;omega
 have h3:=a79 s i (by omega)
 have h4:=af0 s i hi
 have hp:=(alt (s.length-i) (byteAt s i) (byteAt s (i+1)) (byteAt s (i+2)) (byteAt s (i+3))).1
 by_cases hc:(aak s i).1=65533
 ·have hcb:(((aak s i).1:Int)==(65533:Int))=true:=by simp;omega
  simp only [hcb,h2,imp,cond_true,Int.toNat_natCast,azg,h3,Option.bind_some]
  rw [h4]
  by_cases hf:2<s.length-i/\byteAt s i=239/\byteAt s (i+1)=191/\byteAt s (i+2)=189
  ·simp only [hf,and_self,decide_true,Bool.not_true,not_true_eq_false,and_false,if_false]
   have:(aak s i).2≠0:=by unfold aak;omega
   simp [this]
  ·simp only [hf,decide_false,Bool.not_false,hc,not_false_eq_true,and_self,if_true,decide_true]
 ·have hcb:(((aak s i).1:Int)==(65533:Int))=false:=by simp;omega
  simp only [hcb,imp,cond_true,cond_false,Bool.not_false,Option.bind_some]
  rw [h4,if_neg (by simp [hc])]
  have:(aak s i).2≠0:=by unfold aak;omega
  simp [this]
theorem a5c (s:List UInt8):∀ (m i:Nat),s.length-i<=m->i<=s.length->∃ y,aba (S280_3step 0) (s,(),s,(i:Int))=some y/\(aen s i=-1->∃ z,y=.inr z)/\(aen s i≠-1->∃ z,y=.inl (aen s i,z)):=by
 intro m
 induction m with
 | zero=>
  intro i hm hi
  have hlt:¬i<s.length:=by omega
  rw [aea,if_neg hlt]
  refine ⟨_,aac (y:=.inr (s,(i:Int))) ?_,fun _=>⟨_,rfl⟩,fun h=>absurd rfl h⟩
  simp only [S280_3step,S280_3,Int.toNat_natCast,hlt,decide_false,cond_false]
 | succ m ih=>
  intro i hm hi
  by_cases hlt:i<s.length
  ·rw [aea,if_pos hlt]
   have hw:=awf s i hlt
   have hd:=agu s i
   have h4:=af0 s i hlt
   have hle:=(apv (s.length-i) (byteAt s i) (byteAt s (i+1)) (byteAt s (i+2)) (byteAt s (i+3)) (by omega)).1
   by_cases h0:sizeAt s i=0
   ·rw [if_pos h0]
    refine ⟨.inl ((i:Int),s,((i+(aak s i).2:Nat):Int)),aac ?_,fun h=>by omega,fun _=>⟨_,rfl⟩⟩
    simp only [S280_3step,S280_3,Int.toNat_natCast,hlt,decide_true,cond_true,hd,hw,h0,Option.bind_some]
   ·rw [if_neg h0]
    have h5:sizeAt s i=(aak s i).2:=by
     rw [h4] at h0 ⊢
     split
     ·rename_i hc;rw [if_pos hc] at h0;exact absurd rfl h0
     ·rfl
    rw [aaw (x1:=(s,(),s,((i+sizeAt s i:Nat):Int)))]
    ·have:sizeAt s i<=s.length-i:=hle
     exact ih _ (by omega) (by omega)
    ·have hz:decide (sizeAt s i=0)=false:=decide_eq_false h0
     rw [hz] at hw
     simp only [S280_3step,S280_3,Int.toNat_natCast,hlt,decide_true,cond_true,hd,hw,cond_false,Option.bind_some,h5]
  ·rw [aea,if_neg hlt]
   refine ⟨_,aac (y:=.inr (s,(i:Int))) ?_,fun _=>⟨_,rfl⟩,fun h=>absurd rfl h⟩
   simp only [S280_3step,S280_3,Int.toNat_natCast,hlt,decide_false,cond_false]
theorem bad_eq (s:List UInt8):F280 0 s=some (bad s):=by
 obtain ⟨y,h,h1,h2⟩:=a5c s s.length 0 (by omega) (by omega)
 unfold F280
 rw [aan,h]
 unfold bad
 by_cases hb:aen s 0=-1
 ·obtain ⟨z,rfl⟩:=h1 hb
  rw [hb];rfl
 ·obtain ⟨z,rfl⟩:=h2 hb
  rfl
theorem awn (s:List UInt8):F185 0 s=some (valid s):=by
 unfold F185
 rw [bad_eq s];rfl
end Go.Ab
namespace Go.Ab
open Go
theorem a1w {α:Type} (f:α->Bool) (d:α):∀ (xs pre:List α),allF (fun i=>f ((pre++xs).getD i d)) pre.length xs.length=xs.all f:=by
 intro xs
 induction xs with
 | nil=>intro pre;rfl
 | cons x r ih=>
  intro pre
  simp only [List.length_cons,allF,List.all_cons]
  have e1:(pre++x::r).getD pre.length d=x:=by simp [List.getD]
  rw [e1]
  have:=ih (pre++[x])
  rw [show pre++x::r=pre++[x]++r by simp,<-this]
  simp
theorem a1o {α:Type} (f:α->Bool) (d:α) (xs:List α):allF (fun i=>f (xs.getD i d)) 0 xs.length=xs.all f:=a1w f d xs []
def lowB (b:Nat):Bool:=decide (97<=b/\b<=122)
def capB (b:Nat):Bool:=decide (65<=b/\b<=90)
def digB (b:Nat):Bool:=decide (48<=b/\b<=57)
def letB (b:UInt8):Bool:=lowB b.toNat||capB b.toNat
def alnB (b:UInt8):Bool:=lowB b.toNat||capB b.toNat||digB b.toNat||decide (b.toNat=95)
theorem a2n {b:UInt8} (h:letB b=true):alnB b=true:=by
 unfold letB at h;unfold alnB;rw [h];rfl
def adx (s:List UInt8):Bool:=
 match s with
 | []=>false
 | c::r=>decide (r.length+1<=40)&&letB c&&r.all alnB
def ahg (s:List UInt8):Bool:=decide (s.length<=120)&&(abq 46 s).all adx
def afw (s:List UInt8):Bool:=
 match s with
 | []=>ahg []
 | c::r=>bif c==46 then ahg r else ahg (c::r)
end Go.Ab
namespace Go.Ab
open Go
set_option maxRecDepth 100000
theorem acs {α:Type}{l:List α}{i:Nat} (h:i<l.length) (d:α):l.getD i d∈l:=by rw [afr h];exact List.getElem_mem h
theorem abk {i:Nat} (h:i<=9223372036854775000):IntKind.wrap .i64 ((i:Int)+1)=((i+1:Nat):Int):=ayv (by omega)
theorem geI (a b:Nat):decide ((a:Int)≥(b:Int))=decide (b<=a):=by rw [decide_eq_decide];omega
theorem leI (a b:Nat):decide ((a:Int)<=(b:Int))=decide (a<=b):=by rw [decide_eq_decide];omega
theorem neB (a b:Nat):((a:Int) != (b:Int))=!decide (a=b):=by
 by_cases h:a=b
 ·subst h;simp
 ·have:(a:Int)≠(b:Int):=by omega
  simp [h,this]
theorem eqB (a b:Nat):((a:Int)==(b:Int))=decide (a=b):=by
 by_cases h:a=b
 ·subst h;simp
 ·have:(a:Int)≠(b:Int):=by omega
  simp [h,this]
theorem bam (b c:UInt8):decide (b.toNat=c.toNat)=(b==c):=by
 by_cases h:b=c
 ·subst h;simp
 ·have:b.toNat≠c.toNat:=fun e=>h (UInt8.toNat_inj.1 e)
  rw [decide_eq_false this];symm;simpa using h
def clsN (b:Nat):Int:=bif lowB b then 1 else bif capB b then 2 else bif digB b then 3 else bif decide (b=95) then 4 else 0
theorem avt (b:Nat):F285 0 (b:Int)=some (clsN b):=by
 unfold F285 clsN
 rw [show (97:Int)=((97:Nat):Int) from rfl,show (122:Int)=((122:Nat):Int) from rfl,show (65:Int)=((65:Nat):Int) from rfl,show (90:Int)=((90:Nat):Int) from rfl,show (48:Int)=((48:Nat):Int) from rfl,show (57:Int)=((57:Nat):Int) from rfl,show (95:Int)=((95:Nat):Int) from rfl]
 simp only [geI,leI,eqB,lowB,capB,digB,Bool.decide_and]
 cases decide (97<=b)<;>cases decide (b<=122)<;>cases decide (65<=b)<;>cases decide (b<=90)<;>cases decide (48<=b)<;>cases decide (b<=57)<;>cases decide (b=95)<;>rfl
theorem a5s {b:Nat} (h:128<=b):clsN b=0:=by
 have h1:lowB b=false:=decide_eq_false (by omega)
 have h2:capB b=false:=decide_eq_false (by omega)
 have h3:digB b=false:=decide_eq_false (by omega)
 have h4:decide (b=95)=false:=decide_eq_false (by omega)
 simp only [clsN,h1,h2,h3,h4,cond_false]
theorem cls0 (b:UInt8):(clsN b.toNat==0)=!alnB b:=by
 unfold clsN alnB
 cases lowB b.toNat<;>cases capB b.toNat<;>cases digB b.toNat<;>cases decide (b.toNat=95)<;>rfl
theorem a90 (b:UInt8):(bif (clsN b.toNat != 1) then (clsN b.toNat != 2) else false)=!letB b:=by
 unfold clsN letB
 cases lowB b.toNat<;>cases capB b.toNat<;>cases digB b.toNat<;>cases decide (b.toNat=95)<;>rfl
def okAt (i:Nat) (b:UInt8):Bool:=alnB b&&(!decide (i=0)||letB b)
def aoi:Nat->List UInt8->Bool
 | _,[]=>true
 | i,b::r=>okAt i b&&aoi (i+1) r
theorem axt:∀ (r:List UInt8) (i:Nat),aoi (i+1) r=r.all alnB:=by
 intro r
 induction r with
 | nil=>intro i;rfl
 | cons b r ih=>
  intro i
  rw [aoi,ih,List.all_cons,okAt,decide_eq_false (by omega)]
  simp
theorem az7 (s:List UInt8):∀ (m i:Nat),s.length-i<=m->i<=s.length->∃ z,aba (S202_3step 0) (s,(),s,(i:Int))=some (bif aoi i (s.drop i) then .inr (s,z) else .inl (false,z)):=by
 intro m
 induction m with
 | zero=>
  intro i hm hi
  have hlt:¬i<s.length:=by omega
  rw [List.drop_eq_nil_of_le (by omega)]
  exact ⟨_,aac (by simp only [S202_3step,S202_3,Int.toNat_natCast,hlt,decide_false,cond_false];rfl)⟩
 | succ m ih=>
  intro i hm hi
  by_cases hlt:i<s.length
  ·have e0:((i:Int)==(0:Int))=decide (i=0):=eqB i 0
   rw [aat hlt 0,aoi]
   by_cases ha:byteAt s i<128
   ·have hd:=aez s i ha
    have hc:F285 0 (byteAt s i:Int)=some (clsN (s.getD i 0).toNat):=avt _
    cases hok:okAt i (s.getD i 0) with
    | true=>
     obtain ⟨z,hz⟩:=ih (i+1) (by omega) (by omega)
     refine ⟨z,?_⟩
     rw [Bool.true_and,<-hz]
     refine aaw ?_
     unfold okAt at hok
     simp only [S202_3step,S202_3,Int.toNat_natCast,hlt,decide_true,cond_true,agu,hd,hc,Option.bind_some,cls0,e0]
     cases h1:alnB (s.getD i 0) with
     | false=>rw [h1] at hok;cases hok
     | true=>
      rw [h1] at hok
      cases h2:decide (i=0) with
      | false=>rfl
      | true=>
       rw [h2] at hok
       have h3:=a90 (s.getD i 0)
       have h4:letB (s.getD i 0)=true:=by simpa using hok
       rw [h4] at h3
       simp only [Bool.not_true,cond_false,cond_true]
       rw [h3]
       rfl
    | false=>
     refine ⟨(s,((i+1:Nat):Int)),aac ?_⟩
     unfold okAt at hok
     simp only [S202_3step,S202_3,Int.toNat_natCast,hlt,decide_true,cond_true,agu,hd,hc,Option.bind_some,cls0,e0,Bool.false_and,cond_false]
     cases h1:alnB (s.getD i 0) with
     | false=>rfl
     | true=>
      rw [h1] at hok
      cases h2:decide (i=0) with
      | false=>rw [h2] at hok;simp at hok
      | true=>
       rw [h2] at hok
       have h3:=a90 (s.getD i 0)
       have h4:letB (s.getD i 0)=false:=by simpa using hok
       rw [h4] at h3
       simp only [Bool.not_true,cond_false,cond_true]
       rw [h3]
       rfl
   ·have hh:=ali s i (by omega)
    have hc:=avt (aak s i).1
    rw [a5s hh] at hc
    have hok:okAt i (s.getD i 0)=false:=by
     unfold okAt alnB lowB capB digB
     have:byteAt s i=(s.getD i 0).toNat:=rfl
     rw [<-this,decide_eq_false (by omega),decide_eq_false (by omega),decide_eq_false (by omega),decide_eq_false (by omega)]
     rfl
    refine ⟨(s,((i+(aak s i).2:Nat):Int)),aac ?_⟩
    rw [hok]
    simp only [S202_3step,S202_3,Int.toNat_natCast,hlt,decide_true,cond_true,agu,hc,Option.bind_some,Bool.false_and,cond_false]
    rfl
  ·rw [List.drop_eq_nil_of_le (by omega)]
   exact ⟨_,aac (by simp only [S202_3step,S202_3,Int.toNat_natCast,hlt,decide_false,cond_false];rfl)⟩
theorem ago (s:List UInt8):F202 0 s=some (adx s):=by
 obtain ⟨z,hz⟩:=az7 s s.length 0 (by omega) (by omega)
 unfold F202
 rw [aan,hz,List.drop_zero]
 cases s with
 | nil=>rfl
 | cons c r=>
  rw [aoi,axt]
  have e1:decide (((c::r).length:Int)≥(1:Int))=true:=decide_eq_true (by simp only [List.length_cons];omega)
  have e2:decide (((c::r).length:Int)<=(40:Int))=decide (r.length+1<=40):=leI _ 40
  have e3:okAt 0 c=letB c:=by
   unfold okAt
   cases h:letB c with
   | true=>rw [a2n h];rfl
   | false=>simp
  rw [e3,adx]
  cases letB c<;>cases r.all alnB<;>simp only [Bool.and_false,Bool.and_true,Bool.false_and,Bool.true_and,cond_true,cond_false,Option.bind_some,abo,aa2,e1,e2]
theorem a1a (s:List UInt8) (xs:List (List UInt8)) (hx:xs.length<=9223372036854770000):aba (S140_3step 0) (s,xs.map PV.str,((xs.map PV.str).length:Int),((0:Nat):Int))=some (bif xs.all adx then .inr s else .inl false):=by
 have h:=ai9 (step:=S140_3step 0) (fun i=>(s,xs.map PV.str,((xs.map PV.str).length:Int),(i:Int))) (xs.map PV.str).length (fun i=>adx ((xs.map PV.str).getD i .bad).asStr) (Sum.inl false:Bool⊕List UInt8) (Sum.inr s) (fun i hi=>by
  have hi':i<xs.length:=by simpa using hi
  simp only [S140_3step,S140_3,a7l,aab,hi,decide_true,cond_true,Int.toNat_natCast,ago,Option.bind_some,abk (i:=i) (by omega)]
  cases adx ((xs.map PV.str).getD i .bad).asStr<;>rfl) (by
  simp only [S140_3step,S140_3,a7l,Nat.lt_irrefl,decide_false,cond_false]) (xs.map PV.str).length 0 (by omega)
 rw [a1o (fun x:PV=>adx x.asStr),List.all_map] at h
 exact h
theorem ao9 (c:UInt8):∀ s,(abq c s).length<=s.length+1:=by
 intro s
 induction s with
 | nil=>simp [abq]
 | cons b r ih=>
  simp only [abq]
  cases (b==c)
  ·simp only [cond_false]
   split
   ·rename_i h;rw [h] at ih;simp at ih ⊢;omega
   ·simp
  ·simp;omega
theorem ase (s:List UInt8) (hs:s.length<=1048576):al6 0 s ([46]:List UInt8)=some ((abq 46 s).map PV.str):=by
 unfold al6
 have:Nat.blt s.length 4294967281=true:=by rw [Nat.blt_eq];omega
 simp only [this,cond_true]
theorem ajk (s:List UInt8) (hs:s.length<=1048576):F140 0 s=some (ahg s):=by
 have hl:=ao9 46 s
 unfold F140 ahg
 have e:decide ((s.length:Int)<=(120:Int))=decide (s.length<=120):=leI _ 120
 rw [ase s hs,Option.bind_some,aan,show (0:Int)=((0:Nat):Int) from rfl,a1a s _ (by omega)]
 cases (abq 46 s).all adx
 ·simp [sumE]
 ·simp [sumE,e]
noncomputable def akt (s:List UInt8):Bool:=(F294 0 s).getD false
theorem ay1 (s:List UInt8):F294 0 s=some (akt s):=by
 unfold akt
 simp only [F294,a4d,Option.getD_some]
theorem a3o (s:List UInt8):F200 0 s=some (akt s):=by
 rw [<-ay1];rfl
noncomputable def a4x (s:List UInt8):Bool:=adx s&&!akt s
noncomputable def defP (s:List UInt8):Bool:=ahg s&&(abq 46 s).all fun x=>!akt x
end Go.Ab
namespace Go.Ab
open Go
set_option maxRecDepth 100000
theorem nbeq (a b:Nat):((a:Int)==(b:Int))=decide (a=b):=by
 by_cases h:a=b
 ·simp [h]
 ·simp [h];omega
theorem ahx {n:Nat} (h:n<=4611686018427387904):decide (n<=aa9)=true:=decide_eq_true h
theorem axj:((List.range 256).all fun b=>F311 0 (b:Int)==some (92::120::hex2 b))=true:=by kernel_rfl
theorem az2 {b:Nat} (h:b<256):F311 0 (b:Int)=some (92::120::hex2 b):=by
 have:=List.all_eq_true.1 axj b (List.mem_range.2 h)
 simpa using this
theorem a3z:((List.range 256).all fun b=>F244 0 (b:Int)==some (hex2 b))=true:=by kernel_rfl
theorem a9n {b:Nat} (h:b<256):F244 0 (b:Int)=some (hex2 b):=by
 have:=List.all_eq_true.1 a3z b (List.mem_range.2 h)
 simpa using this
theorem a8u (s:List UInt8) (i:Nat) (hi:i<s.length):F240 0 s (i:Int) ((aak s i).1:Int)=some (ags s i):=by
 unfold F240 ags
 have hw:=awf s i hi
 have hb:((s.getD ((i:Int)).toNat 0).toNat:Int)=(byteAt s i:Int):=rfl
 have he:=az2 (abz s i)
 have hr:aaa (i:Int) s.length=true:=by rw [aab,decide_eq_true hi]
 have k34:(((aak s i).1:Int)==(34:Int))=decide ((aak s i).1=34):=nbeq _ 34
 have k92:(((aak s i).1:Int)==(92:Int))=decide ((aak s i).1=92):=nbeq _ 92
 have k10:(((aak s i).1:Int)==(10:Int))=decide ((aak s i).1=10):=nbeq _ 10
 have k9:(((aak s i).1:Int)==(9:Int))=decide ((aak s i).1=9):=nbeq _ 9
 have k13:(((aak s i).1:Int)==(13:Int))=decide ((aak s i).1=13):=nbeq _ 13
 have k127:(((aak s i).1:Int)==(127:Int))=decide ((aak s i).1=127):=nbeq _ 127
 have k32:decide (((aak s i).1:Int)<(32:Int))=decide ((aak s i).1<32):=abn _ 32
 simp only [k34,k92,k10,k9,k13,k127,k32,hw,hr,hb,he,cond_true,Option.bind_some]
 by_cases ha:byteAt s i<128
 ·rw [aez s i ha,ahu s i ha]
  have hw1:=aiu s i hi (by rw [ahu s i ha];decide)
  rw [aez s i ha,ahu s i ha] at hw1
  simp only [hw1]
  by_cases c1:byteAt s i=34
  ·simp [c1]
  by_cases c2:byteAt s i=92
  ·simp [c2]
  by_cases c3:byteAt s i=10
  ·simp [c3]
  by_cases c4:byteAt s i=9
  ·simp [c4]
  by_cases c5:byteAt s i=13
  ·simp [c5]
  simp only [c1,c2,c3,c4,c5,decide_false,cond_false,if_false]
  by_cases c6:byteAt s i<32
  ·simp [c6]
  ·by_cases c7:byteAt s i=127
   ·simp [c7]
   ·simp [c6,c7]
 ·have hh:=ali s i (by omega)
  have d1:decide ((aak s i).1=34)=false:=decide_eq_false (by omega)
  have d2:decide ((aak s i).1=92)=false:=decide_eq_false (by omega)
  have d3:decide ((aak s i).1=10)=false:=decide_eq_false (by omega)
  have d4:decide ((aak s i).1=9)=false:=decide_eq_false (by omega)
  have d5:decide ((aak s i).1=13)=false:=decide_eq_false (by omega)
  have d6:decide ((aak s i).1=127)=false:=decide_eq_false (by omega)
  have d7:decide ((aak s i).1<32)=false:=decide_eq_false (by omega)
  have e1:¬byteAt s i=34:=by omega
  have e2:¬byteAt s i=92:=by omega
  have e3:¬byteAt s i=10:=by omega
  have e4:¬byteAt s i=9:=by omega
  have e5:¬byteAt s i=13:=by omega
  have e6:¬byteAt s i=127:=by omega
  have e7:¬byteAt s i<32:=by omega
  simp only [d1,d2,d3,d4,d5,d6,d7,e1,e2,e3,e4,e5,e6,e7,cond_false,Bool.not_false,cond_true,Option.bind_some,if_false,false_or]
  by_cases h0:sizeAt s i=0
  ·simp [h0]
  ·simp only [h0,decide_false,cond_false,if_false]
   rw [aiu s i hi h0]
theorem axk (s:List UInt8):∀ (m i:Nat) (acc:List UInt8),s.length-i<=m->i<=s.length->acc.length+4*(s.length-i)<=140737488355328->
 ∃ z,aba (S134_5step 0) (s,(),(),acc,s,(i:Int))=some ((),acc++aaq s i,s,z):=by
 intro m
 induction m with
 | zero=>
  intro i acc hm hi hb
  have hlt:¬i<s.length:=by omega
  rw [aaq,if_neg hlt]
  refine ⟨(i:Int),aac ?_⟩
  simp only [S134_5step,S134_5,Int.toNat_natCast,hlt,decide_false,cond_false,List.append_nil]
 | succ m ih=>
  intro i acc hm hi hb
  by_cases hlt:i<s.length
  ·have hp:=am5 s i hlt
   have hl:=aj4 s i hlt
   have hl1:=aee s i
   obtain ⟨z,hz⟩:=ih (i+abr s i) (acc++ags s i) (by omega) (by omega) (by rw [List.length_append];omega)
   refine ⟨z,?_⟩
   rw [aaq,if_pos hlt,<-List.append_assoc,<-hz]
   refine aaw ?_
   have hw:Nat.ble (acc.length+(ags s i).length) 140737488355328=true:=by rw [Nat.ble_eq];omega
   simp only [S134_5step,S134_5,Int.toNat_natCast,hlt,decide_true,cond_true,agu,a8u s i hlt,a33 s i hlt,Option.bind_some,abf,hw]
  ·have hlt':¬i<s.length:=hlt
   rw [aaq,if_neg hlt]
   refine ⟨(i:Int),aac ?_⟩
   simp only [S134_5step,S134_5,Int.toNat_natCast,hlt,decide_false,cond_false,List.append_nil]
theorem az0 (s:List UInt8):(aa4 s).length<=4*s.length+2:=by
 have:=af4 s s.length 0 (by omega)
 simp [aa4];omega
theorem akz (s:List UInt8) (hs:s.length<=1048576):F134 0 s=some (aa4 s):=by
 obtain ⟨z,hz⟩:=axk s s.length 0 [34] (by omega) (by omega) (by simp;omega)
 have hq:=af4 s s.length 0 (by omega)
 unfold F134
 have w1:abf 0 ([34]:List UInt8) []=some (1,.nilIface,[34]):=rfl
 have w2:Nat.ble (([34]++aaq s 0).length+1) 140737488355328=true:=by rw [Nat.ble_eq];simp;omega
 simp only [w1,Option.bind_some,aan,hz]
 simp only [abf,List.length_cons,List.length_nil,Nat.zero_add,w2,cond_true,Option.bind_some,alx]
 simp [aa4]
theorem aqx (s:List UInt8) (hs:s.length<=9223372036854775000) (i:Nat) (acc:List UInt8) (hi:i<s.length) (hb:acc.length<=4611686018427380000):
 S139_4step 0 (s,acc,(i:Int))=some (.inl (s,acc++ags s i,((i+abr s i:Nat):Int))):=by
 have hz:=alp s i hi
 have hbb:((s.getD i 0).toNat:Int)=(byteAt s i:Int):=rfl
 have hr:aaa (i:Int) s.length=true:=by rw [aab,decide_eq_true hi]
 have k34:((byteAt s i:Int)==(34:Int))=decide (byteAt s i=34):=nbeq _ 34
 have k92:((byteAt s i:Int)==(92:Int))=decide (byteAt s i=92):=nbeq _ 92
 have k10:((byteAt s i:Int)==(10:Int))=decide (byteAt s i=10):=nbeq _ 10
 have k9:((byteAt s i:Int)==(9:Int))=decide (byteAt s i=9):=nbeq _ 9
 have k13:((byteAt s i:Int)==(13:Int))=decide (byteAt s i=13):=nbeq _ 13
 have k127:((byteAt s i:Int)==(127:Int))=decide (byteAt s i=127):=nbeq _ 127
 have k32:decide ((byteAt s i:Int)<(32:Int))=decide (byteAt s i<32):=abn _ 32
 have k0:((sizeAt s i:Int)==(0:Int))=decide (sizeAt s i=0):=nbeq _ 0
 have w1:IntKind.wrap .i64 ((i:Int)+(1:Int))=((i+1:Nat):Int):=ayv (by omega)
 have w2:IntKind.wrap .i64 ((i:Int)+(sizeAt s i:Int))=((i+sizeAt s i:Nat):Int):=wadd (by omega)
 have hsl:decide ((0:Int)<=(i:Int)/\(i:Int)<=((i+sizeAt s i:Nat):Int)/\((i+sizeAt s i:Nat):Int)<=(s.length:Int))=true:=decide_eq_true (by omega)
 have htk:(s.take (i+sizeAt s i)).drop i=(s.drop i).take (sizeAt s i):=by rw [List.drop_take];congr 1;omega
 have hst:(bif decide (sizeAt s i=0) then ((i+1:Nat):Int) else ((i+sizeAt s i:Nat):Int))=((i+abr s i:Nat):Int):=by
  unfold abr
  by_cases h:sizeAt s i=0
  ·simp [h]
  ·simp [h]
 have hfin:∀ t:List UInt8,(bif decide (sizeAt s i=0) then some (Sum.inl (s,t,((i+1:Nat):Int))) else some (Sum.inl (s,t,((i+sizeAt s i:Nat):Int))))=(some (.inl (s,t,((i+abr s i:Nat):Int))):Option (((List UInt8)×(List UInt8)×Int)⊕(((List UInt8))))):=by
  intro t
  rw [<-hst]
  cases decide (sizeAt s i=0)<;>rfl
 simp only [S139_4step,S139_4,abn,hi,decide_true,cond_true,size_eq s i hi hs,Option.bind_some,hr,hbb,k34,k92,k10,k9,k13,k127,k32,k0,w1,w2,hsl,Int.toNat_natCast,htk,a9n (abz s i)]
 unfold ags
 have l2:∀ a b:UInt8,decide (acc.length+[a,b].length<=aa9)=true:=fun a b=>ahx (by simp;omega)
 have l4:∀ a b c d:UInt8,decide ((acc++[a,b]).length+[c,d].length<=aa9)=true:=fun a b c d=>ahx (by simp;omega)
 have ls:decide (acc.length+((s.drop i).take (sizeAt s i)).length<=aa9)=true:=ahx (by simp;omega)
 have l5:decide (acc.length+2+2<=aa9)=true:=ahx (by omega)
 simp only [l2,ls,hex2,l4,cond_true,hfin]
 by_cases c1:byteAt s i=34
 ·simp [c1]
 by_cases c2:byteAt s i=92
 ·simp [c2]
 by_cases c3:byteAt s i=10
 ·simp [c3]
 by_cases c4:byteAt s i=9
 ·simp [c4]
 by_cases c5:byteAt s i=13
 ·simp [c5]
 simp only [c1,c2,c3,c4,c5,decide_false,cond_false,if_false]
 by_cases c6:byteAt s i<32
 ·simp [c6,l5]
 ·by_cases c7:byteAt s i=127
  ·simp [c7,l5]
  ·by_cases c8:sizeAt s i=0
   ·simp [c6,c7,c8,l5]
   ·simp [c6,c7,c8]
theorem apz (s:List UInt8) (hs:s.length<=1048576):∀ (m i:Nat) (acc:List UInt8),s.length-i<=m->i<=s.length->acc.length+4*(s.length-i)<=140737488355328->
 aba (S139_4step 0) (s,acc,(i:Int))=some (acc++aaq s i):=by
 intro m
 induction m with
 | zero=>
  intro i acc hm hi hb
  have hlt:¬i<s.length:=by omega
  rw [aaq,if_neg hlt]
  refine aac ?_
  simp only [S139_4step,S139_4,abn,hlt,decide_false,cond_false,List.append_nil]
 | succ m ih=>
  intro i acc hm hi hb
  by_cases hlt:i<s.length
  ·have hp:=am5 s i hlt
   have hl:=aj4 s i hlt
   have hl1:=aee s i
   rw [aaq,if_pos hlt,<-List.append_assoc,<-ih (i+abr s i) (acc++ags s i) (by omega) (by omega) (by rw [List.length_append];omega)]
   exact aaw (aqx s (by omega) i acc hlt (by omega))
  ·rw [aaq,if_neg hlt]
   refine aac ?_
   simp only [S139_4step,S139_4,abn,hlt,decide_false,cond_false,List.append_nil]
theorem alq (s:List UInt8) (hs:s.length<=1048576):F139 0 s=some (aa4 s):=by
 have hz:=apz s hs s.length 0 [34] (by omega) (by omega) (by simp;omega)
 have hq:=af4 s s.length 0 (by omega)
 unfold F139
 rw [aan,show (0:Int)=((0:Nat):Int) from rfl,hz,Option.bind_some,ahx (by simp;omega)]
 simp [aa4]
end Go.Ab
namespace Go.Ab
open Go
theorem bneI {a b:Int} (h:a≠b):(a != b)=true:=by simp [h]
theorem beqI {a b:Int} (h:a≠b):(a==b)=false:=by simp [h]
def aew:List UInt8:=[100,101,112,114,101,99,97,116,101,100]
def ak6:List UInt8:=[115,101,99,114,101,116]
def ae4:List UInt8:=[105,100,101,109,112,111,116,101,110,116]
def a4k:List UInt8:=[100,111,99]
def aq5:List UInt8:=[97,108,105,97,115]
def aqf:List UInt8:=[114,111,117,116,101]
def apy:List UInt8:=[111,119,110,101,114]
def apn:List UInt8:=[115,105,110,99,101]
def aqd:List UInt8:=[117,110,116,105,108]
def alc:List UInt8:=[108,101,110,103,116,104]
def aiy:List UInt8:=[116,105,109,101,111,117,116]
def a5r:List UInt8:=[109,105,110]
def a5f:List UInt8:=[109,97,120]
def ac2:List (List UInt8):=[aew,ak6,ae4,a4k,aq5,aqf,apy,apn,aqd,alc,aiy,a5r,a5f]
noncomputable def aai (name:List UInt8):Int:=(F152 0 name).getD 0
theorem atw {name:List UInt8} (h:name∉ac2):(name==aew)=false/\(name==ak6)=false/\(name==ae4)=false/\(name==a4k)=false/\(name==aq5)=false/\(name==aqf)=false/\(name==apy)=false/\
 (name==apn)=false/\(name==aqd)=false/\(name==alc)=false/\(name==aiy)=false/\(name==a5r)=false/\(name==a5f)=false:=by
 simp only [ac2,List.mem_cons,List.not_mem_nil,or_false,not_or] at h
 simp only [beq_eq_false_iff_ne,ne_eq]
 exact h
theorem ah4 {name:List UInt8} (h:name∉ac2):aai name=0:=by
 obtain ⟨h1,h2,h3,h4,h5,h6,h7,h8,h9,h10,h11,h12,h13⟩:=atw h
 unfold aew at h1
 unfold ak6 at h2
 unfold ae4 at h3
 unfold a4k at h4
 unfold aq5 at h5
 unfold aqf at h6
 unfold apy at h7
 unfold apn at h8
 unfold aqd at h9
 unfold alc at h10
 unfold aiy at h11
 unfold a5r at h12
 unfold a5f at h13
 simp only [aai,F152,h1,h2,h3,h4,h5,h6,h7,h8,h9,h10,h11,h12,h13,cond_false,Option.getD_some]
noncomputable def aqm:List (PV×PV):=(F145 0).getD []
theorem a7f:F145 0=some aqm:=by kernel_rfl
theorem aus:aqm=[(.str aew,.agg [.int 1,.int 126]),(.str a4k,.agg [.int 7,.int 126]),(.str aq5,.agg [.int 7,.int 84]),(.str apn,.agg [.int 4,.int 84]),(.str aqd,.agg [.int 4,.int 84]),(.str a5r,.agg [.int 3,.int 4]),(.str a5f,.agg [.int 3,.int 4]),
 (.str alc,.agg [.int 4,.int 4]),(.str ak6,.agg [.int 1,.int 4]),(.str ae4,.agg [.int 1,.int 64]),(.str aiy,.agg [.int 4,.int 64]),(.str aqf,.agg [.int 7,.int 64]),(.str apy,.agg [.int 7,.int 34])]:=by kernel_rfl
theorem asp {name:List UInt8} (h:name∉ac2):PV.mget aqm (.str name)=none:=by
 obtain ⟨h1,h2,h3,h4,h5,h6,h7,h8,h9,h10,h11,h12,h13⟩:=atw h
 rw [aus]
 simp only [PV.mget,List.find?,aju,h1,h2,h3,h4,h5,h6,h7,h8,h9,h10,h11,h12,h13,Option.map_none]
theorem a9l (name:List UInt8):F71 0 name=some (aai name):=by
 by_cases h:name∈ac2
 ·simp only [ac2,List.mem_cons,List.not_mem_nil,or_false] at h
  rcases h with rfl | rfl | rfl | rfl | rfl | rfl | rfl | rfl | rfl | rfl | rfl | rfl | rfl
  all_goals (refine Eq.trans (b:=_) ?_ rfl;kernel_rfl)
 ·rw [ah4 h]
  unfold F71
  rw [a7f,Option.bind_some,asp h]
  rfl
def amt (v:PV):Int:=(v.fld 0).asInt
def ad6 (v:PV):Int:=(v.fld 1).asInt
def aer (v:PV):List UInt8:=(v.fld 2).asStr
def vLists (v:PV):Nat:=(v.fld 3).asList.length+(v.fld 4).asList.length+(v.fld 5).asList.length+(v.fld 6).asList.length
def awr (v:PV):Prop:=vLists v<=1048576/\(aer v).length<=1048576/\0<=ad6 v/\ad6 v<18446744073709551616
def akc (k:Int):Bool:=decide (1<=k/\k<=9)
def adb (k:Int):Bool:=k==7||k==8
def abt (k bits:Int):Bool:=
 if k=1 then decide (bits<=1) else if k=2 then decide (-2147483648<=IntKind.wrap .i64 bits/\IntKind.wrap .i64 bits<=2147483647) else if k=4 then decide (bits<4294967296) else if k=9 then decide (bits<2147483648) else true
def ayn (k:Int) (v:PV):Bool:=
 akc k&&(amt v==k)&&decide (vLists v=0)&&(if adb k then (ad6 v==0)&&decide ((aer v).length<=4096)&&((k==8)||valid (aer v)) else (aer v==[])&&abt k (ad6 v))
theorem bay (a b c d:List PV):(bif (bif (bif ((a.length:Int)==(0:Int)) then ((b.length:Int)==(0:Int)) else false) then ((c.length:Int)==(0:Int)) else false) then ((d.length:Int)==(0:Int)) else false)=decide (a.length+b.length+c.length+d.length=0):=by
 cases a<;>cases b<;>cases c<;>cases d<;>simp<;>omega
theorem aud (k:Int) (v:PV) (hs:awr v):F153 0 k v=some (ayn k v):=by
 have hv:F259 0 (aer v)=some (valid (aer v)):=alu _ (by have:=hs.2.1;omega)
 have e0:(v.fld 0).asInt=amt v:=rfl
 have e1:(v.fld 1).asInt=ad6 v:=rfl
 have e2:(v.fld 2).asStr=aer v:=rfl
 have i1:(bif decide (k≥(1:Int)) then decide (k<=(9:Int)) else false)=akc k:=by
  unfold akc
  by_cases h:k≥1<;>simp [h]<;>omega
 have i2:(bif (k==(7:Int)) then true else (k==(8:Int)))=adb k:=by
  unfold adb;cases (k==7)<;>rfl
 unfold F153 F256 F257 F258
 simp only [Option.bind_some,bay,i1,i2,e0,e1,e2,hv,gb]
 unfold ayn
 have eL:(v.fld 3).asList.length+(v.fld 4).asList.length+(v.fld 5).asList.length+(v.fld 6).asList.length=vLists v:=rfl
 simp only [eL]
 cases h1:akc k
 ·simp
 cases h2:(amt v==k)
 ·have:(amt v != k)=true:=by simp [bne,h2]
  simp [this]
 have h2':(amt v != k)=false:=by simp [bne,h2]
 simp only [h2',Bool.not_true,cond_false,Bool.not_false,Bool.true_and,cond_true]
 cases h3:decide (vLists v=0)
 ·simp
 simp only [Bool.not_true,cond_false,Bool.true_and]
 cases h4:adb k
 ·simp only [cond_false,Bool.false_eq_true,if_false]
  cases h5:(aer v==[])
  ·simp
  simp only [Bool.not_true,cond_false,Bool.true_and]
  unfold abt
  by_cases k1:k=1
  ·subst k1;simp
  have k1':(k==1)=false:=by simp [k1]
  simp only [k1',cond_false,if_neg k1]
  by_cases k2:k=2
  ·subst k2
   simp only [beq_self_eq_true,cond_true,if_true,ge_iff_le,Bool.decide_and]
   cases decide (-2147483648<=IntKind.wrap .i64 (ad6 v))<;>rfl
  have k2':(k==2)=false:=by simp [k2]
  simp only [k2',cond_false,if_neg k2]
  by_cases k4:k=4
  ·subst k4;simp
  have k4':(k==4)=false:=by simp [k4]
  simp only [k4',cond_false,if_neg k4]
  by_cases k9:k=9
  ·subst k9;simp
  have k9':(k==9)=false:=by simp [k9]
  simp only [k9',cond_false,if_neg k9]
 ·simp only [cond_true,if_true]
  have hl:decide (((aer v).length:Int)<=4096)=decide ((aer v).length<=4096):=by simp;omega
  simp only [hl]
  cases (ad6 v==0)<;>cases decide ((aer v).length<=4096)<;>cases (k==8)<;>simp
theorem a62 (k:Int) (v:PV) (hs:awr v):F146 0 k v=some (ayn k v):=by
 have hv:F185 0 (aer v)=some (valid (aer v)):=awn _
 have e0:(v.fld 0).asInt=amt v:=rfl
 have e1:(v.fld 1).asInt=ad6 v:=rfl
 have e2:(v.fld 2).asStr=aer v:=rfl
 have i1:(bif decide (k≥(1:Int)) then decide (k<=(9:Int)) else false)=akc k:=by
  unfold akc
  by_cases h:k≥1<;>simp [h]<;>omega
 have eL:(v.fld 3).asList.length+(v.fld 4).asList.length+(v.fld 5).asList.length+(v.fld 6).asList.length=vLists v:=rfl
 have hL:=hs.1
 have w1:IntKind.wrap .i64 (((v.fld 3).asList.length:Int)+((v.fld 4).asList.length:Int))=(((v.fld 3).asList.length+(v.fld 4).asList.length:Nat):Int):=wadd (by unfold vLists at hL;omega)
 have w2:IntKind.wrap .i64 ((((v.fld 3).asList.length+(v.fld 4).asList.length:Nat):Int)+((v.fld 5).asList.length:Int))=(((v.fld 3).asList.length+(v.fld 4).asList.length+(v.fld 5).asList.length:Nat):Int):=wadd (by unfold vLists at hL;omega)
 have w3:IntKind.wrap .i64 ((((v.fld 3).asList.length+(v.fld 4).asList.length+(v.fld 5).asList.length:Nat):Int)+((v.fld 6).asList.length:Int))=(((v.fld 3).asList.length+(v.fld 4).asList.length+(v.fld 5).asList.length+(v.fld 6).asList.length:Nat):Int):=wadd (by unfold vLists at hL;omega)
 have tk:∀ k:Int,(bif (k==(7:Int)) then true else (k==(8:Int)))=adb k:=fun k=>by
  unfold adb;cases (k==7)<;>rfl
 unfold F146 F248 F249 F250 F307
 simp only [Option.bind_some,i1,tk,e0,e1,e2,hv,gb,w1,w2,w3,eL]
 have hrange:(bif (k==(1:Int)) then some (decide (ad6 v<=1)) else bif (k==(2:Int)) then some (bif decide (IntKind.wrap .i64 (ad6 v)≥-2147483648) then decide (IntKind.wrap .i64 (ad6 v)<=2147483647) else false) else
  bif (k==(9:Int)) then some (decide (ad6 v<=2147483647)) else bif (k==(4:Int)) then some (decide (ad6 v<=4294967295)) else some true)=some (abt k (ad6 v)):=by
  unfold abt
  by_cases k1:k=1
  ·subst k1;simp
  have k1':(k==1)=false:=by simp [k1]
  simp only [k1',cond_false,if_neg k1]
  by_cases k2:k=2
  ·subst k2
   simp only [beq_self_eq_true,cond_true,if_true,ge_iff_le,Bool.decide_and]
   cases decide (-2147483648<=IntKind.wrap .i64 (ad6 v))<;>rfl
  have k2':(k==2)=false:=by simp [k2]
  simp only [k2',cond_false,if_neg k2]
  by_cases k9:k=9
  ·subst k9
   have:decide (ad6 v<=2147483647)=decide (ad6 v<2147483648):=by rw [decide_eq_decide];omega
   simp [this]
  have k9':(k==9)=false:=by simp [k9]
  simp only [k9',cond_false,if_neg k9]
  by_cases k4:k=4
  ·subst k4
   have:decide (ad6 v<=4294967295)=decide (ad6 v<4294967296):=by rw [decide_eq_decide];omega
   simp [this]
  have k4':(k==4)=false:=by simp [k4]
  simp only [k4',cond_false,if_neg k4]
 rw [hrange]
 unfold ayn
 cases h1:akc k
 ·simp
 cases h2:(amt v==k)
 ·have:(amt v != k)=true:=by simp [bne,h2]
  simp [this]
 have h2':(amt v != k)=false:=by simp [bne,h2]
 have h2e:amt v=k:=by simpa using h2
 rw [h2e]
 have h2k:(k != k)=false:=by simp
 simp only [h2k,Bool.not_true,cond_false,Bool.not_false,Bool.true_and,cond_true]
 by_cases h3:vLists v=0
 ·have h3':decide ((vLists v:Int)>0)=false:=by simp;omega
  simp only [h3',cond_false,h3,decide_true,Bool.true_and]
  have hl:decide (((aer v).length:Int)>4096)=!decide ((aer v).length<=4096):=by
   by_cases q:(aer v).length<=4096
   ·simp [q];omega
   ·simp [q];omega
  cases h4:adb k
  ·simp only [cond_false,Bool.false_eq_true,if_false,Option.bind_some]
   have k7:(k != 7)=true:=by
    unfold adb at h4;simp at h4;simp [h4.1]
   simp only [k7,cond_true]
   cases h5:(aer v==[])
   ·simp
   ·have:aer v=[]:=by simpa using h5
    simp only [hl,this]
    cases abt k (ad6 v)<;>simp
  ·simp only [cond_true,if_true,Option.bind_some]
   have hr:abt k (ad6 v)=true:=by
    unfold adb at h4;simp at h4
    unfold abt
    rcases h4 with rfl | rfl<;>simp
   simp only [hr,hl]
   have k78:k=7∨k=8:=by unfold adb at h4;simpa using h4
   rcases k78 with rfl | rfl
   ·cases (ad6 v==0)<;>cases decide ((aer v).length<=4096)<;>simp
   ·cases (ad6 v==0)<;>cases decide ((aer v).length<=4096)<;>simp
 ·have h3':decide ((vLists v:Int)>0)=true:=by simp;omega
  simp only [h3',cond_true,Option.bind_some,h3,decide_false,Bool.not_false,Bool.not_true,cond_false,Bool.false_and]
end Go.Ab
namespace Go.Ab
open Go
set_option maxRecDepth 100000
def preD (u:Nat):List UInt8:=if u<10 then [] else Lib.decDigits (u / 10)
theorem a1y (u:Nat):preD u++[UInt8.ofNat (48+u%10)]=Lib.decDigits u:=by
 have e:=Lib.decDigits.eq_1 u
 unfold preD
 rw [e]
 by_cases h:u<10
 ·rw [if_pos h,dif_pos h,Nat.mod_eq_of_lt h];rfl
 ·rw [if_neg h,dif_neg h]
theorem a4b:∀ (f u:Nat),(decF f u).length<=f:=by
 intro f
 induction f with
 | zero=>intro u;simp [decF]
 | succ f ih=>
  intro u
  unfold decF
  cases Nat.ble u 9 with
  | true=>simp
  | false=>have:=ih (u / 10);simp;omega
theorem ak2 (u:Nat):(decB u).length<=20:=a4b 20 u
end Go.Ab
namespace Go.Ab
open Go
set_option maxRecDepth 100000
theorem azb:((List.range 16).all fun d=>(([48,49,50,51,52,53,54,55,56,57,97,98,99,100,101,102,103,104,105,106,107,108,109,110,111,112,113,114,115,116,117,118,119,120,121,122]:List UInt8).getD d 0)==hexd d)=true:=by kernel_rfl
theorem a7k {d:Nat} (h:d<16):(([48,49,50,51,52,53,54,55,56,57,97,98,99,100,101,102,103,104,105,106,107,108,109,110,111,112,113,114,115,116,117,118,119,120,121,122]:List UInt8).getD d 0)=hexd d:=by
 have:=List.all_eq_true.1 azb d (List.mem_range.2 h)
 simpa using this
theorem agr (b:UInt8):aap (PV.int (b.toNat:Int))=b:=by
 show UInt8.ofNat ((b.toNat:Int)).toNat=b
 rw [Int.toNat_natCast,UInt8.ofNat_toNat]
theorem awq {α:Type} (l:List α) (i:Nat) (x:α) (h:i<l.length):(l.set i x).drop i=x::l.drop (i+1):=by
 rw [List.drop_set,if_neg (Nat.lt_irrefl i),Nat.sub_self,List.drop_eq_getElem_cons h]
 rfl
theorem a1s:∀ (k u i:Nat) (ps:List PV),u<16^(k+1)->u<18446744073709551616->k+1<=i->i<=65->ps.length=65->
 ∃ (u' i':Nat) (ps':List PV),aba (S315_12step 0) ([],(u:Int),false,false,[],([]:List UInt8),(),(i:Int),(4:Int),(16:Int),(15:Int),PV.agg ps)=some ([],(u':Int),false,false,[],([]:List UInt8),(),(i':Int),PV.agg ps')/\
  u'<16/\1<=i'/\i'<=65/\ps'.length=65/\hexd u'::(ps'.drop i').map aap=hexF (k+1) u++(ps.drop i).map aap:=by
 intro k
 induction k with
 | zero=>
  intro u i ps hu h64 hi hi2 hl
  have h16:u<16:=by simpa using hu
  have hd:decide ((u:Int)≥(16:Int))=false:=decide_eq_false (by omega)
  refine ⟨u,i,ps,aac ?_,h16,hi,hi2,hl,?_⟩
  ·simp only [S315_12step,S315_12,hd,cond_false]
  ·rw [hexF,if_pos h16];rfl
 | succ k ih=>
  intro u i ps hu h64 hi hi2 hl
  by_cases h16:u<16
  ·have hd:decide ((u:Int)≥(16:Int))=false:=decide_eq_false (by omega)
   refine ⟨u,i,ps,aac ?_,h16,by omega,hi2,hl,?_⟩
   ·simp only [S315_12step,S315_12,hd,cond_false]
   ·rw [hexF,if_pos h16];rfl
  ·have hd:decide ((u:Int)≥(16:Int))=true:=decide_eq_true (by omega)
   have hm:u%16<16:=Nat.mod_lt _ (by decide)
   obtain ⟨u',i',ps',h1,h2,h3,h4,h5,h6⟩:=ih (u / 16) (i-1) (ps.set (i-1) (PV.int ((hexd (u%16)).toNat:Int))) (by rw [Nat.pow_succ] at hu;omega) (by omega) (by omega) (by omega) (by simp [hl])
   refine ⟨u',i',ps',?_,h2,h3,h4,h5,?_⟩
   ·rw [<-h1]
    refine aaw ?_
    have hw:IntKind.wrap .i64 ((i:Int)-(1:Int))=((i-1:Nat):Int):=by
     rw [show (i:Int)-1=((i-1:Nat):Int) by omega];exact ahh (by omega)
    have hb:afj .and .u64 (u:Int) (15:Int)=((u%16:Nat):Int):=by
     have:=aja u 15 h64 (by decide)
     rw [show u &&& 15=u%16 from Nat.and_two_pow_sub_one_eq_mod u 4] at this
     exact this
    have hr1:aaa ((u%16:Nat):Int) (([48,49,50,51,52,53,54,55,56,57,97,98,99,100,101,102,103,104,105,106,107,108,109,110,111,112,113,114,115,116,117,118,119,120,121,122]:List UInt8).length)=true:=by
     rw [aab];exact decide_eq_true (Nat.lt_of_lt_of_le hm (by decide))
    have hr2:aaa ((i-1:Nat):Int) 65=true:=by rw [aab];exact decide_eq_true (by omega)
    have h04:decide ((0:Int)<=(4:Int))=true:=rfl
    have hdiv:(u:Int).fdiv (2^(min (4:Int).toNat (IntKind.bits .u64)))=((u / 16:Nat):Int):=by
     show (u:Int).fdiv 16=_
     rw [Int.fdiv_eq_ediv_of_nonneg _ (by decide)];rfl
    simp only [S315_12step,S315_12,hd,cond_true,hw,hb,hr1,hr2,h04,hdiv,Int.toNat_natCast,a7k hm]
    rfl
   ·rw [h6,show hexF (k+1+1) u=hexF (k+1) (u / 16)++[hexd (u%16)] by rw [hexF,if_neg h16],List.append_assoc]
    congr 1
    rw [awq _ _ _ (by omega),show i-1+1=i by omega,List.map_cons,agr]
    rfl
def a1m (y81:((List PV)×Int×Bool×Bool×(List PV)×(List UInt8)×Unit×Int×PV)):Option ((List PV)×(List UInt8)):=
 let x83:=IntKind.wrap .i64 (y81.2.2.2.2.2.2.2.1-(1:Int))
 let x84:=y81.2.1
 bif aaa x84 (([48,49,50,51,52,53,54,55,56,57,97,98,99,100,101,102,103,104,105,106,107,108,109,110,111,112,113,114,115,116,117,118,119,120,121,122]:List UInt8).length) then
 let x85:=((([48,49,50,51,52,53,54,55,56,57,97,98,99,100,101,102,103,104,105,106,107,108,109,110,111,112,113,114,115,116,117,118,119,120,121,122]:List UInt8).getD x84.toNat 0).toNat:Int)
 bif aaa x83 65 then
 bif y81.2.2.1 then
  let x87:=IntKind.wrap .i64 (x83-(1:Int))
  bif aaa x87 65 then
  bif y81.2.2.2.1 then
   bif decide (0<=x87/\x87<65/\x87<=(65:Int)/\(65:Int)<=65) then
   none
   else none
  else
   bif decide (0<=x87/\x87<65/\x87<=(65:Int)/\(65:Int)<=65) then
   let x90:=(((PV.agg ((PV.agg (y81.2.2.2.2.2.2.2.2.parts.set x83.toNat (PV.int x85))).parts.set x87.toNat (PV.int (45:Int)))).parts.drop x87.toNat).take ((65:Int).toNat-x87.toNat)).map aap
   some (y81.2.2.2.2.1,x90)
   else none
  else none
 else
  bif y81.2.2.2.1 then
   bif decide (0<=x83/\x83<65/\x83<=(65:Int)/\(65:Int)<=65) then
   none
   else none
  else
   bif decide (0<=x83/\x83<65/\x83<=(65:Int)/\(65:Int)<=65) then
   let x93:=(((PV.agg (y81.2.2.2.2.2.2.2.2.parts.set x83.toNat (PV.int x85))).parts.drop x83.toNat).take ((65:Int).toNat-x83.toNat)).map aap
   some (y81.2.2.2.2.1,x93)
   else none
 else none
 else none
theorem a2f (u:Int):F315 0 [] u 16 false false=(aba (S315_12step 0) ([],u,false,false,[],([]:List UInt8),(),(65:Int),(4:Int),(16:Int),(15:Int),PV.agg (List.replicate 65 (PV.int (0:Int))))).bind a1m:=by kernel_rfl
theorem fmt16 (u:Nat) (hu:u<18446744073709551616):Lfmt 0 (u:Int) (16:Int)=some (hexF 16 u):=by
 obtain ⟨u',i',ps',h1,h2,h3,h4,h5,h6⟩:=a1s 15 u 65 (List.replicate 65 (PV.int (0:Int))) (by omega) hu (by omega) (by omega) (by simp)
 have e:Lfmt 0 (u:Int) (16:Int)=(F315 0 [] (u:Int) 16 false false).bind fun y=>some y.2:=rfl
 rw [e,a2f,show (65:Int)=((65:Nat):Int) from rfl,h1,Option.bind_some]
 have hw:IntKind.wrap .i64 ((i':Int)-(1:Int))=((i' - 1:Nat):Int):=by
  rw [show (i':Int)-1=((i' - 1:Nat):Int) by omega];exact ahh (by omega)
 have hr1:aaa ((u':Nat):Int) (([48,49,50,51,52,53,54,55,56,57,97,98,99,100,101,102,103,104,105,106,107,108,109,110,111,112,113,114,115,116,117,118,119,120,121,122]:List UInt8).length)=true:=by
  rw [aab];exact decide_eq_true (Nat.lt_of_lt_of_le h2 (by decide))
 have hr2:aaa ((i' - 1:Nat):Int) 65=true:=by rw [aab];exact decide_eq_true (by omega)
 have hc:decide ((0:Int)<=((i' - 1:Nat):Int)/\((i' - 1:Nat):Int)<65/\((i' - 1:Nat):Int)<=(65:Int)/\(65:Int)<=65)=true:=decide_eq_true (by omega)
 have hstr:(((PV.agg (ps'.set (i' - 1) (PV.int ((hexd u').toNat:Int)))).parts.drop (i' - 1)).take ((65:Int).toNat-(i' - 1))).map aap=hexF 16 u:=by
  show (((ps'.set (i' - 1) (PV.int ((hexd u').toNat:Int))).drop (i' - 1)).take (65-(i' - 1))).map aap=_
  rw [List.take_of_length_le (by simp;omega),awq _ _ _ (by omega),show i' - 1+1=i' by omega,List.map_cons,agr,h6]
  simp
 unfold a1m
 simp only [hw,hr1,hr2,hc,cond_true,cond_false,Int.toNat_natCast,a7k h2,PV.parts] at hstr ⊢
 rw [hstr]
 rfl
theorem azm (u:Nat) (hu:u<18446744073709551616):F253 0 (u:Int)=some (ac7 u):=by
 have h1:afj .and .u64 (u:Int) (9218868437227405312:Int)=((u / 4503599627370496%2048*4503599627370496:Nat):Int):=by
  have:=aja u 9218868437227405312 hu (by decide)
  rw [a5t] at this;exact this
 have h2:afj .and .u64 (u:Int) (4503599627370495:Int)=((u%4503599627370496:Nat):Int):=by
  have:=aja u 4503599627370495 hu (by decide)
  rw [a41] at this;exact this
 have c1:(((u / 4503599627370496%2048*4503599627370496:Nat):Int)==(9218868437227405312:Int))=decide (u / 4503599627370496%2048=2047):=by
  refine (nbeq _ 9218868437227405312).trans ?_
  rw [decide_eq_decide];omega
 have c2:(((u / 4503599627370496%2048*4503599627370496:Nat):Int)==(0:Int))=decide (u / 4503599627370496%2048=0):=by
  refine (nbeq _ 0).trans ?_
  rw [decide_eq_decide];omega
 have c3:(((u%4503599627370496:Nat):Int)==(0:Int))=decide (u%4503599627370496=0):=nbeq _ 0
 unfold F253 ac7
 simp only [h1,h2,c1,c2,c3,bne]
 by_cases d1:u / 4503599627370496%2048=2047
 ·have d2:¬u / 4503599627370496%2048=0:=by omega
  by_cases d3:u%4503599627370496=0
  ·rw [if_neg (by omega),if_pos (by omega)];simp [d1,d3]
  ·rw [if_pos (by omega)];simp [d1,d3]
 ·by_cases d2:u / 4503599627370496%2048=0
  ·by_cases d3:u%4503599627370496=0
   ·rw [if_neg (by omega),if_neg (by omega),if_pos (by omega)];simp [d2,d3]
   ·rw [if_neg (by omega),if_neg (by omega),if_neg (by omega),if_pos (by omega)];simp [d2,d3]
  ·rw [if_neg (by omega),if_neg (by omega),if_neg (by omega),if_neg (by omega)];simp [d1,d2]
theorem avh (u:Nat):F155 0 (u:Int)=some (ac7 u):=by
 have h1:(u:Int).tmod (9223372036854775808:Int)=((u%9223372036854775808:Nat):Int):=rfl
 have c1:decide (((u%9223372036854775808:Nat):Int)>(9218868437227405312:Int))=decide (9218868437227405312<u%9223372036854775808):=by rw [decide_eq_decide];omega
 have c2:(((u%9223372036854775808:Nat):Int)==(9218868437227405312:Int))=decide (u%9223372036854775808=9218868437227405312):=nbeq _ 9218868437227405312
 have c3:(((u%9223372036854775808:Nat):Int)==(0:Int))=decide (u%9223372036854775808=0):=nbeq _ 0
 have c4:decide (((u%9223372036854775808:Nat):Int)<(4503599627370496:Int))=decide (u%9223372036854775808<4503599627370496):=by rw [decide_eq_decide];omega
 unfold F155 ac7
 simp only [h1,c1,c2,c3,c4]
 by_cases d1:9218868437227405312<u%9223372036854775808
 ·simp [d1]
 ·by_cases d2:u%9223372036854775808=9218868437227405312
  ·simp [d2]
  ·by_cases d3:u%9223372036854775808=0
   ·simp [d3]
   ·by_cases d4:u%9223372036854775808<4503599627370496
    ·simp [d1,d2,d3,d4]
    ·simp [d1,d2,d3,d4]
def afa (u:Nat):List UInt8:=
 bif ac7 u==0 then [110,97,110] else bif ac7 u==1 then (bif decide (9223372036854775808<=u) then [45,105,110,102] else [105,110,102]) else [48,120]++hexN 16 u
theorem atv (n:Nat):Lib.repeatL ([48]:List UInt8) n=List.replicate n 48:=by
 induction n with
 | zero=>rfl
 | succ n ih=>rw [List.replicate_succ,<-ih];rfl
theorem arh (u:Nat) (hu:u<18446744073709551616):F149 0 (u:Int)=some (afa u):=by
 obtain ⟨hl,hp⟩:(hexF 16 u).length<=16/\List.replicate (16-(hexF 16 u).length) 48++hexF 16 u=hexN 16 u:=a7b 15 u (by omega)
 have hs:afj .and .u64 (u:Int) (9223372036854775808:Int)=((u / 9223372036854775808*9223372036854775808:Nat):Int):=by
  have:=aja u 9223372036854775808 hu (by decide)
  rw [a6o u hu] at this;exact this
 have hs2:(((u / 9223372036854775808*9223372036854775808:Nat):Int) != (0:Int))=decide (9223372036854775808<=u):=by
  rw [show (((u / 9223372036854775808*9223372036854775808:Nat):Int) != (0:Int))=!(((u / 9223372036854775808*9223372036854775808:Nat):Int)==((0:Nat):Int)) from rfl,nbeq,<-decide_not,decide_eq_decide];omega
 have hw:IntKind.wrap .i64 ((16:Int)-((hexF 16 u).length:Int))=((16-(hexF 16 u).length:Nat):Int):=by
  rw [show (16:Int)-((hexF 16 u).length:Int)=((16-(hexF 16 u).length:Nat):Int) by omega];exact ahh (by omega)
 have hr:ajx 0 ([48]:List UInt8) ((16-(hexF 16 u).length:Nat):Int)=some (List.replicate (16-(hexF 16 u).length) 48):=by
  unfold ajx
  rw [decide_eq_true (by omega),decide_eq_true (by omega),Int.toNat_natCast,show Nat.ble (([48]:List UInt8).length*(16-(hexF 16 u).length)) 140737488355328=true by rw [Nat.ble_eq];simp;omega,atv]
  rfl
 have g1:decide (([48,120]:List UInt8).length+(List.replicate (16-(hexF 16 u).length) (48:UInt8)).length<=aa9)=true:=ahx (by simp;omega)
 have g2:decide ((([48,120]:List UInt8)++List.replicate (16-(hexF 16 u).length) (48:UInt8)).length+(hexF 16 u).length<=aa9)=true:=ahx (by simp;omega)
 unfold F149 afa
 simp only [azm u hu,Option.bind_some,hs,hs2,F135,fmt16 u hu,hw,hr,g1,g2,List.append_assoc,hp]
 cases ac7 u==0<;>cases ac7 u==1<;>cases decide (9223372036854775808<=u)<;>rfl
end Go.Ab
namespace Go.Ab
open Go
set_option maxRecDepth 100000
end Go.Ab
namespace Go.Ab
open Go
set_option maxRecDepth 100000
theorem alj (s:List UInt8) (hs:s.length<=1048576):((F141 0 s ([46]:List UInt8)).bind fun y1=>(F140 0 y1).bind fun y2=>some y2)=some (afw s):=by
 have ht:F141 0 s ([46]:List UInt8)=some (match s with | []=>[] | c::r=>bif c==46 then r else c::r):=by
  unfold F141 F245 F297
  cases s with
  | nil=>rfl
  | cons c r=>
   have e1:decide (((c::r).length:Int)≥(([46]:List UInt8).length:Int))=true:=decide_eq_true (by simp only [List.length_cons,List.length_nil];omega)
   have e2:decide ((0:Int)<=(0:Int)/\(0:Int)<=(([46]:List UInt8).length:Int)/\(([46]:List UInt8).length:Int)<=((c::r).length:Int))=true:=decide_eq_true (by simp only [List.length_cons,List.length_nil];omega)
   have e3:decide ((0:Int)<=(([46]:List UInt8).length:Int)/\(([46]:List UInt8).length:Int)<=((c::r).length:Int)/\((c::r).length:Int)<=((c::r).length:Int))=true:=decide_eq_true (by simp only [List.length_cons,List.length_nil];omega)
   have e4:(((c::r).take (([46]:List UInt8).length:Int).toNat).drop (0:Int).toNat==([46]:List UInt8))=(c==46):=by
    show ([c]==([46]:List UInt8))=_
    simp
   have e5:(((c::r).take ((c::r).length:Int).toNat).drop (([46]:List UInt8).length:Int).toNat)=r:=by
    show ((c::r).take (c::r).length).drop 1=r
    rw [List.take_length];rfl
   simp only [e1,e2,e3,e4,e5,imp,cond_true,Option.bind_some]
   cases (c==46)<;>rfl
 rw [ht,Option.bind_some]
 cases s with
 | nil=>rw [ajk _ (by simp)];rfl
 | cons c r=>
  have hl:(bif c==46 then r else c::r).length<=1048576:=by
   simp only [List.length_cons] at hs
   cases (c==46)
   ·simp only [cond_false,List.length_cons];omega
   ·simp only [cond_true];omega
  simp only [ajk _ hl,Option.bind_some,afw]
  cases (c==46)<;>rfl
end Go.Ab
namespace Go.Ab
open Go
set_option maxRecDepth 100000
end Go.Ab
namespace Go.Ab
open Go
set_option maxRecDepth 100000
def a9v (p:UInt8->Bool) (s:List UInt8):Prop:=∀ c r,s=c::r->p c=false
theorem a6g:((List.range 256).all fun b=>(List.range 256).all fun d=>!(hex2 b==hex2 d)||b==d)=true:=by kernel_rfl
theorem a4c {b d:Nat} (hb:b<256) (hd:d<256) (h:hex2 b=hex2 d):b=d:=by
 have:=List.all_eq_true.1 a6g b (List.mem_range.2 hb)
 have:=List.all_eq_true.1 this d (List.mem_range.2 hd)
 rw [h] at this
 simpa using this
def aln (b:UInt8) (c:List UInt8):Prop:=(c=[b]/\b≠34/\b≠92)∨(b=34/\c=[92,34])∨(b=92/\c=[92,92])∨(b=10/\c=[92,110])∨(b=9/\c=[92,116])∨(b=13/\c=[92,114])∨c=92::120::hex2 b.toNat
theorem a3v {b d:UInt8}{c e s t:List UInt8} (h:aln b c) (k:aln d e) (q:c++s=e++t):b=d/\s=t:=by
 have hx:∀ {b d:UInt8}{s t:List UInt8},(92::120::hex2 b.toNat)++s=(92::120::hex2 d.toNat)++t->b=d/\s=t:=by
  intro b d s t q
  simp only [List.cons_append,List.cons.injEq,true_and] at q
  have e1:hex2 b.toNat=hex2 d.toNat:=by
   have:=congrArg (List.take 2) q
   simpa [hex2] using this
  have e2:s=t:=by
   have:=congrArg (List.drop 2) q
   simpa [hex2] using this
  exact ⟨UInt8.toNat_inj.1 (a4c b.toNat_lt d.toNat_lt e1),e2⟩
 rcases h with ⟨rfl,h1,h2⟩ | ⟨rfl,rfl⟩ | ⟨rfl,rfl⟩ | ⟨rfl,rfl⟩ | ⟨rfl,rfl⟩ | ⟨rfl,rfl⟩ | rfl<;>
  rcases k with ⟨rfl,k1,k2⟩ | ⟨rfl,rfl⟩ | ⟨rfl,rfl⟩ | ⟨rfl,rfl⟩ | ⟨rfl,rfl⟩ | ⟨rfl,rfl⟩ | rfl<;>
  first
   | exact hx q
   | (simp only [List.cons_append,List.nil_append,List.cons.injEq,true_and] at q
      first
       | exact ⟨q.1,q.2⟩
       | exact ⟨rfl,q⟩
       | exact absurd q.1 (by assumption)
       | exact absurd q.1.symm (by assumption)
       | exact absurd q.1 (by decide)
       | exact absurd q (by decide))
inductive Codes:List UInt8->List UInt8->Prop
 | nil:Codes [] []
 | cons {b:UInt8}{c r q:List UInt8}:aln b c->Codes r q->Codes (b::r) (c++q)
theorem ar9 {b:UInt8}{c s:List UInt8} (h:aln b c) {t:List UInt8} (q:c++s=34::t):False:=by
 rcases h with ⟨rfl,h1,h2⟩ | ⟨rfl,rfl⟩ | ⟨rfl,rfl⟩ | ⟨rfl,rfl⟩ | ⟨rfl,rfl⟩ | ⟨rfl,rfl⟩ | rfl
 ·simp only [List.cons_append,List.nil_append,List.cons.injEq] at q;exact h1 q.1
 all_goals (simp only [List.cons_append,List.nil_append,List.cons.injEq] at q;exact absurd q.1 (by decide))
theorem a2s {a x:List UInt8} (h:Codes a x):∀ {b y s t:List UInt8},Codes b y->x++34::s=y++34::t->a=b/\s=t:=by
 induction h with
 | nil=>
  intro b y s t k q
  cases k with
  | nil=>simp at q;exact ⟨rfl,q⟩
  | cons hc hr=>rw [List.nil_append,List.append_assoc] at q;exact (ar9 hc q.symm).elim
 | cons hc hr ih=>
  intro b y s t k q
  cases k with
  | nil=>rw [List.nil_append,List.append_assoc] at q;exact (ar9 hc q).elim
  | cons kc kr=>
   rw [List.append_assoc,List.append_assoc] at q
   obtain ⟨rfl,q⟩:=a3v hc kc q
   obtain ⟨rfl,q⟩:=ih kr q
   exact ⟨rfl,q⟩
theorem a1r:∀ (l:List UInt8) {r q:List UInt8},(∀ b,b∈l->b≠34/\b≠92)->Codes r q->Codes (l++r) (l++q):=by
 intro l
 induction l with
 | nil=>intro r q _ h;exact h
 | cons b l ih=>
  intro r q hl h
  have h1:=hl b (by simp)
  show Codes (b::(l++r)) ([b]++(l++q))
  exact .cons (Or.inl ⟨rfl,h1.1,h1.2⟩) (ih (fun x hx=>hl x (by simp [hx])) h)
theorem azy {s:List UInt8}{i:Nat}{k:UInt8} (h:byteAt s i≠k.toNat):s.getD i 0≠k:=fun e=>h (by unfold byteAt;rw [e])
theorem amv {s:List UInt8}{i:Nat}{k:UInt8} (h:byteAt s i=k.toNat):s.getD i 0=k:=UInt8.toNat_inj.1 h
theorem ael (s:List UInt8):∀ (m i:Nat),s.length-i<=m->Codes (s.drop i) (aaq s i):=by
 intro m
 induction m with
 | zero=>
  intro i hm
  rw [List.drop_eq_nil_of_le (by omega),aaq,if_neg (by omega)]
  exact .nil
 | succ m ih=>
  intro i hm
  by_cases hi:i<s.length
  ·have hp:=aee s i
   have hr:=ih (i+abr s i) (by omega)
   rw [aaq,if_pos hi]
   unfold ags
   have one:sizeAt s i<=1->abr s i=1:=fun h=>by unfold abr;split<;>omega
   have lone:∀ c:List UInt8,byteAt s i<128∨sizeAt s i=0->aln (s.getD i 0) c->Codes (s.drop i) (c++aaq s (i+abr s i)):=fun c hz hc=>by
    have h1:abr s i=1:=one (by rcases hz with h | h;· rw [ahu s i h];exact Nat.le_refl _
                               ·omega)
    rw [h1] at hr ⊢
    rw [aat hi 0]
    exact .cons hc hr
   by_cases c1:byteAt s i=34
   ·rw [if_pos c1];exact lone _ (Or.inl (by omega)) (Or.inr (Or.inl ⟨amv c1,rfl⟩))
   rw [if_neg c1]
   by_cases c2:byteAt s i=92
   ·rw [if_pos c2];exact lone _ (Or.inl (by omega)) (Or.inr (Or.inr (Or.inl ⟨amv c2,rfl⟩)))
   rw [if_neg c2]
   by_cases c3:byteAt s i=10
   ·rw [if_pos c3];exact lone _ (Or.inl (by omega)) (Or.inr (Or.inr (Or.inr (Or.inl ⟨amv c3,rfl⟩))))
   rw [if_neg c3]
   by_cases c4:byteAt s i=9
   ·rw [if_pos c4];exact lone _ (Or.inl (by omega)) (Or.inr (Or.inr (Or.inr (Or.inr (Or.inl ⟨amv c4,rfl⟩)))))
   rw [if_neg c4]
   by_cases c5:byteAt s i=13
   ·rw [if_pos c5];exact lone _ (Or.inl (by omega)) (Or.inr (Or.inr (Or.inr (Or.inr (Or.inr (Or.inl ⟨amv c5,rfl⟩))))))
   rw [if_neg c5]
   by_cases c6:byteAt s i<32∨byteAt s i=127∨sizeAt s i=0
   ·rw [if_pos c6]
    exact lone _ (by omega) (Or.inr (Or.inr (Or.inr (Or.inr (Or.inr (Or.inr rfl))))))
   ·rw [if_neg c6]
    have h0:sizeAt s i≠0:=by omega
    have hst:abr s i=sizeAt s i:=by unfold abr;rw [if_neg h0]
    rw [hst] at hr ⊢
    have e:s.drop i=(s.drop i).take (sizeAt s i)++s.drop (i+sizeAt s i):=by rw [<-List.drop_drop,List.take_append_drop]
    rw [show Codes (s.drop i) _=Codes ((s.drop i).take (sizeAt s i)++s.drop (i+sizeAt s i)) _ by rw [<-e]]
    refine a1r _ (fun b hb=>?_) hr
    obtain ⟨j,hj,rfl⟩:=List.mem_iff_getElem.1 hb
    have hjs:j<sizeAt s i:=by rw [List.length_take] at hj;omega
    have hjl:i+j<s.length:=by rw [List.length_take,List.length_drop] at hj;omega
    have ej:((s.drop i).take (sizeAt s i))[j]=s.getD (i+j) 0:=by
     rw [List.getElem_take,List.getElem_drop,afr hjl]
    rw [ej]
    have big:byteAt s (i+j)≠34/\byteAt s (i+j)≠92:=by
     have q0:byteAt s (i+0)=byteAt s i:=rfl
     rcases ang (s.length-i) (byteAt s i) (byteAt s (i+1)) (byteAt s (i+2)) (byteAt s (i+3)) (by omega) with h | ⟨h,c⟩ | ⟨h,c⟩ | ⟨h,c⟩ | ⟨h,c⟩
     ·exact absurd h h0
     ·have h:sizeAt s i=1:=h
      have:j=0:=by omega
      subst this;omega
     ·have h:sizeAt s i=2:=h
      have:j=0∨j=1:=by omega
      rcases this with rfl | rfl<;>omega
     ·have h:sizeAt s i=3:=h
      have:j=0∨j=1∨j=2:=by omega
      rcases this with rfl | rfl | rfl<;>omega
     ·have h:sizeAt s i=4:=h
      have:j=0∨j=1∨j=2∨j=3:=by omega
      rcases this with rfl | rfl | rfl | rfl<;>omega
    exact ⟨azy big.1,azy big.2⟩
  ·rw [List.drop_eq_nil_of_le (by omega),aaq,if_neg hi]
   exact .nil
theorem az6 {a b s t:List UInt8} (h:aa4 a++s=aa4 b++t):a=b/\s=t:=by
 have ha:=ael a a.length 0 (by omega)
 have hb:=ael b b.length 0 (by omega)
 rw [List.drop_zero] at ha hb
 unfold aa4 at h
 simp only [List.cons_append,List.append_assoc,List.cons.injEq,true_and,List.nil_append] at h
 exact a2s ha hb h
def digC (c:UInt8):Bool:=decide (48<=c.toNat/\c.toNat<=57)
theorem awv {u:Nat} (hu:u<100000000000000000000):∀ c,c∈decB u->digC c=true:=by
 rw [agb hu]
 intro c hc
 exact decide_eq_true ((aeo u).1 c hc)
theorem a5m:∀ f u,decF (f+1) u≠[]:=by
 intro f u
 unfold decF
 cases Nat.ble u 9<;>simp
theorem atz (u:Nat):decB u≠[]:=a5m 19 u
theorem a3u:((List.range 16).all fun b=>(List.range 16).all fun d=>!(hexd b==hexd d)||b==d)=true:=by kernel_rfl
theorem a43 {b d:Nat} (hb:b<16) (hd:d<16) (h:hexd b=hexd d):b=d:=by
 have:=List.all_eq_true.1 a3u b (List.mem_range.2 hb)
 have:=List.all_eq_true.1 this d (List.mem_range.2 hd)
 rw [h] at this
 simpa using this
theorem a6q:∀ (n u v:Nat),u<16^n->v<16^n->hexN n u=hexN n v->u=v:=by
 intro n
 induction n with
 | zero=>intro u v hu hv _;simp at hu hv;omega
 | succ n ih=>
  intro u v hu hv h
  rw [Nat.pow_succ] at hu hv
  simp only [hexN] at h
  have hl:(hexN n (u / 16)).length=(hexN n (v / 16)).length:=by rw [ala,ala]
  obtain ⟨h1,h2⟩:=List.append_inj h hl
  have e1:=ih (u / 16) (v / 16) (by omega) (by omega) h1
  have e2:=a43 (Nat.mod_lt _ (by decide)) (Nat.mod_lt _ (by decide)) (by simpa using h2)
  omega
end Go.Ab
namespace Go.Ab
open Go
set_option maxRecDepth 100000
theorem apa {s:List UInt8} (h:adx s=true):∀ c,c∈s->alnB c=true:=by
 cases s with
 | nil=>intro c hc;cases hc
 | cons a r=>
  unfold adx at h
  simp only [Bool.and_eq_true,List.all_eq_true] at h
  intro c hc
  rcases List.mem_cons.1 hc with rfl | hc
  ·exact a2n h.1.2
  ·exact h.2 c hc
end Go.Ab
namespace Go.Ab
open Go
set_option maxRecDepth 100000
theorem ady {α:Type} (l:List α) (i:Nat):(l.take ((l.length:Int)).toNat).drop ((i:Int)).toNat=l.drop i:=by simp
theorem aie {α:Type} (l:List α) {i:Nat} (h:i<=l.length):decide (0<=(i:Int)/\(i:Int)<=(l.length:Int)/\(l.length:Int)<=(l.length:Int))=true:=decide_eq_true (by omega)
theorem ag2 (c:UInt8):F231 0 (c.toNat:Int)=some (letB c):=by
 unfold F231 letB lowB capB
 rw [show (97:Int)=((97:Nat):Int) from rfl,show (122:Int)=((122:Nat):Int) from rfl,show (65:Int)=((65:Nat):Int) from rfl,show (90:Int)=((90:Nat):Int) from rfl]
 simp only [geI,leI,Bool.decide_and]
 cases decide (97<=c.toNat)<;>cases decide (c.toNat<=122)<;>cases decide (65<=c.toNat)<;>cases decide (c.toNat<=90)<;>rfl
theorem alb (c:UInt8):F232 0 (c.toNat:Int)=some (digC c):=by
 unfold F232 digC
 rw [show (48:Int)=((48:Nat):Int) from rfl,show (57:Int)=((57:Nat):Int) from rfl]
 simp only [geI,leI,Bool.decide_and]
 cases decide (48<=c.toNat)<;>cases decide (c.toNat<=57)<;>rfl
theorem atl (c:UInt8):F235 0 (c.toNat:Int)=some (alnB c):=by
 unfold F235
 have h:((c.toNat:Int)==(95:Int))=decide (c.toNat=95):=eqB c.toNat 95
 rw [ag2,Option.bind_some,alb,h]
 unfold letB digC alnB digB
 cases lowB c.toNat||capB c.toNat<;>simp
def runN (p:UInt8->Bool) (l:List UInt8):Nat:=(l.takeWhile p).length
theorem ajp (p:UInt8->Bool) (l:List UInt8):runN p l<=l.length:=by
 unfold runN
 induction l with
 | nil=>simp
 | cons c r ih=>rw [List.takeWhile_cons];split<;>simp<;>omega
theorem ac4 (p:UInt8->Bool) (c:UInt8) (r:List UInt8):runN p (c::r)=if p c=true then runN p r+1 else 0:=by
 unfold runN
 rw [List.takeWhile_cons]
 split<;>simp
theorem aqr {p:UInt8->Bool}{step:(List UInt8×Unit×Int)->Option ((List UInt8×Unit×Int)⊕Int)} (s:List UInt8)
 (hs:∀ i:Nat,i<s.length->step (s,(),(i:Int))=some (bif p (s.getD i 0) then .inl (s,(),((i+1:Nat):Int)) else .inr (i:Int)))
 (he:step (s,(),(s.length:Int))=some (.inr (s.length:Int))):∀ m i:Nat,s.length-i<=m->i<=s.length->aba step (s,(),(i:Int))=some ((i+runN p (s.drop i):Nat):Int):=by
 intro m
 induction m with
 | zero=>
  intro i hm hi
  have:i=s.length:=by omega
  subst this
  rw [aac he,List.drop_length];rfl
 | succ m ih=>
  intro i hm hi
  by_cases hlt:i<s.length
  ·rw [aat hlt 0,ac4]
   cases hp:p (s.getD i 0) with
   | true=>
    have h:=hs i hlt
    rw [hp] at h
    rw [aaw h,ih (i+1) (by omega) (by omega)]
    simp only [if_true]
    congr 2;omega
   | false=>
    have h:=hs i hlt
    rw [hp] at h
    rw [aac h]
    simp
  ·have:i=s.length:=by omega
   subst this
   rw [aac he,List.drop_length];rfl
theorem av4 (s:List UInt8) (hl:s.length<=1048576):F124_v1 0 s ()=some ((runN alnB s:Nat):Int):=by
 have h:=aqr (p:=alnB) (step:=S124_v1_3step 0) s (fun i hi=>by
  simp only [S124_v1_3step,S124_v1_3,abn,hi,decide_true,aab,imp,cond_true,Int.toNat_natCast,atl,Option.bind_some,Bool.not_true,Bool.false_or,Bool.true_or,abk (show i<=9223372036854775000 by omega)]
  cases alnB (s.getD i 0)<;>rfl) (by
  simp only [S124_v1_3step,S124_v1_3,abn,Nat.lt_irrefl,decide_false,aab,imp,cond_false,Bool.not_false,Bool.true_or,cond_true,Option.bind_some]) s.length 0 (by omega) (by omega)
 unfold F124_v1
 rw [aan,show (0:Int)=((0:Nat):Int) from rfl,h,List.drop_zero,Nat.zero_add];rfl
theorem asb (s:List UInt8) (hl:s.length<=1048576):F124_v2 0 s ()=some ((runN digC s:Nat):Int):=by
 have h:=aqr (p:=digC) (step:=S124_v2_3step 0) s (fun i hi=>by
  simp only [S124_v2_3step,S124_v2_3,abn,hi,decide_true,aab,imp,cond_true,Int.toNat_natCast,alb,Option.bind_some,Bool.not_true,Bool.false_or,Bool.true_or,abk (show i<=9223372036854775000 by omega)]
  cases digC (s.getD i 0)<;>rfl) (by
  simp only [S124_v2_3step,S124_v2_3,abn,Nat.lt_irrefl,decide_false,aab,imp,cond_false,Bool.not_false,Bool.true_or,cond_true,Option.bind_some]) s.length 0 (by omega) (by omega)
 unfold F124_v2
 rw [aan,show (0:Int)=((0:Nat):Int) from rfl,h,List.drop_zero,Nat.zero_add];rfl
theorem a4g {p:UInt8->Bool}:∀ {l s:List UInt8},(∀ c,c∈l->p c=true)->a9v p s->runN p (l++s)=l.length:=by
 intro l
 induction l with
 | nil=>
  intro s _ hs
  cases s with
  | nil=>rfl
  | cons c r=>rw [List.nil_append,ac4,hs c r rfl];rfl
 | cons c l ih=>
  intro s hl hs
  rw [List.cons_append,ac4,hl c (by simp),if_pos rfl,ih (fun x hx=>hl x (by simp [hx])) hs]
  rfl
def eat:List UInt8->Nat
 | []=>0
 | c::r=>if alnB c=true then eat r+1 else if c=46 then (match r with | d::_=>if letB d=true then eat r+1 else 0 | []=>0) else 0
theorem aex (c:UInt8) (r:List UInt8):eat (c::r)=if alnB c=true then eat r+1 else if c=46 then (match r with | d::_=>if letB d=true then eat r+1 else 0 | []=>0) else 0:=by
 rw [eat.eq_def]
theorem azz:∀ l:List UInt8,eat l=runN alnB l+eat (l.drop (runN alnB l)):=by
 intro l
 induction l with
 | nil=>rfl
 | cons c r ih=>
  rw [ac4]
  by_cases h:alnB c=true
  ·rw [if_pos h,List.drop_succ_cons]
   have:eat (c::r)=eat r+1:=by rw [aex,if_pos h]
   rw [this,ih];omega
  ·rw [if_neg h,List.drop_zero];omega
theorem av5 (p:UInt8->Bool):∀ (l:List UInt8) (c:UInt8) (r:List UInt8),l.drop (runN p l)=c::r->p c=false:=by
 intro l
 induction l with
 | nil=>intro c r h;simp at h
 | cons x l ih=>
  intro c r h
  rw [ac4] at h
  by_cases hx:p x=true
  ·rw [if_pos hx,List.drop_succ_cons] at h
   exact ih c r h
  ·rw [if_neg hx,List.drop_zero] at h
   simp only [List.cons.injEq] at h
   rw [<-h.1]
   simpa using hx
theorem nameLen_end (s:List UInt8) (hl:s.length<=1048576) (i:Nat) (hi:i<=s.length) (hend:s.length<=i+runN alnB (s.drop i)+1):aba (S234_5step 0) (s,(i:Int))=some ((i+eat (s.drop i):Nat):Int):=by
 have hk:=ajp alnB (s.drop i)
 rw [List.length_drop] at hk
 have hr:=av4 (s.drop i) (by rw [List.length_drop];omega)
 have he:=azz (s.drop i)
 have hst:=av5 alnB (s.drop i)
 rw [List.drop_drop] at he hst
 generalize runN alnB (s.drop i)=k at hk hr he hst hend
 have e3:IntKind.wrap .i64 ((i:Int)+((k:Nat):Int))=((i+k:Nat):Int):=by rw [abd (by omega) (by omega)];omega
 have hw:IntKind.wrap .i64 (((i+k:Nat):Int)+1)=((i+k+1:Nat):Int):=abk (by omega)
 have e2:decide (((i+k+1:Nat):Int)≥(s.length:Int))=true:=decide_eq_true (by omega)
 have h0:eat (s.drop (i+k))=0:=by
  cases hd:s.drop (i+k) with
  | nil=>rfl
  | cons c r=>
   have hl:=congrArg List.length hd
   rw [List.length_drop,List.length_cons] at hl
   have:r=[]:=List.eq_nil_of_length_eq_zero (by omega)
   subst this
   have hc:=hst c [] hd
   rw [aex,hc]
   simp
 refine (aac (y:=((i+k:Nat):Int)) ?_).trans (by rw [he,h0];rfl)
 simp only [S234_5step,S234_5,aie s hi,cond_true,ady,hr,Option.bind_some,e3,hw,e2,imp,Bool.not_true,Bool.not_false,Bool.true_or,cond_false,aag]
theorem ae5 (s:List UInt8) (hl:s.length<=1048576):∀ m i:Nat,s.length-i<=m->i<=s.length->aba (S234_5step 0) (s,(i:Int))=some ((i+eat (s.drop i):Nat):Int):=by
 intro m
 induction m with
 | zero=>
  intro i hm hi
  exact nameLen_end s hl i hi (by omega)
 | succ m ih=>
  intro i hm hi
  by_cases hend:s.length<=i+runN alnB (s.drop i)+1
  ·exact nameLen_end s hl i hi hend
  ·have hk:=ajp alnB (s.drop i)
   rw [List.length_drop] at hk
   have hr:=av4 (s.drop i) (by rw [List.length_drop];omega)
   have he:=azz (s.drop i)
   have hst:=av5 alnB (s.drop i)
   rw [List.drop_drop] at he hst
   generalize runN alnB (s.drop i)=k at hk hr he hst hend
   have e3:IntKind.wrap .i64 ((i:Int)+((k:Nat):Int))=((i+k:Nat):Int):=by rw [abd (by omega) (by omega)];omega
   have hw:IntKind.wrap .i64 (((i+k:Nat):Int)+1)=((i+k+1:Nat):Int):=abk (by omega)
   have e2:decide (((i+k+1:Nat):Int)≥(s.length:Int))=false:=decide_eq_false (by omega)
   have lt1:i+k<s.length:=by omega
   have lt2:i+k+1<s.length:=by omega
   have hd:=aat lt1 (0:UInt8)
   have hd2:=aat lt2 (0:UInt8)
   have hc:=hst _ _ hd
   have step:S234_5step 0 (s,(i:Int))=some (bif (s.getD (i+k) 0==46)&&letB (s.getD (i+k+1) 0) then .inl (s,((i+k+1:Nat):Int)) else .inr ((i+k:Nat):Int)):=by
    have hb:(((s.getD (i+k) 0).toNat:Int) != (46:Int))=!(s.getD (i+k) 0==46):=by
     rw [show (46:Int)=(((46:UInt8).toNat:Nat):Int) from rfl,neB,bam]
    simp only [S234_5step,S234_5,aie s hi,cond_true,ady,hr,Option.bind_some,e3,hw,e2,imp,Bool.not_true,Bool.not_false,Bool.false_or,Bool.true_or,cond_false,aab,lt1,lt2,decide_true,Int.toNat_natCast,List.take_length,hb,Bool.or_true,ag2]
    cases (s.getD (i+k) 0==46)<;>cases letB (s.getD (i+k+1) 0)<;>simp
   by_cases hg:((s.getD (i+k) 0==46)&&letB (s.getD (i+k+1) 0))=true
   ·rw [hg] at step
    rw [aaw step,ih (i+k+1) (by omega) (by omega),he,hd,aex,hc]
    simp only [Bool.and_eq_true,beq_iff_eq] at hg
    rw [if_neg (by simp),if_pos hg.1,hd2]
    simp only [hg.2,if_true]
    rw [<-hd2]
    congr 2;omega
   ·have hg:((s.getD (i+k) 0==46)&&letB (s.getD (i+k+1) 0))=false:=by simpa using hg
    rw [hg] at step
    rw [aac step,he,hd,aex,hc]
    have:(if s.getD (i+k) 0=46 then (match s.drop (i+k+1) with | d::_=>if letB d=true then eat (s.drop (i+k+1))+1 else 0 | []=>0) else 0)=0:=by
     split
     ·rename_i h46
      rw [hd2]
      rw [h46] at hg
      have:letB (s.getD (i+k+1) 0)=false:=by simpa using hg
      simp only [this]
      simp
     ·rfl
    rw [if_neg (by simp),this];rfl
def endN (s:List UInt8):Prop:=∀ c r,s=c::r->alnB c=false/\c≠46
theorem a8r {s:List UInt8} (h:endN s):eat s=0:=by
 cases s with
 | nil=>rfl
 | cons c r=>
  obtain ⟨h1,h2⟩:=h c r rfl
  rw [aex,h1,if_neg (by simp),if_neg h2]
theorem a2o:∀ (t h:List UInt8) (q:List (List UInt8)) (s:List UInt8),abq 46 t=h::q->(∀ c,c∈h->alnB c=true)->q.all adx=true->endN s->eat (t++s)=t.length:=by
 intro t
 induction t with
 | nil=>intro h q s _ _ _ hs;exact a8r hs
 | cons b r ih=>
  intro h q s e hh hq hs
  simp only [abq] at e
  cases hb:(b==46) with
  | true=>
   rw [hb] at e
   simp only [cond_true,List.cons.injEq] at e
   have hb:b=46:=by simpa using hb
   subst hb
   have hne:=amx 46 r
   cases hsp:abq 46 r with
   | nil=>exact absurd hsp hne
   | cons x y=>
    rw [<-e.2,hsp] at hq
    simp only [List.all_cons,Bool.and_eq_true] at hq
    have hi:=ih x y s hsp (apa hq.1) hq.2 hs
    have hr:∃ d z,r=d::z/\letB d=true:=by
     cases x with
     | nil=>exact absurd hq.1 (by simp [adx])
     | cons d x=>
      have hd:letB d=true:=by
       have:=hq.1
       unfold adx at this
       simp only [Bool.and_eq_true] at this
       exact this.1.2
      cases r with
      | nil=>simp [abq] at hsp
      | cons d' z=>
       simp only [abq] at hsp
       cases hd':(d'==46) with
       | true=>rw [hd'] at hsp;simp at hsp
       | false=>
        rw [hd'] at hsp
        simp only [cond_false] at hsp
        split at hsp
        ·simp only [List.cons.injEq] at hsp
         exact ⟨d',z,rfl,by rw [hsp.1.1];exact hd⟩
        ·simp only [List.cons.injEq] at hsp
         exact ⟨d',z,rfl,by rw [hsp.1.1];exact hd⟩
    obtain ⟨d,z,rfl,hd⟩:=hr
    have:eat ((46:UInt8)::((d::z)++s))=eat ((d::z)++s)+1:=by
     rw [aex,if_neg (by decide),if_pos rfl]
     simp only [List.cons_append,hd,if_true]
    rw [List.cons_append,this,hi];rfl
  | false=>
   rw [hb] at e
   simp only [cond_false] at e
   have hne:=amx 46 r
   cases hsp:abq 46 r with
   | nil=>exact absurd hsp hne
   | cons x y=>
    rw [hsp] at e
    simp only [List.cons.injEq] at e
    have hb2:alnB b=true:=hh b (by rw [<-e.1];simp)
    have hi:=ih x y s hsp (fun c hc=>hh c (by rw [<-e.1];simp [hc])) (by rw [e.2];exact hq) hs
    rw [List.cons_append,aex,if_pos hb2,hi];rfl
theorem av0 {t s:List UInt8} (h:ahg t=true) (hs:endN s):eat (t++s)=t.length:=by
 unfold ahg at h
 simp only [Bool.and_eq_true] at h
 cases hsp:abq 46 t with
 | nil=>exact absurd hsp (amx 46 t)
 | cons x y=>
  rw [hsp] at h
  simp only [List.all_cons,Bool.and_eq_true] at h
  exact a2o t x y s hsp (apa h.2.1) h.2.2 hs
theorem ao2 {t:List UInt8} (h:ahg t=true):∃ c r,t=c::r/\letB c=true:=by
 unfold ahg at h
 simp only [Bool.and_eq_true] at h
 cases t with
 | nil=>exact absurd h.2 (by simp [abq,adx])
 | cons c r=>
  refine ⟨c,r,rfl,?_⟩
  have h2:=h.2
  simp only [abq] at h2
  cases hc:(c==46) with
  | true=>rw [hc] at h2;simp [adx] at h2
  | false=>
   rw [hc] at h2
   simp only [cond_false] at h2
   split at h2<;>simp only [List.all_cons,Bool.and_eq_true] at h2<;>(have h3:=h2.1;unfold adx at h3;simp only [Bool.and_eq_true] at h3;exact h3.1.2)
end Go.Ab
namespace Go.Ab
open Go
set_option maxRecDepth 100000
theorem abx {α:Type}{l:List α}{i:Nat}{c:α}{r:List α} (d:α) (h:l.drop i=c::r):i<l.length/\l.getD i d=c/\l.drop (i+1)=r:=by
 have hi:i<l.length:=by
  have:=congrArg List.length h
  simp only [List.length_drop,List.length_cons] at this
  omega
 rw [aat hi d] at h
 simp only [List.cons.injEq] at h
 exact ⟨hi,h.1,h.2⟩
theorem bqI {c k:UInt8}{n:Int} (h:n=((k.toNat:Nat):Int)):((c.toNat:Int)==n)=(c==k):=by rw [h,eqB,bam]
theorem in0 {α:Type} (c:α) (r:List α):aaa (0:Int) (c::r).length=true:=by
 rw [show (0:Int)=((0:Nat):Int) from rfl,aab];simp
def af3 (c:UInt8):Bool:=decide (0<=Lib.indexByte ([123,125,91,93,40,41,60,62,61,59,44,64,45]:List UInt8) c)
theorem atf (c:UInt8):F142 0 [c]=some (af3 c):=rfl
theorem pre2 (c:UInt8) (r:List UInt8) (h:c≠47):F230 0 (c::r) ([47,47]:List UInt8)=some false:=by
 unfold F230 F297
 have e:((([47,47]:List UInt8).length:Nat):Int)=(2:Int):=rfl
 simp only [e]
 by_cases hl:(2:Int)<=((c::r).length:Int)
 ·have h2:decide ((0:Int)<=0/\(0:Int)<=2/\(2:Int)<=((c::r).length:Int))=true:=decide_eq_true ⟨by omega,by omega,hl⟩
  have h3:(((c::r).take (2:Int).toNat).drop (0:Int).toNat==([47,47]:List UInt8))=false:=by
   rw [beq_eq_false_iff_ne]
   intro q
   have q:c::r.take 1=[47,47]:=q
   simp only [List.cons.injEq] at q
   exact h q.1
  rw [decide_eq_true (show ((c::r).length:Int)≥(2:Int) from hl)]
  simp only [h2,h3,imp,cond_true,Option.bind_some,Bool.not_true]
 ·simp only [imp,ge_iff_le,hl,decide_false,cond_false,Bool.not_false,aag,cond_true,Option.bind_some,Bool.false_and]
theorem auc {c:UInt8} (r:List UInt8) (h:c=32∨c=10):F123 0 (c::r)=some 1:=by
 unfold F123
 rw [in0]
 rcases h with rfl | rfl<;>rfl
def adq (c:UInt8) (r:List UInt8):Bool:=letB c||(c==46&&(match r with | d::_=>letB d | []=>false))
def noSp (c:UInt8):Prop:=c≠32/\c≠9/\c≠13/\c≠10/\c≠47
theorem ahs (c:UInt8) (r:List UInt8) (h:noSp c):F123 0 (c::r)=some (bif adq c r then 3 else bif digC c then 4 else bif c==34 then 5 else bif af3 c then 6 else 0):=by
 obtain ⟨h1,h2,h3,h4,h5⟩:=h
 have g:∀ k:UInt8,c≠k->(c==k)=false:=fun k h=>beq_eq_false_iff_ne.2 h
 have e1:(((c::r).take (1:Int).toNat).drop (0:Int).toNat)=[c]:=rfl
 have e2:decide ((0:Int)<=(0:Int)/\(0:Int)<=(1:Int)/\(1:Int)<=((c::r).length:Int))=true:=decide_eq_true (by simp only [List.length_cons];omega)
 have e3:(c::r).getD (0:Int).toNat 0=c:=rfl
 unfold F123
 simp only [in0,e1,e2,e3,cond_true,bqI (c:=c) (k:=32) (n:=32) rfl,bqI (c:=c) (k:=9) (n:=9) rfl,bqI (c:=c) (k:=13) (n:=13) rfl,bqI (c:=c) (k:=10) (n:=10) rfl,bqI (c:=c) (k:=46) (n:=46) rfl,bqI (c:=c) (k:=34) (n:=34) rfl,g 32 h1,g 9 h2,g 13 h3,g 10 h4,cond_false,pre2 c r h5,Option.bind_some,ag2,alb,atf]
 unfold adq
 cases r with
 | nil=>
  have d1:decide ((([c]:List UInt8).length:Int)>(1:Int))=false:=rfl
  simp only [d1,aag,imp,Bool.not_false,Bool.true_or,Bool.or_true,cond_true,cond_false,Option.bind_some,Bool.and_false,Bool.or_false]
  cases letB c<;>cases (c==46)<;>cases digC c<;>cases (c==34)<;>cases af3 c<;>rfl
 | cons d r=>
  have d1:decide (((c::d::r).length:Int)>(1:Int))=true:=decide_eq_true (by simp only [List.length_cons];omega)
  have d2:aaa (1:Int) (c::d::r).length=true:=by rw [show (1:Int)=((1:Nat):Int) from rfl,aab];simp
  have d3:(c::d::r).getD (1:Int).toNat 0=d:=rfl
  simp only [d1,d2,d3,imp,ag2,aag,Bool.true_or,Bool.or_true,cond_true]
  cases letB c<;>cases (c==46)<;>cases digC c<;>cases (c==34)<;>cases af3 c<;>cases letB d<;>rfl
theorem a6r {c:UInt8} (h:letB c=true):noSp c:=by
 refine ⟨?_,?_,?_,?_,?_⟩<;>rintro rfl<;>exact absurd h (by decide)
theorem aog {t:List UInt8} (h:afw t=true):(∃ c r,t=c::r/\letB c=true/\ahg t=true)∨∃ d r,t=46::d::r/\letB d=true/\ahg (d::r)=true:=by
 cases t with
 | nil=>exact absurd h (by decide)
 | cons c r=>
  have h:(bif c==46 then ahg r else ahg (c::r))=true:=h
  cases hc:(c==46) with
  | true=>
   rw [hc] at h
   have hc:c=46:=by simpa using hc
   subst hc
   obtain ⟨d,z,rfl,hd⟩:=ao2 h
   exact Or.inr ⟨d,z,rfl,hd,h⟩
  | false=>
   rw [hc] at h
   obtain ⟨d,z,e,hd⟩:=ao2 h
   simp only [List.cons.injEq] at e
   exact Or.inl ⟨c,r,rfl,by rw [e.1];exact hd,h⟩
theorem ao8 {t:List UInt8} (h:afw t=true) (s:List UInt8):F123 0 (t++s)=some 3:=by
 rcases aog h with ⟨c,r,rfl,hc,_⟩ | ⟨d,r,rfl,hd,_⟩
 ·rw [List.cons_append,ahs _ _ (a6r hc)]
  unfold adq
  rw [hc];rfl
 ·rw [List.cons_append,List.cons_append,ahs _ _ ⟨by decide,by decide,by decide,by decide,by decide⟩]
  have:adq 46 (d::(r++s))=true:=by
   unfold adq
   simp [hd]
  rw [this];rfl
theorem ayr {t s:List UInt8} (h:afw t=true) (hs:endN s) (hl:(t++s).length<=1048576):F234 0 (t++s)=some ((t.length:Nat):Int):=by
 have hle:t.length<=(t++s).length:=by simp
 rcases aog h with ⟨c,r,rfl,hc,hf⟩ | ⟨d,r,rfl,hd,hf⟩
 ·have h0:=ae5 (c::r++s) hl (c::r++s).length 0 (by omega) (by omega)
  have h46:((((c::r++s).getD (0:Int).toNat 0).toNat:Int)==(46:Int))=false:=by
   show ((c.toNat:Int)==(46:Int))=false
   rw [bqI (c:=c) (k:=46) (n:=46) rfl,beq_eq_false_iff_ne]
   rintro rfl
   exact absurd hc (by decide)
  rw [List.drop_zero,av0 hf hs,Nat.zero_add] at h0
  unfold F234
  rw [List.cons_append,in0,<-List.cons_append,h46,cond_true,cond_false,aan,show (0:Int)=((0:Nat):Int) from rfl,h0];rfl
 ·have h0:=ae5 (46::d::r++s) hl (46::d::r++s).length 1 (by omega) (by simp)
  rw [show (46::d::r++s).drop 1=(d::r)++s from rfl,av0 hf hs] at h0
  unfold F234
  rw [List.cons_append,in0,<-List.cons_append,show (((((46:UInt8)::d::r++s).getD (0:Int).toNat 0).toNat:Int)==(46:Int))=true from rfl,cond_true,cond_true,aan,show (1:Int)=((1:Nat):Int) from rfl,h0,Option.bind_some,show 1+(d::r).length=(46::d::r).length by simp;omega]
theorem al2 (s:List UInt8) (hs:s.length<=1048576):∃ y,F141 0 s ([46]:List UInt8)=some y/\F140 0 y=some (afw s):=by
 have h:=alj s hs
 cases ht:F141 0 s ([46]:List UInt8) with
 | none=>rw [ht] at h;cases h
 | some y=>
  rw [ht,Option.bind_some] at h
  cases hf:F140 0 y with
  | none=>rw [hf] at h;cases h
  | some b=>
   rw [hf] at h
   simp at h
   exact ⟨y,rfl,by rw [hf,h]⟩
theorem auh {t s:List UInt8} (h:afw t=true) (hs:endN s) (hl:(t++s).length<=1048576):F129 0 (t++s)=some (PV.agg [PV.int 1,PV.str t,PV.int 0,PV.int 0],((t.length:Nat):Int),0):=by
 have e1:decide ((0:Int)<=(0:Int)/\(0:Int)<=((t.length:Nat):Int)/\((t.length:Nat):Int)<=((t++s).length:Int))=true:=decide_eq_true (by rw [List.length_append];omega)
 have e2:((t++s).take ((t.length:Nat):Int).toNat).drop (0:Int).toNat=t:=by
  rw [Int.toNat_natCast,List.take_left];rfl
 obtain ⟨y,h1,h2⟩:=al2 t (by rw [List.length_append] at hl;omega)
 unfold F129
 simp only [ayr h hs hl,Option.bind_some,e1,e2,cond_true,h1,h2,h,Bool.not_true,cond_false]
def endI (s:List UInt8):Prop:=∀ c r,s=c::r->alnB c=false
theorem a8h {c:UInt8} (h:digC c=true):alnB c=true:=by
 unfold digC at h;unfold alnB digB;rw [h];simp
theorem a5y {s:List UInt8} (h:endI s):a9v digC s:=fun c r e=>by
 have:=h c r e
 cases hd:digC c with
 | false=>rfl
 | true=>rw [a8h hd] at this;cases this
theorem a6f {c:UInt8} (h:digC c=true):noSp c/\letB c=false/\(c==46)=false:=by
 have hl:letB c=false:=by
  cases hl:letB c with
  | false=>rfl
  | true=>
   exfalso
   unfold digC at h
   unfold letB lowB capB at hl
   simp only [Bool.or_eq_true,decide_eq_true_eq] at h hl
   omega
 refine ⟨⟨?_,?_,?_,?_,?_⟩,hl,?_⟩
 all_goals first | (rintro rfl;exact absurd h (by decide)) | (rw [beq_eq_false_iff_ne];rintro rfl;exact absurd h (by decide))
theorem an7 {u:Nat} (hu:u<18446744073709551616):∃ c r,decB u=c::r/\digC c=true/\(r≠[]->c≠48):=by
 have h2:=awv (u:=u) (by omega)
 have hd:=aeo u
 rw [<-agb (by omega)] at hd
 cases h:decB u with
 | nil=>exact absurd h (atz u)
 | cons c r=>
  refine ⟨c,r,rfl,h2 c (by rw [h];simp),fun hr=>?_⟩
  by_cases h0:u=0
  ·subst h0
   have:decB 0=[48]:=rfl
   rw [this] at h
   simp only [List.cons.injEq] at h
   exact absurd h.2.symm hr
  ·have:=hd.2.2.2 h0 c (by rw [h];rfl)
   rintro rfl
   exact this rfl
theorem state_int {u:Nat} (hu:u<18446744073709551616) (s:List UInt8):F123 0 (decB u++s)=some 4:=by
 obtain ⟨c,r,e,hc,_⟩:=an7 hu
 obtain ⟨h1,h2,h3⟩:=a6f hc
 rw [e,List.cons_append,ahs _ _ h1]
 unfold adq
 rw [h2,h3,hc];rfl
end Go.Ab
