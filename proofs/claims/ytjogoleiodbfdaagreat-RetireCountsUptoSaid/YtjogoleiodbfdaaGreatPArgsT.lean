/- The numbers, texts, annotations and counts of a file: the same in the program and the specification. -/
import Derived.Test.YtjogoleiodbfdaaGreatPEveryT
import Derived.Test.YtjogoleiodbfdaaGreatPName0T
set_option linter.unusedVariables false
set_option linter.unusedSimpArgs false
set_option linter.unnecessarySimpa false
namespace Go.Ab
open Go
set_option maxRecDepth 100000
theorem ayj {v:PV} (hs:ajt v):∃ u:Nat,al6 v=(u:Int)/\u<18446744073709551616:=by
 obtain ⟨_,_,h0,h1⟩:=hs
 exact ⟨(al6 v).toNat,(Int.toNat_of_nonneg h0).symm,by omega⟩
def un (l:List PV) (i:Nat):List UInt8:=((l.getD i .bad).fld 5).asStr
end Go.Ab
namespace Go.Ab
open Go
set_option maxRecDepth 100000
theorem aqq (s:List UInt8) (hs:s.length<=1048576):F67 0 s=some (azg s):=by
 unfold F67 azg
 rw [agw s (by omega)]
 cases aho s with
 | true=>simp only [Option.bind_some,cond_true,am0,Bool.true_and]
 | false=>simp only [Option.bind_some,cond_false,Bool.false_and]
theorem ayu {s:List UInt8} (h:ari s=true):s.length<=120:=by
 unfold ari at h
 grind
theorem aqp:∀ (m i:Nat) (s:List UInt8),s.length<=m->s.length+i<=120->(s=[]∨∀ p,p∈abf 46 s->p≠[])->
 abv (S66_5step 0) (s,(i:Int))=some (bif s==[]||(abf 46 s).all fun x=>!al8 x then .inr () else .inl false):=by
 intro m
 induction m with
 | zero=>
  intro i s hm _ _
  have:s=[]:=List.eq_nil_of_length_eq_zero (by omega)
  subst this
  exact aai (by simp only [S66_5step,S66_5];cases decide ((i:Int)<120)<;>rfl)
 | succ m ih=>
  intro i s hm hs hp
  cases s with
  | nil=>exact aai (by simp only [S66_5step,S66_5];cases decide ((i:Int)<120)<;>rfl)
  | cons c r=>
   have hne:((c::r)==([]:List UInt8))=false:=rfl
   have hi:decide ((i:Int)<120)=true:=decide_eq_true (by simp only [List.length_cons] at hs;omega)
   obtain ⟨up,last,h1,h2⟩:=asc (c::r) (by omega)
   have hp':∀ p,p∈abf 46 (c::r)->p≠[]:=by
    rcases hp with h | h
    ·cases h
    ·exact h
   have hstep:S66_5step 0 (c::r,(i:Int))=some (bif al8 last then .inr (.inl false) else .inl (up,((i+1:Nat):Int))):=by
    simp only [S66_5step,S66_5,hne,hi,Bool.not_false,cond_true,h1,Option.bind_some,am0,ayc (show i<=9223372036854775000 by omega)]
    cases al8 last<;>rfl
   rcases h2 with ⟨h2,h3⟩ | ⟨rfl,rfl,h3⟩
   ·have hlen:up.length<(c::r).length:=by rw [h2];simp
    have hsp:abf 46 (c::r)=abf 46 up++[last]:=by rw [h2,avj,aqi _ _ h3]
    have hup:up≠[]:=by
     intro e
     exact hp' [] (by rw [hsp,e];simp [abf]) rfl
    have hupb:(up==([]:List UInt8))=false:=by simpa using hup
    have hpu:∀ p,p∈abf 46 up->p≠[]:=fun p h=>hp' p (by rw [hsp];simp [h])
    have hi:=ih (i+1) up (by omega) (by omega) (Or.inr hpu)
    rw [hsp,List.all_append,hne]
    rw [hupb] at hi
    cases hw:al8 last with
    | true=>
     rw [hw] at hstep
     rw [aai hstep]
     simp [hw]
    | false=>
     rw [hw] at hstep
     rw [aav hstep,hi]
     simp [hw]
   ·rw [aqi _ _ h3,hne]
    cases hw:al8 (c::r) with
    | true=>
     rw [hw] at hstep
     rw [aai hstep]
     simp [hw]
    | false=>
     rw [hw] at hstep
     rw [aav hstep,aai (y:=.inr ()) (by simp only [S66_5step,S66_5];cases decide (((i+1:Nat):Int)<120)<;>rfl)]
     simp [hw]
theorem avm (s:List UInt8) (hs:s.length<=1048576):F66 0 s=some (defP s):=by
 unfold F66 defP
 rw [avb s hs,Option.bind_some]
 cases hf:ari s with
 | false=>rfl
 | true=>
  have hparts:(abf 46 s).all aho=true:=by
   unfold ari at hf
   simp only [Bool.and_eq_true] at hf
   exact hf.2
  have hn:s≠[]:=by
   intro e;subst e
   simp [abf,aho] at hparts
  have hnb:(s==([]:List UInt8))=false:=by simpa using hn
  have h:=aqp s.length 0 s (by omega) (ayu hf) (Or.inr fun p hp=>aza (List.all_eq_true.1 hparts p hp))
  simp only [Bool.not_true,cond_false,af2]
  rw [show (0:Int)=((0:Nat):Int) from rfl,h,hnb]
  cases (abf 46 s).all fun x=>!al8 x<;>rfl
end Go.Ab
namespace Go.Ab
open Go
set_option maxRecDepth 100000
end Go.Ab
