/- Quoting: the program's and the specification's are the same. -/
import Derived.Test.YtjogoleiodbfdaaGreatPUtfT
import Derived.Test.YtjogoleiodbfdaaGreatAbUtf
set_option linter.unusedVariables false
set_option linter.unusedSimpArgs false
set_option linter.unnecessarySimpa false
namespace Go.Ab
open Go
set_option maxRecDepth 100000
theorem nbeq (a b:Nat):((a:Int)==(b:Int))=decide (a=b):=by
 by_cases h:a=b
 ·simp [h]
 ·simp [h];omega
end Go.Ab
namespace Go.Ab
open Go
theorem beqI {a b:Int} (h:a≠b):(a==b)=false:=by simp [h]
theorem beqT {a b:Int} (h:a=b):(a==b)=true:=by simp [h]
theorem ap3 {α:Type} (b:Bool) (x y:α):(bif b then some x else some y)=some (bif b then x else y):=by cases b<;>rfl
noncomputable def af1 (name:List UInt8):Int:=(F130 0 name).getD 0
theorem amz (name:List UInt8):F130 0 name=some (af1 name):=by
 unfold af1
 simp only [F130,ap3,Option.getD_some]
noncomputable def atg (name:List UInt8) (target:Int):Bool:=(F131 0 name target).getD false
theorem ava (name:List UInt8) (target:Int):F131 0 name target=some (atg name target):=by
 unfold atg
 simp only [F131,ap3,Option.getD_some]
def al7 (v:PV):Int:=(v.fld 0).asInt
def al6 (v:PV):Int:=(v.fld 1).asInt
def alr (v:PV):List UInt8:=(v.fld 2).asStr
def am6 (v:PV):Nat:=(v.fld 3).asList.length+(v.fld 4).asList.length+(v.fld 5).asList.length+(v.fld 6).asList.length
def ajt (v:PV):Prop:=am6 v<=1048576/\(alr v).length<=1048576/\0<=al6 v/\al6 v<18446744073709551616
def atn (k:Int):Bool:=decide (1<=k/\k<=9)
def aj9 (k:Int):Bool:=k==7||k==8
def axn (k bits:Int):Bool:=
 if k=1 then decide (bits<=1) else if k=2 then decide (-2147483648<=IntKind.wrap .i64 bits/\IntKind.wrap .i64 bits<=2147483647) else if k=4 then decide (bits<4294967296) else if k=9 then decide (bits<2147483648) else true
def ans (k:Int) (v:PV):Bool:=
 atn k&&(al7 v==k)&&decide (am6 v=0)&&(if aj9 k then (al6 v==0)&&decide ((alr v).length<=4096)&&((k==8)||azn (alr v)) else (alr v==[])&&axn k (al6 v))
theorem a1s (a b c d:List PV):(bif (bif (bif ((a.length:Int)==(0:Int)) then ((b.length:Int)==(0:Int)) else false) then ((c.length:Int)==(0:Int)) else false) then ((d.length:Int)==(0:Int)) else false)=decide (a.length+b.length+c.length+d.length=0):=by
 cases a<;>cases b<;>cases c<;>cases d<;>simp<;>omega
theorem ahq (k:Int) (v:PV) (hs:ajt v):F109 0 k v=some (ans k v):=by
 have hv:F75 0 (alr v)=some (azn (alr v)):=ale _ (by have:=hs.2.1;omega)
 have e0:(v.fld 0).asInt=al7 v:=rfl
 have e1:(v.fld 1).asInt=al6 v:=rfl
 have e2:(v.fld 2).asStr=alr v:=rfl
 have i1:(bif decide (k≥(1:Int)) then decide (k<=(9:Int)) else false)=atn k:=by
  unfold atn
  by_cases h:k≥1<;>simp [h]<;>omega
 have i2:(bif (k==(7:Int)) then true else (k==(8:Int)))=aj9 k:=by
  unfold aj9;cases (k==7)<;>rfl
 unfold F109 F126 F127 F128
 simp only [Option.bind_some,a1s,i1,i2,e0,e1,e2,hv,gb]
 unfold ans
 have eL:(v.fld 3).asList.length+(v.fld 4).asList.length+(v.fld 5).asList.length+(v.fld 6).asList.length=am6 v:=rfl
 simp only [eL]
 cases h1:atn k
 ·simp
 cases h2:(al7 v==k)
 ·have:(al7 v != k)=true:=by simp [bne,h2]
  simp [this]
 have h2':(al7 v != k)=false:=by simp [bne,h2]
 simp only [h2',Bool.not_true,cond_false,Bool.not_false,Bool.true_and,cond_true]
 cases h3:decide (am6 v=0)
 ·simp
 simp only [Bool.not_true,cond_false,Bool.true_and]
 cases h4:aj9 k
 ·simp only [cond_false,Bool.false_eq_true,if_false]
  cases h5:(alr v==[])
  ·simp
  simp only [Bool.not_true,cond_false,Bool.true_and]
  unfold axn
  by_cases k1:k=1
  ·subst k1;simp
  have k1':(k==1)=false:=by simp [k1]
  simp only [k1',cond_false,if_neg k1]
  by_cases k2:k=2
  ·subst k2
   simp only [beq_self_eq_true,cond_true,if_true,ge_iff_le,Bool.decide_and]
   cases decide (-2147483648<=IntKind.wrap .i64 (al6 v))<;>rfl
  have k2':(k==2)=false:=by simp [k2]
  simp only [k2',cond_false,if_neg k2]
  by_cases k4:k=4
  ·subst k4;simp
  have k4':(k==4)=false:=by simp [k4]
  simp only [k4',cond_false,if_neg k4]
  by_cases k9:k=9
  ·subst k9;simp
  have k9':(k==9)=false:=by simp [k9]
  simp only [k9',cond_false,if_neg k9]
 ·simp only [cond_true,if_true]
  have hl:decide (((alr v).length:Int)<=4096)=decide ((alr v).length<=4096):=by simp;omega
  simp only [hl]
  cases (al6 v==0)<;>cases decide ((alr v).length<=4096)<;>cases (k==8)<;>simp
def ad2 (n:PV):List UInt8:=(n.fld 0).asStr
def nVal (n:PV):PV:=n.fld 1
noncomputable def at3 (n:PV):Bool:=(af1 (ad2 n) != 0)&&ans (af1 (ad2 n)) (nVal n)
def afn (n:PV):Prop:=ajt (nVal n)/\(ad2 n).length<=1048576
theorem aus {k:Int}{v:PV} (h:(al7 v==k)=false):ans k v=false:=by
 grind [ans]
theorem asb (n:PV) (hs:afn n):F132 0 n=some (at3 n):=by
 unfold F132
 have e:(n.fld 0).asStr=ad2 n:=rfl
 have e1:n.fld 1=nVal n:=rfl
 have e2:((nVal n).fld 0).asInt=al7 (nVal n):=rfl
 simp only [e,e1,e2,amz,Option.bind_some,ahq _ _ hs.1,gb]
 unfold at3
 cases h:(al7 (nVal n)==af1 (ad2 n))
 ·rw [aus h];cases (af1 (ad2 n) != 0)<;>rfl
 ·cases (af1 (ad2 n) != 0)<;>rfl
noncomputable def chk1 (n:PV) (t:Int) (last:List UInt8) (ok:Bool):Int:=
 if af1 (ad2 n)=0 then 8 else if atg (ad2 n) t=false then 1 else if at3 n=false then 12 else if ok&&Op.bytesLess (ad2 n) last then 11 else if ok&&(ad2 n==last) then 9 else 0
noncomputable def chkL (t:Int):List PV->List UInt8->Bool->Int
 | [],_,_=>0
 | n::r,last,ok=>if chk1 n t last ok=0 then chkL t r (ad2 n) true else chk1 n t last ok
noncomputable def as9 (l:List PV) (t:Int):Int:=if l.length>8 then 3 else chkL t l [] false
theorem aoe (l:List PV) (t:Int) (hl:l.length<=1048576) (hs:∀ n,n∈l->afn n):∀ (m i:Nat) (last:List UInt8),l.length-i<=m->i<=l.length->(0<i->last=ad2 (l.getD (i-1) .bad))->
 abv (S111_5step 0) (l,t,(i:Int))=some (bif decide (chkL t (l.drop i) last (decide (0<i))=0) then .inr () else .inl (chkL t (l.drop i) last (decide (0<i)))):=by
 intro m
 induction m with
 | zero=>
  intro i last hm hi _
  have hlt:¬i<l.length:=by omega
  rw [List.drop_eq_nil_of_le (by omega)]
  exact aai (by simp only [S111_5step,S111_5,adj,hlt,decide_false,cond_false];rfl)
 | succ m ih=>
  intro i last hm hi hlast
  by_cases hlt:i<l.length
  ·rw [adw hlt .bad,chkL]
   have hmem:l.getD i .bad∈l:=by rw [aaf hlt];exact List.getElem_mem _
   have hg:decide ((i:Int)>0)=decide (0<i):=by rw [decide_eq_decide];omega
   have hr:=asb (l.getD i .bad) (hs _ hmem)
   have en:((l.getD i .bad).fld 0).asStr=ad2 (l.getD i .bad):=rfl
   have step:S111_5step 0 (l,t,(i:Int))=some (if chk1 (l.getD i .bad) t last (decide (0<i))=0 then .inl (l,t,((i+1:Nat):Int)) else .inr (.inl (chk1 (l.getD i .bad) t last (decide (0<i))))):=by
    simp only [S111_5step,S111_5,adj,aaa,hlt,decide_true,cond_true,Int.toNat_natCast,hg,en,amz,ava,hr,Option.bind_some,avn (i:=i) (by omega)]
    unfold chk1
    by_cases k0:af1 (ad2 (l.getD i .bad))=0
    ·have:(af1 (ad2 (l.getD i .bad))==(0:Int))=true:=beqT k0
     rw [this,cond_true,if_pos k0];rfl
    ·have:(af1 (ad2 (l.getD i .bad))==(0:Int))=false:=beqI k0
     rw [this,cond_false,if_neg k0]
     cases atg (ad2 (l.getD i .bad)) t
     ·rfl
     ·simp only [Bool.not_true,cond_false,Bool.true_eq_false,if_false]
      cases at3 (l.getD i .bad)
      ·rfl
      ·simp only [Bool.not_true,cond_false,Bool.true_eq_false,if_false]
       by_cases hp:0<i
       ·have w:IntKind.wrap .i64 ((i:Int)-(1:Int))=((i-1:Nat):Int):=by
         rw [show (i:Int)-1=((i-1:Nat):Int) by omega]
         exact ac2 (by omega)
        have hlt':i-1<l.length:=by omega
        have el:ad2 (l.getD (i-1) .bad)=last:=(hlast hp).symm
        have el2:((l.getD (i-1) .bad).fld 0).asStr=last:=el
        simp only [hp,decide_true,imp,cond_true,w,aaa,hlt',Int.toNat_natCast,el2,Bool.true_and]
        cases Op.bytesLess (ad2 (l.getD i .bad)) last<;>cases (ad2 (l.getD i .bad)==last)<;>rfl
       ·simp only [hp,decide_false,imp,cond_false,Bool.not_false,cond_true,awa,Bool.false_and,Bool.false_eq_true,if_false,if_true]
   by_cases h0:chk1 (l.getD i .bad) t last (decide (0<i))=0
   ·rw [if_pos h0] at step ⊢
    rw [aav step,ih (i+1) (ad2 (l.getD i .bad)) (by omega) (by omega) (fun _=>rfl),decide_eq_true (show 0<i+1 by omega)]
   ·rw [if_neg h0] at step ⊢
    rw [decide_eq_false h0]
    exact aai step
  ·rw [List.drop_eq_nil_of_le (by omega)]
   exact aai (by simp only [S111_5step,S111_5,adj,hlt,decide_false,cond_false];rfl)
theorem ar8 (l:List PV) (t:Int) (hl:l.length<=1048576) (hs:∀ n,n∈l->afn n):F111 0 l t=some (as9 l t):=by
 have h:=aoe l t hl hs l.length 0 [] (by omega) (by omega) (fun h=>by omega)
 unfold F111 as9
 have hg:decide ((l.length:Int)>8)=decide (l.length>8):=by rw [decide_eq_decide];omega
 rw [hg,af2,show (0:Int)=((0:Nat):Int) from rfl,h]
 by_cases h8:l.length>8
 ·simp [h8]
 ·simp only [h8,decide_false,cond_false,if_false,List.drop_zero,Nat.lt_irrefl]
  by_cases h0:chkL t l [] false=0
  ·rw [h0];rfl
  ·rw [decide_eq_false h0];rfl
end Go.Ab
namespace Go.Ab
open Go
set_option maxRecDepth 100000
end Go.Ab
