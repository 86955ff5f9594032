/- Quoting: the program's and the specification's are the same. -/
import Derived.Test.YtjogoleiodbfdaaGreatPUtfT
import Derived.Test.YtjogoleiodbfdaaGreatAbUtf
set_option linter.unusedVariables false
set_option linter.unusedSimpArgs false
set_option linter.unnecessarySimpa false
namespace Go.Ab
open Go
set_option maxRecDepth 100000
theorem nbeq (a b:Nat):((a:Int)==(b:Int))=decide (a=b):=by
 by_cases h:a=b
 ·simp [h]
 ·simp [h];omega
end Go.Ab
namespace Go.Ab
open Go
theorem beqI {a b:Int} (h:a≠b):(a==b)=false:=by simp [h]
theorem beqT {a b:Int} (h:a=b):(a==b)=true:=by simp [h]
theorem apg {α:Type} (b:Bool) (x y:α):(bif b then some x else some y)=some (bif b then x else y):=by cases b<;>rfl
noncomputable def afu (name:List UInt8):Int:=(F130 0 name).getD 0
theorem aml (name:List UInt8):F130 0 name=some (afu name):=by
 unfold afu
 simp only [F130,apg,Option.getD_some]
noncomputable def asm (name:List UInt8) (target:Int):Bool:=(F131 0 name target).getD false
theorem aui (name:List UInt8) (target:Int):F131 0 name target=some (asm name target):=by
 unfold asm
 simp only [F131,apg,Option.getD_some]
def alz (v:PV):Int:=(v.fld 0).asInt
def aly (v:PV):Int:=(v.fld 1).asInt
def alh (v:PV):List UInt8:=(v.fld 2).asStr
def ams (v:PV):Nat:=(v.fld 3).asList.length+(v.fld 4).asList.length+(v.fld 5).asList.length+(v.fld 6).asList.length
def ajo (v:PV):Prop:=ams v<=1048576/\(alh v).length<=1048576/\0<=aly v/\aly v<18446744073709551616
def asr (k:Int):Bool:=decide (1<=k/\k<=9)
def aj3 (k:Int):Bool:=k==7||k==8
def awx (k bits:Int):Bool:=
 if k=1 then decide (bits<=1) else if k=2 then decide (-2147483648<=IntKind.wrap .i64 bits/\IntKind.wrap .i64 bits<=2147483647) else if k=4 then decide (bits<4294967296) else if k=9 then decide (bits<2147483648) else true
def anb (k:Int) (v:PV):Bool:=
 asr k&&(alz v==k)&&decide (ams v=0)&&(if aj3 k then (aly v==0)&&decide ((alh v).length<=4096)&&((k==8)||ayx (alh v)) else (alh v==[])&&awx k (aly v))
theorem a0t (a b c d:List PV):(bif (bif (bif ((a.length:Int)==(0:Int)) then ((b.length:Int)==(0:Int)) else false) then ((c.length:Int)==(0:Int)) else false) then ((d.length:Int)==(0:Int)) else false)=decide (a.length+b.length+c.length+d.length=0):=by
 cases a<;>cases b<;>cases c<;>cases d<;>simp<;>omega
theorem ahj (k:Int) (v:PV) (hs:ajo v):F109 0 k v=some (anb k v):=by
 have hv:F75 0 (alh v)=some (ayx (alh v)):=ak7 _ (by have:=hs.2.1;omega)
 have e0:(v.fld 0).asInt=alz v:=rfl
 have e1:(v.fld 1).asInt=aly v:=rfl
 have e2:(v.fld 2).asStr=alh v:=rfl
 have i1:(bif decide (k≥(1:Int)) then decide (k<=(9:Int)) else false)=asr k:=by
  unfold asr
  by_cases h:k≥1<;>simp [h]<;>omega
 have i2:(bif (k==(7:Int)) then true else (k==(8:Int)))=aj3 k:=by
  unfold aj3;cases (k==7)<;>rfl
 unfold F109 F126 F127 F128
 simp only [Option.bind_some,a0t,i1,i2,e0,e1,e2,hv,gb]
 unfold anb
 have eL:(v.fld 3).asList.length+(v.fld 4).asList.length+(v.fld 5).asList.length+(v.fld 6).asList.length=ams v:=rfl
 simp only [eL]
 cases h1:asr k
 ·simp
 cases h2:(alz v==k)
 ·have:(alz v != k)=true:=by simp [bne,h2]
  simp [this]
 have h2':(alz v != k)=false:=by simp [bne,h2]
 simp only [h2',Bool.not_true,cond_false,Bool.not_false,Bool.true_and,cond_true]
 cases h3:decide (ams v=0)
 ·simp
 simp only [Bool.not_true,cond_false,Bool.true_and]
 cases h4:aj3 k
 ·simp only [cond_false,Bool.false_eq_true,if_false]
  cases h5:(alh v==[])
  ·simp
  simp only [Bool.not_true,cond_false,Bool.true_and]
  unfold awx
  by_cases k1:k=1
  ·subst k1;simp
  have k1':(k==1)=false:=by simp [k1]
  simp only [k1',cond_false,if_neg k1]
  by_cases k2:k=2
  ·subst k2
   simp only [beq_self_eq_true,cond_true,if_true,ge_iff_le,Bool.decide_and]
   cases decide (-2147483648<=IntKind.wrap .i64 (aly v))<;>rfl
  have k2':(k==2)=false:=by simp [k2]
  simp only [k2',cond_false,if_neg k2]
  by_cases k4:k=4
  ·subst k4;simp
  have k4':(k==4)=false:=by simp [k4]
  simp only [k4',cond_false,if_neg k4]
  by_cases k9:k=9
  ·subst k9;simp
  have k9':(k==9)=false:=by simp [k9]
  simp only [k9',cond_false,if_neg k9]
 ·simp only [cond_true,if_true]
  have hl:decide (((alh v).length:Int)<=4096)=decide ((alh v).length<=4096):=by simp;omega
  simp only [hl]
  cases (aly v==0)<;>cases decide ((alh v).length<=4096)<;>cases (k==8)<;>simp
def adv (n:PV):List UInt8:=(n.fld 0).asStr
def nVal (n:PV):PV:=n.fld 1
noncomputable def ata (n:PV):Bool:=(afu (adv n) != 0)&&anb (afu (adv n)) (nVal n)
def afg (n:PV):Prop:=ajo (nVal n)/\(adv n).length<=1048576
theorem atz {k:Int}{v:PV} (h:(alz v==k)=false):anb k v=false:=by
 grind [anb]
theorem ari (n:PV) (hs:afg n):F132 0 n=some (ata n):=by
 unfold F132
 have e:(n.fld 0).asStr=adv n:=rfl
 have e1:n.fld 1=nVal n:=rfl
 have e2:((nVal n).fld 0).asInt=alz (nVal n):=rfl
 simp only [e,e1,e2,aml,Option.bind_some,ahj _ _ hs.1,gb]
 unfold ata
 cases h:(alz (nVal n)==afu (adv n))
 ·rw [atz h];cases (afu (adv n) != 0)<;>rfl
 ·cases (afu (adv n) != 0)<;>rfl
noncomputable def chk1 (n:PV) (t:Int) (last:List UInt8) (ok:Bool):Int:=
 if afu (adv n)=0 then 8 else if asm (adv n) t=false then 1 else if ata n=false then 12 else if ok&&Op.bytesLess (adv n) last then 11 else if ok&&(adv n==last) then 9 else 0
noncomputable def chkL (t:Int):List PV->List UInt8->Bool->Int
 | [],_,_=>0
 | n::r,last,ok=>if chk1 n t last ok=0 then chkL t r (adv n) true else chk1 n t last ok
noncomputable def asg (l:List PV) (t:Int):Int:=if l.length>8 then 3 else chkL t l [] false
theorem anx (l:List PV) (t:Int) (hl:l.length<=1048576) (hs:∀ n,n∈l->afg n):∀ (m i:Nat) (last:List UInt8),l.length-i<=m->i<=l.length->(0<i->last=adv (l.getD (i-1) .bad))->
 abo (S111_5step 0) (l,t,(i:Int))=some (bif decide (chkL t (l.drop i) last (decide (0<i))=0) then .inr () else .inl (chkL t (l.drop i) last (decide (0<i)))):=by
 intro m
 induction m with
 | zero=>
  intro i last hm hi _
  have hlt:¬i<l.length:=by omega
  rw [List.drop_eq_nil_of_le (by omega)]
  exact aaf (by simp only [S111_5step,S111_5,ade,hlt,decide_false,cond_false];rfl)
 | succ m ih=>
  intro i last hm hi hlast
  by_cases hlt:i<l.length
  ·rw [adq hlt .bad,chkL]
   have hmem:l.getD i .bad∈l:=by rw [aag hlt];exact List.getElem_mem _
   have hg:decide ((i:Int)>0)=decide (0<i):=by rw [decide_eq_decide];omega
   have hr:=ari (l.getD i .bad) (hs _ hmem)
   have en:((l.getD i .bad).fld 0).asStr=adv (l.getD i .bad):=rfl
   have step:S111_5step 0 (l,t,(i:Int))=some (if chk1 (l.getD i .bad) t last (decide (0<i))=0 then .inl (l,t,((i+1:Nat):Int)) else .inr (.inl (chk1 (l.getD i .bad) t last (decide (0<i))))):=by
    simp only [S111_5step,S111_5,ade,aaa,hlt,decide_true,cond_true,Int.toNat_natCast,hg,en,aml,aui,hr,Option.bind_some,auv (i:=i) (by omega)]
    unfold chk1
    by_cases k0:afu (adv (l.getD i .bad))=0
    ·have:(afu (adv (l.getD i .bad))==(0:Int))=true:=beqT k0
     rw [this,cond_true,if_pos k0];rfl
    ·have:(afu (adv (l.getD i .bad))==(0:Int))=false:=beqI k0
     rw [this,cond_false,if_neg k0]
     cases asm (adv (l.getD i .bad)) t
     ·rfl
     ·simp only [Bool.not_true,cond_false,Bool.true_eq_false,if_false]
      cases ata (l.getD i .bad)
      ·rfl
      ·simp only [Bool.not_true,cond_false,Bool.true_eq_false,if_false]
       by_cases hp:0<i
       ·have w:IntKind.wrap .i64 ((i:Int)-(1:Int))=((i-1:Nat):Int):=by
         rw [show (i:Int)-1=((i-1:Nat):Int) by omega]
         exact ac0 (by omega)
        have hlt':i-1<l.length:=by omega
        have el:adv (l.getD (i-1) .bad)=last:=(hlast hp).symm
        have el2:((l.getD (i-1) .bad).fld 0).asStr=last:=el
        simp only [hp,decide_true,imp,cond_true,w,aaa,hlt',Int.toNat_natCast,el2,Bool.true_and]
        cases Op.bytesLess (adv (l.getD i .bad)) last<;>cases (adv (l.getD i .bad)==last)<;>rfl
       ·simp only [hp,decide_false,imp,cond_false,Bool.not_false,cond_true,avj,Bool.false_and,Bool.false_eq_true,if_false,if_true]
   by_cases h0:chk1 (l.getD i .bad) t last (decide (0<i))=0
   ·rw [if_pos h0] at step ⊢
    rw [aaz step,ih (i+1) (adv (l.getD i .bad)) (by omega) (by omega) (fun _=>rfl),decide_eq_true (show 0<i+1 by omega)]
   ·rw [if_neg h0] at step ⊢
    rw [decide_eq_false h0]
    exact aaf step
  ·rw [List.drop_eq_nil_of_le (by omega)]
   exact aaf (by simp only [S111_5step,S111_5,ade,hlt,decide_false,cond_false];rfl)
theorem ard (l:List PV) (t:Int) (hl:l.length<=1048576) (hs:∀ n,n∈l->afg n):F111 0 l t=some (asg l t):=by
 have h:=anx l t hl hs l.length 0 [] (by omega) (by omega) (fun h=>by omega)
 unfold F111 asg
 have hg:decide ((l.length:Int)>8)=decide (l.length>8):=by rw [decide_eq_decide];omega
 rw [hg,afv,show (0:Int)=((0:Nat):Int) from rfl,h]
 by_cases h8:l.length>8
 ·simp [h8]
 ·simp only [h8,decide_false,cond_false,if_false,List.drop_zero,Nat.lt_irrefl]
  by_cases h0:chkL t l [] false=0
  ·rw [h0];rfl
  ·rw [decide_eq_false h0];rfl
end Go.Ab
namespace Go.Ab
open Go
set_option maxRecDepth 100000
end Go.Ab
