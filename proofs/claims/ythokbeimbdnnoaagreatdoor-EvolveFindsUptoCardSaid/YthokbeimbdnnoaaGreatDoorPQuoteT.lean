/- Quoting: the program's and the specification's are the same. -/
import Derived.Test.YthokbeimbdnnoaaGreatDoorPUtfT
import Derived.Test.YthokbeimbdnnoaaGreatDoorAbUtf
set_option linter.unusedVariables false
set_option linter.unusedSimpArgs false
set_option linter.unnecessarySimpa false
namespace Go.Ab
open Go
set_option maxRecDepth 100000
theorem nbeq (a b:Nat):((a:Int)==(b:Int))=decide (a=b):=by
 by_cases h:a=b
 ·simp [h]
 ·simp [h];omega
theorem a3i {n:Nat} (h:n<=4611686018427387904):decide (n<=abe)=true:=decide_eq_true h
theorem aui:((List.range 256).all fun b=>F167 0 (b:Int)==some (92::120::hex2 b))=true:=by kernel_rfl
theorem awr {b:Nat} (h:b<256):F167 0 (b:Int)=some (92::120::hex2 b):=by
 have:=List.all_eq_true.1 aui b (List.mem_range.2 h)
 simpa using this
theorem a2w (s:List UInt8) (i:Nat) (hi:i<s.length):F103 0 s (i:Int) ((aao s i).1:Int)=some (alp s i):=by
 unfold F103 alp
 have hw:=aty s i hi
 have hb:((s.getD ((i:Int)).toNat 0).toNat:Int)=(byteAt s i:Int):=rfl
 have he:=awr (ab4 s i)
 have hr:aaa (i:Int) s.length=true:=by rw [aab,decide_eq_true hi]
 have k34:(((aao s i).1:Int)==(34:Int))=decide ((aao s i).1=34):=nbeq _ 34
 have k92:(((aao s i).1:Int)==(92:Int))=decide ((aao s i).1=92):=nbeq _ 92
 have k10:(((aao s i).1:Int)==(10:Int))=decide ((aao s i).1=10):=nbeq _ 10
 have k9:(((aao s i).1:Int)==(9:Int))=decide ((aao s i).1=9):=nbeq _ 9
 have k13:(((aao s i).1:Int)==(13:Int))=decide ((aao s i).1=13):=nbeq _ 13
 have k127:(((aao s i).1:Int)==(127:Int))=decide ((aao s i).1=127):=nbeq _ 127
 have k32:decide (((aao s i).1:Int)<(32:Int))=decide ((aao s i).1<32):=afl _ 32
 simp only [k34,k92,k10,k9,k13,k127,k32,hw,hr,hb,he,cond_true,Option.bind_some]
 by_cases ha:byteAt s i<128
 ·rw [aeb s i ha,ajk s i ha]
  have hw1:=ah7 s i hi (by rw [ajk s i ha];decide)
  rw [aeb s i ha,ajk s i ha] at hw1
  simp only [hw1]
  by_cases c1:byteAt s i=34
  ·simp [c1]
  by_cases c2:byteAt s i=92
  ·simp [c2]
  by_cases c3:byteAt s i=10
  ·simp [c3]
  by_cases c4:byteAt s i=9
  ·simp [c4]
  by_cases c5:byteAt s i=13
  ·simp [c5]
  simp only [c1,c2,c3,c4,c5,decide_false,cond_false,if_false]
  by_cases c6:byteAt s i<32
  ·simp [c6]
  ·by_cases c7:byteAt s i=127
   ·simp [c7]
   ·simp [c6,c7]
 ·have hh:=ak2 s i (by omega)
  have d1:decide ((aao s i).1=34)=false:=decide_eq_false (by omega)
  have d2:decide ((aao s i).1=92)=false:=decide_eq_false (by omega)
  have d3:decide ((aao s i).1=10)=false:=decide_eq_false (by omega)
  have d4:decide ((aao s i).1=9)=false:=decide_eq_false (by omega)
  have d5:decide ((aao s i).1=13)=false:=decide_eq_false (by omega)
  have d6:decide ((aao s i).1=127)=false:=decide_eq_false (by omega)
  have d7:decide ((aao s i).1<32)=false:=decide_eq_false (by omega)
  have e1:¬byteAt s i=34:=by omega
  have e2:¬byteAt s i=92:=by omega
  have e3:¬byteAt s i=10:=by omega
  have e4:¬byteAt s i=9:=by omega
  have e5:¬byteAt s i=13:=by omega
  have e6:¬byteAt s i=127:=by omega
  have e7:¬byteAt s i<32:=by omega
  simp only [d1,d2,d3,d4,d5,d6,d7,e1,e2,e3,e4,e5,e6,e7,cond_false,Bool.not_false,cond_true,Option.bind_some,if_false,false_or]
  by_cases h0:sizeAt s i=0
  ·simp [h0]
  ·simp only [h0,decide_false,cond_false,if_false]
   rw [ah7 s i hi h0]
theorem avb (s:List UInt8):∀ (m i:Nat) (acc:List UInt8),s.length-i<=m->i<=s.length->acc.length+4*(s.length-i)<=140737488355328->
 ∃ z,aba (S53_5step 0) (s,(),(),acc,s,(i:Int))=some ((),acc++acp s i,s,z):=by
 intro m
 induction m with
 | zero=>
  intro i acc hm hi hb
  have hlt:¬i<s.length:=by omega
  rw [acp,if_neg hlt]
  refine ⟨(i:Int),aag ?_⟩
  simp only [S53_5step,S53_5,Int.toNat_natCast,hlt,decide_false,cond_false,List.append_nil]
 | succ m ih=>
  intro i acc hm hi hb
  by_cases hlt:i<s.length
  ·have hp:=apv s i hlt
   have hl:=am1 s i hlt
   have hl1:=ah1 s i
   obtain ⟨z,hz⟩:=ih (i+ael s i) (acc++alp s i) (by omega) (by omega) (by rw [List.length_append];omega)
   refine ⟨z,?_⟩
   rw [acp,if_pos hlt,<-List.append_assoc,<-hz]
   refine aas ?_
   have hw:Nat.ble (acc.length+(alp s i).length) 140737488355328=true:=by rw [Nat.ble_eq];omega
   simp only [S53_5step,S53_5,Int.toNat_natCast,hlt,decide_true,cond_true,agh,a2w s i hlt,a1k s i hlt,Option.bind_some,abm,hw]
  ·have hlt':¬i<s.length:=hlt
   rw [acp,if_neg hlt]
   refine ⟨(i:Int),aag ?_⟩
   simp only [S53_5step,S53_5,Int.toNat_natCast,hlt,decide_false,cond_false,List.append_nil]
theorem ags (s:List UInt8):(aoc s).length<=4*s.length+2:=by
 have:=aiq s s.length 0 (by omega)
 simp [aoc];omega
theorem aod (s:List UInt8) (hs:s.length<=1048576):F53 0 s=some (aoc s):=by
 obtain ⟨z,hz⟩:=avb s s.length 0 [34] (by omega) (by omega) (by simp;omega)
 have hq:=aiq s s.length 0 (by omega)
 unfold F53
 have w1:abm 0 ([34]:List UInt8) []=some (1,.nilIface,[34]):=rfl
 have w2:Nat.ble (([34]++acp s 0).length+1) 140737488355328=true:=by rw [Nat.ble_eq];simp;omega
 simp only [w1,Option.bind_some,af0,hz]
 simp only [abm,List.length_cons,List.length_nil,Nat.zero_add,w2,cond_true,Option.bind_some,am6]
 simp [aoc]
end Go.Ab
namespace Go.Ab
open Go
theorem beqI {a b:Int} (h:a≠b):(a==b)=false:=by simp [h]
theorem beqT {a b:Int} (h:a=b):(a==b)=true:=by simp [h]
theorem apy {α:Type} (b:Bool) (x y:α):(bif b then some x else some y)=some (bif b then x else y):=by cases b<;>rfl
noncomputable def ago (name:List UInt8):Int:=(F244 0 name).getD 0
theorem amy (name:List UInt8):F244 0 name=some (ago name):=by
 unfold ago
 simp only [F244,apy,Option.getD_some]
noncomputable def ata (name:List UInt8) (target:Int):Bool:=(F245 0 name target).getD false
theorem avc (name:List UInt8) (target:Int):F245 0 name target=some (ata name target):=by
 unfold ata
 simp only [F245,apy,Option.getD_some]
def aa3 (v:PV):Int:=(v.fld 0).asInt
def abx (v:PV):Int:=(v.fld 1).asInt
def acm (v:PV):List UInt8:=(v.fld 2).asStr
def vLists (v:PV):Nat:=(v.fld 3).asList.length+(v.fld 4).asList.length+(v.fld 5).asList.length+(v.fld 6).asList.length
def adm (v:PV):Prop:=vLists v<=1048576/\(acm v).length<=1048576/\0<=abx v/\abx v<18446744073709551616
def ak9 (k:Int):Bool:=decide (1<=k/\k<=9)
def aeh (k:Int):Bool:=k==7||k==8
def alq (k bits:Int):Bool:=
 if k=1 then decide (bits<=1) else if k=2 then decide (-2147483648<=IntKind.wrap .i64 bits/\IntKind.wrap .i64 bits<=2147483647) else if k=4 then decide (bits<4294967296) else if k=9 then decide (bits<2147483648) else true
def adg (k:Int) (v:PV):Bool:=
 ak9 k&&(aa3 v==k)&&decide (vLists v=0)&&(if aeh k then (abx v==0)&&decide ((acm v).length<=4096)&&((k==8)||valid (acm v)) else (acm v==[])&&alq k (abx v))
theorem a5f (a b c d:List PV):(bif (bif (bif ((a.length:Int)==(0:Int)) then ((b.length:Int)==(0:Int)) else false) then ((c.length:Int)==(0:Int)) else false) then ((d.length:Int)==(0:Int)) else false)=decide (a.length+b.length+c.length+d.length=0):=by
 cases a<;>cases b<;>cases c<;>cases d<;>simp<;>omega
theorem als (k:Int) (v:PV) (hs:adm v):F104 0 k v=some (adg k v):=by
 have hv:F150 0 (acm v)=some (valid (acm v)):=alt _ (by have:=hs.2.1;omega)
 have e0:(v.fld 0).asInt=aa3 v:=rfl
 have e1:(v.fld 1).asInt=abx v:=rfl
 have e2:(v.fld 2).asStr=acm v:=rfl
 have i1:(bif decide (k≥(1:Int)) then decide (k<=(9:Int)) else false)=ak9 k:=by
  unfold ak9
  by_cases h:k≥1<;>simp [h]<;>omega
 have i2:(bif (k==(7:Int)) then true else (k==(8:Int)))=aeh k:=by
  unfold aeh;cases (k==7)<;>rfl
 unfold F104 F168 F169 F170
 simp only [Option.bind_some,a5f,i1,i2,e0,e1,e2,hv,gb]
 unfold adg
 have eL:(v.fld 3).asList.length+(v.fld 4).asList.length+(v.fld 5).asList.length+(v.fld 6).asList.length=vLists v:=rfl
 simp only [eL]
 cases h1:ak9 k
 ·simp
 cases h2:(aa3 v==k)
 ·have:(aa3 v != k)=true:=by simp [bne,h2]
  simp [this]
 have h2':(aa3 v != k)=false:=by simp [bne,h2]
 simp only [h2',Bool.not_true,cond_false,Bool.not_false,Bool.true_and,cond_true]
 cases h3:decide (vLists v=0)
 ·simp
 simp only [Bool.not_true,cond_false,Bool.true_and]
 cases h4:aeh k
 ·simp only [cond_false,Bool.false_eq_true,if_false]
  cases h5:(acm v==[])
  ·simp
  simp only [Bool.not_true,cond_false,Bool.true_and]
  unfold alq
  by_cases k1:k=1
  ·subst k1;simp
  have k1':(k==1)=false:=by simp [k1]
  simp only [k1',cond_false,if_neg k1]
  by_cases k2:k=2
  ·subst k2
   simp only [beq_self_eq_true,cond_true,if_true,ge_iff_le,Bool.decide_and]
   cases decide (-2147483648<=IntKind.wrap .i64 (abx v))<;>rfl
  have k2':(k==2)=false:=by simp [k2]
  simp only [k2',cond_false,if_neg k2]
  by_cases k4:k=4
  ·subst k4;simp
  have k4':(k==4)=false:=by simp [k4]
  simp only [k4',cond_false,if_neg k4]
  by_cases k9:k=9
  ·subst k9;simp
  have k9':(k==9)=false:=by simp [k9]
  simp only [k9',cond_false,if_neg k9]
 ·simp only [cond_true,if_true]
  have hl:decide (((acm v).length:Int)<=4096)=decide ((acm v).length<=4096):=by simp;omega
  simp only [hl]
  cases (abx v==0)<;>cases decide ((acm v).length<=4096)<;>cases (k==8)<;>simp
theorem akd (k:Int) (v:PV) (hs:adm v):F283 0 k v=some (adg k v):=by
 have hv:F306 0 (acm v)=some (valid (acm v)):=a1i _
 have e0:(v.fld 0).asInt=aa3 v:=rfl
 have e1:(v.fld 1).asInt=abx v:=rfl
 have e2:(v.fld 2).asStr=acm v:=rfl
 have i1:(bif decide (k≥(1:Int)) then decide (k<=(9:Int)) else false)=ak9 k:=by
  grind [ak9]
 have eL:(v.fld 3).asList.length+(v.fld 4).asList.length+(v.fld 5).asList.length+(v.fld 6).asList.length=vLists v:=rfl
 have hL:=hs.1
 have w1:IntKind.wrap .i64 (((v.fld 3).asList.length:Int)+((v.fld 4).asList.length:Int))=(((v.fld 3).asList.length+(v.fld 4).asList.length:Nat):Int):=wadd (by grind)
 have w2:IntKind.wrap .i64 ((((v.fld 3).asList.length+(v.fld 4).asList.length:Nat):Int)+((v.fld 5).asList.length:Int))=(((v.fld 3).asList.length+(v.fld 4).asList.length+(v.fld 5).asList.length:Nat):Int):=wadd (by grind)
 have w3:IntKind.wrap .i64 ((((v.fld 3).asList.length+(v.fld 4).asList.length+(v.fld 5).asList.length:Nat):Int)+((v.fld 6).asList.length:Int))=(((v.fld 3).asList.length+(v.fld 4).asList.length+(v.fld 5).asList.length+(v.fld 6).asList.length:Nat):Int):=wadd (by grind)
 have tk:∀ k:Int,(bif (k==(7:Int)) then true else (k==(8:Int)))=aeh k:=fun k=>by
  grind [aeh]
 unfold F283 F303 F304 F305 F317
 simp only [Option.bind_some,i1,tk,e0,e1,e2,hv,gb,w1,w2,w3,eL]
 have hrange:(bif (k==(1:Int)) then some (decide (abx v<=1)) else bif (k==(2:Int)) then some (bif decide (IntKind.wrap .i64 (abx v)≥-2147483648) then decide (IntKind.wrap .i64 (abx v)<=2147483647) else false) else
  bif (k==(9:Int)) then some (decide (abx v<=2147483647)) else bif (k==(4:Int)) then some (decide (abx v<=4294967295)) else some true)=some (alq k (abx v)):=by
  unfold alq
  by_cases k1:k=1
  ·subst k1;simp
  have k1':(k==1)=false:=by simp [k1]
  simp only [k1',cond_false,if_neg k1]
  by_cases k2:k=2
  ·grind
  grind
 rw [hrange]
 unfold adg
 cases h1:ak9 k
 ·simp
 cases h2:(aa3 v==k)
 ·grind
 have h2':(aa3 v != k)=false:=by simp [bne,h2]
 have h2e:aa3 v=k:=by simpa using h2
 rw [h2e]
 have h2k:(k != k)=false:=by simp
 simp only [h2k,Bool.not_true,cond_false,Bool.not_false,Bool.true_and,cond_true]
 by_cases h3:vLists v=0
 ·have h3':decide ((vLists v:Int)>0)=false:=by simp;omega
  simp only [h3',cond_false,h3,decide_true,Bool.true_and]
  have hl:decide (((acm v).length:Int)>4096)=!decide ((acm v).length<=4096):=by
   grind
  cases h4:aeh k
  ·simp only [cond_false,Bool.false_eq_true,if_false,Option.bind_some]
   have k7:(k != 7)=true:=by
    grind
   all_goals grind
  ·simp only [cond_true,if_true,Option.bind_some]
   have hr:alq k (abx v)=true:=by
    all_goals grind
   simp only [hr,hl]
   have k78:k=7∨k=8:=by all_goals grind
   rcases k78 with rfl | rfl
   all_goals grind
 grind
def ad7 (n:PV):List UInt8:=(n.fld 0).asStr
def nVal (n:PV):PV:=n.fld 1
noncomputable def ats (n:PV):Bool:=(ago (ad7 n) != 0)&&adg (ago (ad7 n)) (nVal n)
def af3 (n:PV):Prop:=adm (nVal n)/\(ad7 n).length<=1048576
theorem auq {k:Int}{v:PV} (h:(aa3 v==k)=false):adg k v=false:=by
 grind [adg]
theorem ar3 (n:PV) (hs:af3 n):F246 0 n=some (ats n):=by
 unfold F246
 have e:(n.fld 0).asStr=ad7 n:=rfl
 have e1:n.fld 1=nVal n:=rfl
 have e2:((nVal n).fld 0).asInt=aa3 (nVal n):=rfl
 simp only [e,e1,e2,amy,Option.bind_some,als _ _ hs.1,gb]
 unfold ats
 cases h:(aa3 (nVal n)==ago (ad7 n))
 ·rw [auq h];cases (ago (ad7 n) != 0)<;>rfl
 ·cases (ago (ad7 n) != 0)<;>rfl
noncomputable def chk1 (n:PV) (t:Int) (last:List UInt8) (ok:Bool):Int:=
 if ago (ad7 n)=0 then 8 else if ata (ad7 n) t=false then 1 else if ats n=false then 12 else if ok&&Op.bytesLess (ad7 n) last then 11 else if ok&&(ad7 n==last) then 9 else 0
noncomputable def chkL (t:Int):List PV->List UInt8->Bool->Int
 | [],_,_=>0
 | n::r,last,ok=>if chk1 n t last ok=0 then chkL t r (ad7 n) true else chk1 n t last ok
noncomputable def as4 (l:List PV) (t:Int):Int:=if l.length>8 then 3 else chkL t l [] false
theorem aoe (l:List PV) (t:Int) (hl:l.length<=1048576) (hs:∀ n,n∈l->af3 n):∀ (m i:Nat) (last:List UInt8),l.length-i<=m->i<=l.length->(0<i->last=ad7 (l.getD (i-1) .bad))->
 aba (S210_5step 0) (l,t,(i:Int))=some (bif decide (chkL t (l.drop i) last (decide (0<i))=0) then .inr () else .inl (chkL t (l.drop i) last (decide (0<i)))):=by
 intro m
 induction m with
 | zero=>
  intro i last hm hi _
  have hlt:¬i<l.length:=by omega
  rw [List.drop_eq_nil_of_le (by omega)]
  exact aag (by simp only [S210_5step,S210_5,afl,hlt,decide_false,cond_false];rfl)
 | succ m ih=>
  intro i last hm hi hlast
  by_cases hlt:i<l.length
  ·rw [aa8 hlt .bad,chkL]
   have hmem:l.getD i .bad∈l:=by rw [aac hlt];exact List.getElem_mem _
   have hg:decide ((i:Int)>0)=decide (0<i):=by rw [decide_eq_decide];omega
   have hr:=ar3 (l.getD i .bad) (hs _ hmem)
   have en:((l.getD i .bad).fld 0).asStr=ad7 (l.getD i .bad):=rfl
   have step:S210_5step 0 (l,t,(i:Int))=some (if chk1 (l.getD i .bad) t last (decide (0<i))=0 then .inl (l,t,((i+1:Nat):Int)) else .inr (.inl (chk1 (l.getD i .bad) t last (decide (0<i))))):=by
    simp only [S210_5step,S210_5,afl,aab,hlt,decide_true,cond_true,Int.toNat_natCast,hg,en,amy,avc,hr,Option.bind_some,ay6 (i:=i) (by omega)]
    unfold chk1
    by_cases k0:ago (ad7 (l.getD i .bad))=0
    ·have:(ago (ad7 (l.getD i .bad))==(0:Int))=true:=beqT k0
     rw [this,cond_true,if_pos k0];rfl
    ·have:(ago (ad7 (l.getD i .bad))==(0:Int))=false:=beqI k0
     rw [this,cond_false,if_neg k0]
     cases ata (ad7 (l.getD i .bad)) t
     ·rfl
     ·simp only [Bool.not_true,cond_false,Bool.true_eq_false,if_false]
      cases ats (l.getD i .bad)
      ·rfl
      ·simp only [Bool.not_true,cond_false,Bool.true_eq_false,if_false]
       by_cases hp:0<i
       ·have w:IntKind.wrap .i64 ((i:Int)-(1:Int))=((i-1:Nat):Int):=by
         rw [show (i:Int)-1=((i-1:Nat):Int) by omega]
         exact aa5 (by omega)
        have hlt':i-1<l.length:=by omega
        have el:ad7 (l.getD (i-1) .bad)=last:=(hlast hp).symm
        have el2:((l.getD (i-1) .bad).fld 0).asStr=last:=el
        simp only [hp,decide_true,imp,cond_true,w,aab,hlt',Int.toNat_natCast,el2,Bool.true_and]
        cases Op.bytesLess (ad7 (l.getD i .bad)) last<;>cases (ad7 (l.getD i .bad)==last)<;>rfl
       ·simp only [hp,decide_false,imp,cond_false,Bool.not_false,cond_true,ao4,Bool.false_and,Bool.false_eq_true,if_false,if_true]
   by_cases h0:chk1 (l.getD i .bad) t last (decide (0<i))=0
   ·rw [if_pos h0] at step ⊢
    rw [aas step,ih (i+1) (ad7 (l.getD i .bad)) (by omega) (by omega) (fun _=>rfl),decide_eq_true (show 0<i+1 by omega)]
   ·rw [if_neg h0] at step ⊢
    rw [decide_eq_false h0]
    exact aag step
  ·rw [List.drop_eq_nil_of_le (by omega)]
   exact aag (by simp only [S210_5step,S210_5,afl,hlt,decide_false,cond_false];rfl)
theorem ar1 (l:List PV) (t:Int) (hl:l.length<=1048576) (hs:∀ n,n∈l->af3 n):F210 0 l t=some (as4 l t):=by
 have h:=aoe l t hl hs l.length 0 [] (by omega) (by omega) (fun h=>by omega)
 unfold F210 as4
 have hg:decide ((l.length:Int)>8)=decide (l.length>8):=by rw [decide_eq_decide];omega
 rw [hg,af0,show (0:Int)=((0:Nat):Int) from rfl,h]
 by_cases h8:l.length>8
 ·simp [h8]
 ·simp only [h8,decide_false,cond_false,if_false,List.drop_zero,Nat.lt_irrefl]
  by_cases h0:chkL t l [] false=0
  ·rw [h0];rfl
  ·rw [decide_eq_false h0];rfl
end Go.Ab
namespace Go.Ab
open Go
set_option maxRecDepth 100000
theorem azx:∀ (f u:Nat),(decF f u).length<=f:=by
 intro f
 induction f with
 | zero=>intro u;simp [decF]
 | succ f ih=>
  intro u
  unfold decF
  cases Nat.ble u 9 with
  | true=>simp
  | false=>have:=ih (u / 10);simp;omega
theorem anh (u:Nat):(decB u).length<=20:=azx 20 u
theorem axg (n:Int):(anx n).length<=21:=by
 unfold anx
 have h1:=anh n.natAbs
 have h2:=anh n.toNat
 cases decide (n<0) with
 | true=>simp;omega
 | false=>simp;omega
def asn (v:PV):List UInt8:=
 bif adg (aa3 v) v then
  (bif aa3 v==1 then (bif abx v==1 then [116,114,117,101] else [102,97,108,115,101])
  else bif aa3 v==2 then anx (IntKind.wrap .i64 (abx v)) else bif aa3 v==3 then anx (IntKind.wrap .i64 (abx v)) else bif aa3 v==7 then aoc (acm v) else decB (abx v).toNat)
 else []
theorem a0l (n:Int) (h0:-9223372036854775808<=n) (h1:n<=9223372036854775807):aos 0 n=some (anx n):=by
 unfold aos
 rw [decide_eq_true h0,decide_eq_true h1];rfl
theorem wrapI (u:Nat) (hu:u<18446744073709551616):-9223372036854775808<=IntKind.wrap .i64 (u:Int)/\IntKind.wrap .i64 (u:Int)<=9223372036854775807:=by
 rw [IntKind.wrap_i64];omega
theorem a3y (v:PV) (hs:adm v) (h6:aa3 v≠6) (h8:aa3 v≠8):F284 0 v=some (asn v):=by
 obtain ⟨_,ht,hb0,hb1⟩:=hs
 obtain ⟨u,hu⟩:∃ u:Nat,abx v=(u:Int):=⟨(abx v).toNat,(Int.toNat_of_nonneg hb0).symm⟩
 have hu64:u<18446744073709551616:=by omega
 have hi:=wrapI u hu64
 have e0:(v.fld 0).asInt=aa3 v:=rfl
 have e1:(v.fld 1).asInt=abx v:=rfl
 have e2:(v.fld 2).asStr=acm v:=rfl
 have k6:(aa3 v==(6:Int))=false:=beqI h6
 have k8:(aa3 v==(8:Int))=false:=beqI h8
 have hf0:at2 0 (u:Int) (10:Int)=some (decB u):=by
  unfold at2
  rw [decide_eq_true (by omega),decide_eq_true (by omega)]
  simp
 have hf:Lfmt 0 (u:Int) (10:Int)=some (decB u):=hf0
 unfold F284 asn
 simp only [e0,e1,e2,akd _ _ ⟨by assumption,ht,hb0,hb1⟩,Option.bind_some,k6,k8,cond_false,aod _ ht,hu,a0l _ hi.1 hi.2,F310,hf,Int.toNat_natCast,F307,F319]
 generalize anx (IntKind.wrap .i64 (u:Int))=x1
 generalize aoc (acm v)=x2
 generalize decB u=x3
 generalize adg (aa3 v) v=q0
 generalize (aa3 v==(1:Int))=q1
 generalize (aa3 v==(2:Int))=q2
 generalize (aa3 v==(3:Int))=q3
 generalize (aa3 v==(7:Int))=q7
 generalize ((u:Int)==(1:Int))=q
 cases q0<;>cases q1<;>cases q2<;>cases q3<;>cases q7<;>cases q<;>rfl
theorem ayv (v:PV) (hs:(acm v).length<=1048576):(asn v).length<=4194400:=by
 have h1:=ags (acm v)
 have h2:=anh (abx v).toNat
 have h3:=axg (IntKind.wrap .i64 (abx v))
 unfold asn
 cases adg (aa3 v) v<;>cases (aa3 v==(1:Int))<;>cases (aa3 v==(2:Int))<;>cases (aa3 v==(3:Int))<;>cases (aa3 v==(7:Int))<;>cases (abx v==(1:Int))<;>simp only [cond_true,cond_false,List.length_cons,List.length_nil]<;>omega
end Go.Ab
