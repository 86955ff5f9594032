/- Quoting: the program's and the specification's are the same. -/
import Derived.Test.YtodichgnoiaanaaGreatPUtfT
import Derived.Test.YtodichgnoiaanaaGreatAbUtf
set_option linter.unusedVariables false
set_option linter.unusedSimpArgs false
set_option linter.unnecessarySimpa false
namespace Go.Ab
open Go
set_option maxRecDepth 100000
theorem nbeq (a b:Nat):((a:Int)==(b:Int))=decide (a=b):=by
 by_cases h:a=b
 ·simp [h]
 ·simp [h];omega
theorem aho {n:Nat} (h:n<=4611686018427387904):decide (n<=aad)=true:=decide_eq_true h
theorem a3i:((List.range 256).all fun b=>F155 0 (b:Int)==some (hex2 b))=true:=by kernel_rfl
theorem a0m {b:Nat} (h:b<256):F155 0 (b:Int)=some (hex2 b):=by
 have:=List.all_eq_true.1 a3i b (List.mem_range.2 h)
 simpa using this
theorem adl (s:List UInt8):(ak1 s).length<=4*s.length+2:=by
 have:=ajd s s.length 0 (by omega)
 simp [ak1];omega
theorem ap4 (s:List UInt8) (hs:s.length<=9223372036854775000) (i:Nat) (acc:List UInt8) (hi:i<s.length) (hb:acc.length<=4611686018427380000):
 S123_4step 0 (s,acc,(i:Int))=some (.inl (s,acc++aoj s i,((i+adr s i:Nat):Int))):=by
 have hz:=am0 s i hi
 have hbb:((s.getD i 0).toNat:Int)=(byteAt s i:Int):=rfl
 have hr:aaa (i:Int) s.length=true:=by rw [aab,decide_eq_true hi]
 have k34:((byteAt s i:Int)==(34:Int))=decide (byteAt s i=34):=nbeq _ 34
 have k92:((byteAt s i:Int)==(92:Int))=decide (byteAt s i=92):=nbeq _ 92
 have k10:((byteAt s i:Int)==(10:Int))=decide (byteAt s i=10):=nbeq _ 10
 have k9:((byteAt s i:Int)==(9:Int))=decide (byteAt s i=9):=nbeq _ 9
 have k13:((byteAt s i:Int)==(13:Int))=decide (byteAt s i=13):=nbeq _ 13
 have k127:((byteAt s i:Int)==(127:Int))=decide (byteAt s i=127):=nbeq _ 127
 have k32:decide ((byteAt s i:Int)<(32:Int))=decide (byteAt s i<32):=aat _ 32
 have k0:((sizeAt s i:Int)==(0:Int))=decide (sizeAt s i=0):=nbeq _ 0
 have w1:IntKind.wrap .i64 ((i:Int)+(1:Int))=((i+1:Nat):Int):=asv (by omega)
 have w2:IntKind.wrap .i64 ((i:Int)+(sizeAt s i:Int))=((i+sizeAt s i:Nat):Int):=wadd (by omega)
 have hsl:decide ((0:Int)<=(i:Int)/\(i:Int)<=((i+sizeAt s i:Nat):Int)/\((i+sizeAt s i:Nat):Int)<=(s.length:Int))=true:=decide_eq_true (by omega)
 have htk:(s.take (i+sizeAt s i)).drop i=(s.drop i).take (sizeAt s i):=by rw [List.drop_take];congr 1;omega
 have hst:(bif decide (sizeAt s i=0) then ((i+1:Nat):Int) else ((i+sizeAt s i:Nat):Int))=((i+adr s i:Nat):Int):=by
  unfold adr
  by_cases h:sizeAt s i=0
  ·simp [h]
  ·simp [h]
 have hfin:∀ t:List UInt8,(bif decide (sizeAt s i=0) then some (Sum.inl (s,t,((i+1:Nat):Int))) else some (Sum.inl (s,t,((i+sizeAt s i:Nat):Int))))=(some (.inl (s,t,((i+adr s i:Nat):Int))):Option (((List UInt8)×(List UInt8)×Int)⊕(((List UInt8))))):=by
  intro t
  rw [<-hst]
  cases decide (sizeAt s i=0)<;>rfl
 simp only [S123_4step,S123_4,aat,hi,decide_true,cond_true,a1c s i hi hs,Option.bind_some,hr,hbb,k34,k92,k10,k9,k13,k127,k32,k0,w1,w2,hsl,Int.toNat_natCast,htk,a0m (ayr s i)]
 unfold aoj
 have l2:∀ a b:UInt8,decide (acc.length+[a,b].length<=aad)=true:=fun a b=>aho (by simp;omega)
 have l4:∀ a b c d:UInt8,decide ((acc++[a,b]).length+[c,d].length<=aad)=true:=fun a b c d=>aho (by simp;omega)
 have ls:decide (acc.length+((s.drop i).take (sizeAt s i)).length<=aad)=true:=aho (by simp;omega)
 have l5:decide (acc.length+2+2<=aad)=true:=aho (by omega)
 simp only [l2,ls,hex2,l4,cond_true,hfin]
 by_cases c1:byteAt s i=34
 ·simp [c1]
 by_cases c2:byteAt s i=92
 ·simp [c2]
 by_cases c3:byteAt s i=10
 ·simp [c3]
 by_cases c4:byteAt s i=9
 ·simp [c4]
 by_cases c5:byteAt s i=13
 ·simp [c5]
 simp only [c1,c2,c3,c4,c5,decide_false,cond_false,if_false]
 by_cases c6:byteAt s i<32
 ·simp [c6,l5]
 ·by_cases c7:byteAt s i=127
  ·simp [c7,l5]
  ·by_cases c8:sizeAt s i=0
   ·simp [c6,c7,c8,l5]
   ·simp [c6,c7,c8]
theorem ap3 (s:List UInt8) (hs:s.length<=1048576):∀ (m i:Nat) (acc:List UInt8),s.length-i<=m->i<=s.length->acc.length+4*(s.length-i)<=140737488355328->
 aay (S123_4step 0) (s,acc,(i:Int))=some (acc++ac9 s i):=by
 intro m
 induction m with
 | zero=>
  intro i acc hm hi hb
  have hlt:¬i<s.length:=by omega
  rw [ac9,if_neg hlt]
  refine aah ?_
  simp only [S123_4step,S123_4,aat,hlt,decide_false,cond_false,List.append_nil]
 | succ m ih=>
  intro i acc hm hi hb
  by_cases hlt:i<s.length
  ·have hp:=aru s i hlt
   have hl:=aoq s i hlt
   have hl1:=aik s i
   rw [ac9,if_pos hlt,<-List.append_assoc,<-ih (i+adr s i) (acc++aoj s i) (by omega) (by omega) (by rw [List.length_append];omega)]
   exact aa0 (ap4 s (by omega) i acc hlt (by omega))
  ·rw [ac9,if_neg hlt]
   refine aah ?_
   simp only [S123_4step,S123_4,aat,hlt,decide_false,cond_false,List.append_nil]
theorem aeg (s:List UInt8) (hs:s.length<=1048576):F123 0 s=some (ak1 s):=by
 have hz:=ap3 s hs s.length 0 [34] (by omega) (by omega) (by simp;omega)
 have hq:=ajd s s.length 0 (by omega)
 unfold F123
 rw [aa9,show (0:Int)=((0:Nat):Int) from rfl,hz,Option.bind_some,aho (by simp;omega)]
 simp [ak1]
end Go.Ab
namespace Go.Ab
open Go
theorem bneI {a b:Int} (h:a≠b):(a != b)=true:=by simp [h]
theorem beqI {a b:Int} (h:a≠b):(a==b)=false:=by simp [h]
theorem beqT {a b:Int} (h:a=b):(a==b)=true:=by simp [h]
theorem arx {α:Type} (b:Bool) (x y:α):(bif b then some x else some y)=some (bif b then x else y):=by cases b<;>rfl
def agr:List UInt8:=[100,101,112,114,101,99,97,116,101,100]
def apv:List UInt8:=[115,101,99,114,101,116]
def ags:List UInt8:=[105,100,101,109,112,111,116,101,110,116]
def a5u:List UInt8:=[100,111,99]
def at0:List UInt8:=[97,108,105,97,115]
def at2:List UInt8:=[114,111,117,116,101]
def at1:List UInt8:=[111,119,110,101,114]
def at3:List UInt8:=[115,105,110,99,101]
def at4:List UInt8:=[117,110,116,105,108]
def apu:List UInt8:=[108,101,110,103,116,104]
def amg:List UInt8:=[116,105,109,101,111,117,116]
def a5w:List UInt8:=[109,105,110]
def a5v:List UInt8:=[109,97,120]
def afc:List (List UInt8):=[agr,apv,ags,a5u,at0,at2,at1,at3,at4,apu,amg,a5w,a5v]
noncomputable def aco (name:List UInt8):Int:=(F166 0 name).getD 0
theorem aol (name:List UInt8):F166 0 name=some (aco name):=by
 unfold aco
 simp only [F166,arx,Option.getD_some]
theorem a1m {name:List UInt8} (h:name∉afc):(name==agr)=false/\(name==apv)=false/\(name==ags)=false/\(name==a5u)=false/\(name==at0)=false/\(name==at2)=false/\(name==at1)=false/\
 (name==at3)=false/\(name==at4)=false/\(name==apu)=false/\(name==amg)=false/\(name==a5w)=false/\(name==a5v)=false:=by
 simp only [afc,List.mem_cons,List.not_mem_nil,or_false,not_or] at h
 grind
theorem ank {name:List UInt8} (h:name∉afc):aco name=0:=by
 obtain ⟨h1,h2,h3,h4,h5,h6,h7,h8,h9,h10,h11,h12,h13⟩:=a1m h
 unfold agr at h1
 unfold apv at h2
 unfold ags at h3
 unfold a5u at h4
 unfold at0 at h5
 unfold at2 at h6
 unfold at1 at h7
 unfold at3 at h8
 unfold at4 at h9
 unfold apu at h10
 unfold amg at h11
 unfold a5w at h12
 unfold a5v at h13
 simp only [aco,F166,h1,h2,h3,h4,h5,h6,h7,h8,h9,h10,h11,h12,h13,cond_false,Option.getD_some]
noncomputable def avi (name:List UInt8) (target:Int):Bool:=(F167 0 name target).getD false
theorem axq (name:List UInt8) (target:Int):F167 0 name target=some (avi name target):=by
 unfold avi
 simp only [F167,arx,Option.getD_some]
def aaz (v:PV):Int:=(v.fld 0).asInt
def aca (v:PV):Int:=(v.fld 1).asInt
def acp (v:PV):List UInt8:=(v.fld 2).asStr
def am8 (v:PV):Nat:=(v.fld 3).asList.length+(v.fld 4).asList.length+(v.fld 5).asList.length+(v.fld 6).asList.length
def adu (v:PV):Prop:=am8 v<=1048576/\(acp v).length<=1048576/\0<=aca v/\aca v<18446744073709551616
def avn (k:Int):Bool:=decide (1<=k/\k<=9)
def ajt (k:Int):Bool:=k==7||k==8
def a0q (k bits:Int):Bool:=
 if k=1 then decide (bits<=1) else if k=2 then decide (-2147483648<=IntKind.wrap .i64 bits/\IntKind.wrap .i64 bits<=2147483647) else if k=4 then decide (bits<4294967296) else if k=9 then decide (bits<2147483648) else true
def ado (k:Int) (v:PV):Bool:=
 avn k&&(aaz v==k)&&decide (am8 v=0)&&(if ajt k then (aca v==0)&&decide ((acp v).length<=4096)&&((k==8)||aqh (acp v)) else (acp v==[])&&a0q k (aca v))
theorem a68 (a b c d:List PV):(bif (bif (bif ((a.length:Int)==(0:Int)) then ((b.length:Int)==(0:Int)) else false) then ((c.length:Int)==(0:Int)) else false) then ((d.length:Int)==(0:Int)) else false)=decide (a.length+b.length+c.length+d.length=0):=by
 cases a<;>cases b<;>cases c<;>cases d<;>simp<;>omega
theorem ac2 (k:Int) (v:PV) (hs:adu v):F141 0 k v=some (ado k v):=by
 have hv:F112 0 (acp v)=some (aqh (acp v)):=aie _ (by have:=hs.2.1;omega)
 have e0:(v.fld 0).asInt=aaz v:=rfl
 have e1:(v.fld 1).asInt=aca v:=rfl
 have e2:(v.fld 2).asStr=acp v:=rfl
 have i1:(bif decide (k≥(1:Int)) then decide (k<=(9:Int)) else false)=avn k:=by
  unfold avn
  by_cases h:k≥1<;>simp [h]<;>omega
 have i2:(bif (k==(7:Int)) then true else (k==(8:Int)))=ajt k:=by
  unfold ajt;cases (k==7)<;>rfl
 unfold F141 F162 F163 F164
 simp only [Option.bind_some,a68,i1,i2,e0,e1,e2,hv,gb]
 unfold ado
 have eL:(v.fld 3).asList.length+(v.fld 4).asList.length+(v.fld 5).asList.length+(v.fld 6).asList.length=am8 v:=rfl
 simp only [eL]
 cases h1:avn k
 ·simp
 cases h2:(aaz v==k)
 ·have:(aaz v != k)=true:=by simp [bne,h2]
  simp [this]
 have h2':(aaz v != k)=false:=by simp [bne,h2]
 simp only [h2',Bool.not_true,cond_false,Bool.not_false,Bool.true_and,cond_true]
 cases h3:decide (am8 v=0)
 ·simp
 simp only [Bool.not_true,cond_false,Bool.true_and]
 cases h4:ajt k
 ·simp only [cond_false,Bool.false_eq_true,if_false]
  cases h5:(acp v==[])
  ·simp
  simp only [Bool.not_true,cond_false,Bool.true_and]
  unfold a0q
  by_cases k1:k=1
  ·subst k1;simp
  have k1':(k==1)=false:=by simp [k1]
  simp only [k1',cond_false,if_neg k1]
  by_cases k2:k=2
  ·subst k2
   simp only [beq_self_eq_true,cond_true,if_true,ge_iff_le,Bool.decide_and]
   cases decide (-2147483648<=IntKind.wrap .i64 (aca v))<;>rfl
  have k2':(k==2)=false:=by simp [k2]
  simp only [k2',cond_false,if_neg k2]
  by_cases k4:k=4
  ·subst k4;simp
  have k4':(k==4)=false:=by simp [k4]
  simp only [k4',cond_false,if_neg k4]
  by_cases k9:k=9
  ·subst k9;simp
  have k9':(k==9)=false:=by simp [k9]
  simp only [k9',cond_false,if_neg k9]
 ·simp only [cond_true,if_true]
  have hl:decide (((acp v).length:Int)<=4096)=decide ((acp v).length<=4096):=by simp;omega
  simp only [hl]
  cases (aca v==0)<;>cases decide ((acp v).length<=4096)<;>cases (k==8)<;>simp
def act (n:PV):List UInt8:=(n.fld 0).asStr
def nVal (n:PV):PV:=n.fld 1
noncomputable def aeh (n:PV):Bool:=(aco (act n) != 0)&&ado (aco (act n)) (nVal n)
def acv (n:PV):Prop:=adu (nVal n)/\(act n).length<=1048576
theorem aob {k:Int}{v:PV} (h:(aaz v==k)=false):ado k v=false:=by
 grind [ado]
theorem amq (n:PV) (hs:acv n):F168 0 n=some (aeh n):=by
 unfold F168
 have e:(n.fld 0).asStr=act n:=rfl
 have e1:n.fld 1=nVal n:=rfl
 have e2:((nVal n).fld 0).asInt=aaz (nVal n):=rfl
 simp only [e,e1,e2,aol,Option.bind_some,ac2 _ _ hs.1,gb]
 unfold aeh
 cases h:(aaz (nVal n)==aco (act n))
 ·rw [aob h];cases (aco (act n) != 0)<;>rfl
 ·cases (aco (act n) != 0)<;>rfl
noncomputable def chk1 (n:PV) (t:Int) (last:List UInt8) (ok:Bool):Int:=
 if aco (act n)=0 then 8 else if avi (act n) t=false then 1 else if aeh n=false then 12 else if ok&&Op.bytesLess (act n) last then 11 else if ok&&(act n==last) then 9 else 0
noncomputable def chkL (t:Int):List PV->List UInt8->Bool->Int
 | [],_,_=>0
 | n::r,last,ok=>if chk1 n t last ok=0 then chkL t r (act n) true else chk1 n t last ok
noncomputable def aip (l:List PV) (t:Int):Int:=if l.length>8 then 3 else chkL t l [] false
theorem ap0 (l:List PV) (t:Int) (hl:l.length<=1048576) (hs:∀ n,n∈l->acv n):∀ (m i:Nat) (last:List UInt8),l.length-i<=m->i<=l.length->(0<i->last=act (l.getD (i-1) .bad))->
 aay (S143_5step 0) (l,t,(i:Int))=some (bif decide (chkL t (l.drop i) last (decide (0<i))=0) then .inr () else .inl (chkL t (l.drop i) last (decide (0<i)))):=by
 intro m
 induction m with
 | zero=>
  intro i last hm hi _
  have hlt:¬i<l.length:=by omega
  rw [List.drop_eq_nil_of_le (by omega)]
  exact aah (by simp only [S143_5step,S143_5,aat,hlt,decide_false,cond_false];rfl)
 | succ m ih=>
  intro i last hm hi hlast
  by_cases hlt:i<l.length
  ·rw [aea hlt .bad,chkL]
   have hmem:l.getD i .bad∈l:=by rw [aav hlt];exact List.getElem_mem _
   have hg:decide ((i:Int)>0)=decide (0<i):=by rw [decide_eq_decide];omega
   have hr:=amq (l.getD i .bad) (hs _ hmem)
   have en:((l.getD i .bad).fld 0).asStr=act (l.getD i .bad):=rfl
   have step:S143_5step 0 (l,t,(i:Int))=some (if chk1 (l.getD i .bad) t last (decide (0<i))=0 then .inl (l,t,((i+1:Nat):Int)) else .inr (.inl (chk1 (l.getD i .bad) t last (decide (0<i))))):=by
    simp only [S143_5step,S143_5,aat,aab,hlt,decide_true,cond_true,Int.toNat_natCast,hg,en,aol,axq,hr,Option.bind_some,asv (i:=i) (by omega)]
    unfold chk1
    by_cases k0:aco (act (l.getD i .bad))=0
    ·have:(aco (act (l.getD i .bad))==(0:Int))=true:=beqT k0
     rw [this,cond_true,if_pos k0];rfl
    ·have:(aco (act (l.getD i .bad))==(0:Int))=false:=beqI k0
     rw [this,cond_false,if_neg k0]
     cases avi (act (l.getD i .bad)) t
     ·rfl
     ·simp only [Bool.not_true,cond_false,Bool.true_eq_false,if_false]
      cases aeh (l.getD i .bad)
      ·rfl
      ·simp only [Bool.not_true,cond_false,Bool.true_eq_false,if_false]
       by_cases hp:0<i
       ·have w:IntKind.wrap .i64 ((i:Int)-(1:Int))=((i-1:Nat):Int):=by
         rw [show (i:Int)-1=((i-1:Nat):Int) by omega]
         exact ac7 (by omega)
        have hlt':i-1<l.length:=by omega
        have el:act (l.getD (i-1) .bad)=last:=(hlast hp).symm
        have el2:((l.getD (i-1) .bad).fld 0).asStr=last:=el
        simp only [hp,decide_true,imp,cond_true,w,aab,hlt',Int.toNat_natCast,el2,Bool.true_and]
        cases Op.bytesLess (act (l.getD i .bad)) last<;>cases (act (l.getD i .bad)==last)<;>rfl
       ·simp only [hp,decide_false,imp,cond_false,Bool.not_false,cond_true,aiq,Bool.false_and,Bool.false_eq_true,if_false,if_true]
   by_cases h0:chk1 (l.getD i .bad) t last (decide (0<i))=0
   ·rw [if_pos h0] at step ⊢
    rw [aa0 step,ih (i+1) (act (l.getD i .bad)) (by omega) (by omega) (fun _=>rfl),decide_eq_true (show 0<i+1 by omega)]
   ·rw [if_neg h0] at step ⊢
    rw [decide_eq_false h0]
    exact aah step
  ·rw [List.drop_eq_nil_of_le (by omega)]
   exact aah (by simp only [S143_5step,S143_5,aat,hlt,decide_false,cond_false];rfl)
theorem ac1 (l:List PV) (t:Int) (hl:l.length<=1048576) (hs:∀ n,n∈l->acv n):F143 0 l t=some (aip l t):=by
 have h:=ap0 l t hl hs l.length 0 [] (by omega) (by omega) (fun h=>by omega)
 unfold F143 aip
 have hg:decide ((l.length:Int)>8)=decide (l.length>8):=by rw [decide_eq_decide];omega
 rw [hg,aa9,show (0:Int)=((0:Nat):Int) from rfl,h]
 by_cases h8:l.length>8
 ·simp [h8]
 ·simp only [h8,decide_false,cond_false,if_false,List.drop_zero,Nat.lt_irrefl]
  by_cases h0:chkL t l [] false=0
  ·rw [h0];rfl
  ·rw [decide_eq_false h0];rfl
end Go.Ab
namespace Go.Ab
open Go
set_option maxRecDepth 100000
theorem dig (d:Nat) (h:d<10):[PV.int (IntKind.wrap .u8 (IntKind.wrap .u64 ((48:Int)+(d:Int))))].map acl=[UInt8.ofNat (48+d)]:=by
 have:IntKind.wrap .u8 (IntKind.wrap .u64 ((48:Int)+(d:Int)))=((48+d:Nat):Int):=by
  rw [IntKind.wrap_u64,IntKind.wrap_u8];omega
 rw [this]
 rfl
def preD (u:Nat):List UInt8:=if u<10 then [] else Lib.decDigits (u / 10)
theorem a0o (u:Nat):preD u++[UInt8.ofNat (48+u%10)]=Lib.decDigits u:=by
 have e:=Lib.decDigits.eq_1 u
 unfold preD
 rw [e]
 by_cases h:u<10
 ·rw [if_pos h,dif_pos h,Nat.mod_eq_of_lt h];rfl
 ·rw [if_neg h,dif_neg h]
theorem aqx:∀ (k u:Nat) (acc:List UInt8),u<10^(k+1)->u<18446744073709551616->acc.length+k<=1000->aay (S180_3step 0) ((u:Int),acc)=some (preD u++acc):=by
 intro k
 induction k with
 | zero=>
  intro u acc hu _ _
  have hd:decide ((u:Int)≥(10:Int))=false:=decide_eq_false (by omega)
  rw [preD,if_pos (by omega)]
  exact aah (by simp only [S180_3step,S180_3,hd,cond_false];rfl)
 | succ k ih=>
  intro u acc hu h64 hb
  by_cases h:u<10
  ·have hd:decide ((u:Int)≥(10:Int))=false:=decide_eq_false (by omega)
   rw [preD,if_pos h]
   exact aah (by simp only [S180_3step,S180_3,hd,cond_false];rfl)
  ·have hd:decide ((u:Int)≥(10:Int))=true:=decide_eq_true (by omega)
   have hw:IntKind.wrap .u64 ((u:Int).tdiv (10:Int))=((u / 10:Nat):Int):=by
    rw [show (u:Int).tdiv (10:Int)=((u / 10:Nat):Int) from rfl,IntKind.wrap_u64];omega
   have hm:((u / 10:Nat):Int).tmod (10:Int)=((u / 10%10:Nat):Int):=rfl
   have hp:preD u++acc=preD (u / 10)++(UInt8.ofNat (48+u / 10%10)::acc):=by
    have:=a0o (u / 10)
    rw [show preD u=Lib.decDigits (u / 10) by rw [preD,if_neg h],<-this,List.append_assoc];rfl
   rw [hp,<-ih (u / 10) (UInt8.ofNat (48+u / 10%10)::acc) (by rw [Nat.pow_succ] at hu;omega) (by omega) (by simp;omega)]
   refine aa0 ?_
   have hl:decide ([UInt8.ofNat (48+u / 10%10)].length+acc.length<=aad)=true:=aho (by simp;omega)
   simp only [S180_3step,S180_3,hd,hw,hm,dig _ (Nat.mod_lt _ (by decide:0<10)),hl,cond_true]
   rfl
theorem aoa (u:Nat) (hu:u<18446744073709551616):F180 0 (u:Int)=some (decB u):=by
 unfold F180
 have hm:((u:Nat):Int).tmod (10:Int)=((u%10:Nat):Int):=rfl
 rw [hm,dig _ (Nat.mod_lt _ (by decide:0<10)),aa9,aqx 19 u _ (by omega) hu (by simp),a0o,a4x (by omega)]
 rfl
theorem a2f:∀ (f u:Nat),(decF f u).length<=f:=by
 intro f
 induction f with
 | zero=>intro u;simp [decF]
 | succ f ih=>
  intro u
  unfold decF
  cases Nat.ble u 9 with
  | true=>simp
  | false=>have:=ih (u / 10);simp;omega
theorem air (u:Nat):(decB u).length<=20:=a2f 20 u
theorem azs (n:Int):(atn n).length<=21:=by
 unfold atn
 have h1:=air n.natAbs
 have h2:=air n.toNat
 cases decide (n<0) with
 | true=>simp;omega
 | false=>simp;omega
def am6 (v:PV):List UInt8:=
 bif ado (aaz v) v then
  (bif aaz v==1 then (bif aca v==1 then [116,114,117,101] else [102,97,108,115,101])
  else bif aaz v==2 then atn (IntKind.wrap .i64 (aca v)) else bif aaz v==3 then atn (IntKind.wrap .i64 (aca v)) else bif aaz v==7 then ak1 (acp v) else decB (aca v).toNat)
 else []
theorem aom (v:PV) (hs:adu v) (h6:aaz v≠6) (h8:aaz v≠8):F177 0 v=some (am6 v):=by
 obtain ⟨_,ht,hb0,hb1⟩:=hs
 obtain ⟨u,hu⟩:∃ u:Nat,aca v=(u:Int):=⟨(aca v).toNat,(Int.toNat_of_nonneg hb0).symm⟩
 have hu64:u<18446744073709551616:=by omega
 have e0:(v.fld 0).asInt=aaz v:=rfl
 have e1:(v.fld 1).asInt=aca v:=rfl
 have e2:(v.fld 2).asStr=acp v:=rfl
 have k6:(aaz v==(6:Int))=false:=beqI h6
 have k8:(aaz v==(8:Int))=false:=beqI h8
 have hsg:(bif decide ((u:Int)≥(9223372036854775808:Int)) then (F180 0 (IntKind.wrap .u64 (0-(u:Int)))).bind fun y13=>bif decide (([45]:List UInt8).length+y13.length<=aad) then some (([45]:List UInt8)++y13) else none
  else some (decB u))=some (atn (IntKind.wrap .i64 (u:Int))):=by
  unfold atn
  by_cases h:u<9223372036854775808
  ·have d1:decide ((u:Int)≥(9223372036854775808:Int))=false:=decide_eq_false (by omega)
   have d2:IntKind.wrap .i64 (u:Int)=(u:Int):=by rw [IntKind.wrap_i64];omega
   have d3:decide ((u:Int)<0)=false:=decide_eq_false (by omega)
   simp only [d1,d2,d3,cond_false,Int.toNat_natCast]
  ·have hw:IntKind.wrap .u64 (0-(u:Int))=((18446744073709551616-u:Nat):Int):=by rw [IntKind.wrap_u64];omega
   have hl:=air (18446744073709551616-u)
   have d1:decide ((u:Int)≥(9223372036854775808:Int))=true:=decide_eq_true (by omega)
   have d2:IntKind.wrap .i64 (u:Int)=(u:Int)-18446744073709551616:=by rw [IntKind.wrap_i64];omega
   have d3:decide ((u:Int)-18446744073709551616<0)=true:=decide_eq_true (by omega)
   have d4:((u:Int)-18446744073709551616).natAbs=18446744073709551616-u:=by omega
   have d5:=aoa (18446744073709551616-u) (by omega)
   simp only [d1,d2,d3,d4,hw,d5,cond_true,Option.bind_some]
   generalize decB (18446744073709551616-u)=x at hl
   rw [aho (by simp;omega)]
   rfl
 unfold F177 am6
 simp only [e0,e1,e2,ac2 _ _ ⟨by assumption,ht,hb0,hb1⟩,Option.bind_some,k6,k8,cond_false,aeg _ ht,hu,hsg,aoa u hu64,Int.toNat_natCast]
 generalize atn (IntKind.wrap .i64 (u:Int))=x1
 generalize ak1 (acp v)=x2
 generalize decB u=x3
 generalize ado (aaz v) v=q0
 generalize (aaz v==(1:Int))=q1
 generalize (aaz v==(2:Int))=q2
 generalize (aaz v==(3:Int))=q3
 generalize (aaz v==(7:Int))=q7
 generalize ((u:Int)==(1:Int))=q
 cases q0<;>cases q1<;>cases q2<;>cases q3<;>cases q7<;>cases q<;>rfl
theorem am7 (v:PV) (hs:(acp v).length<=1048576):(am6 v).length<=4194400:=by
 have h1:=adl (acp v)
 have h2:=air (aca v).toNat
 have h3:=azs (IntKind.wrap .i64 (aca v))
 unfold am6
 cases ado (aaz v) v<;>cases (aaz v==(1:Int))<;>cases (aaz v==(2:Int))<;>cases (aaz v==(3:Int))<;>cases (aaz v==(7:Int))<;>cases (aca v==(1:Int))<;>simp only [cond_true,cond_false,List.length_cons,List.length_nil]<;>omega
end Go.Ab
