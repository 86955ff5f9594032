/- Names: parts, full names, keywords; loops that look for the first. -/
import Derived.Test.YtjogoleiodbfdaaGreatAbSpl
import Derived.Test.YtjogoleiodbfdaaGreatAbPlain
import Derived.Test.YtjogoleiodbfdaaGreatPUtfT
import Derived.Test.YtjogoleiodbfdaaGreatAbUtf
set_option linter.unusedVariables false
set_option linter.unusedSimpArgs false
set_option linter.unnecessarySimpa false
namespace Go.Ab
open Go
theorem au4 {α:Type} (f:α->Bool) (d:α):∀ (xs pre:List α),allF (fun i=>f ((pre++xs).getD i d)) pre.length xs.length=xs.all f:=by
 intro xs
 induction xs with
 | nil=>intro pre;rfl
 | cons x r ih=>
  intro pre
  simp only [List.length_cons,allF,List.all_cons]
  have e1:(pre++x::r).getD pre.length d=x:=by simp [List.getD]
  rw [e1]
  have:=ih (pre++[x])
  rw [show pre++x::r=pre++[x]++r by simp,<-this]
  simp
def lowB (b:Nat):Bool:=decide (97<=b/\b<=122)
def capB (b:Nat):Bool:=decide (65<=b/\b<=90)
def digB (b:Nat):Bool:=decide (48<=b/\b<=57)
def letB (b:UInt8):Bool:=lowB b.toNat||capB b.toNat
def alnB (b:UInt8):Bool:=lowB b.toNat||capB b.toNat||digB b.toNat||decide (b.toNat=95)
def ahh (s:List UInt8):Bool:=
 match s with
 | []=>false
 | c::r=>decide (r.length+1<=40)&&letB c&&r.all alnB
def aqq (s:List UInt8):Bool:=decide (s.length<=120)&&(abf 46 s).all ahh
theorem aur (c:UInt8) (b:List UInt8):∀ a,abf c (a++c::b)=abf c a++abf c b:=by
 intro a
 induction a with
 | nil=>simp [abf]
 | cons x a ih=>
  simp only [List.cons_append,abf]
  cases h:(x==c) with
  | true=>simp only [cond_true,ih,List.cons_append]
  | false=>
   simp only [cond_false,ih]
   have:=aij c a
   cases hs:abf c a with
   | nil=>exact absurd hs this
   | cons y q=>simp
theorem apx (c:UInt8):∀ b,c∉b->abf c b=[b]:=by
 intro b
 induction b with
 | nil=>intro _;rfl
 | cons x b ih=>
  intro h
  simp only [List.mem_cons,not_or] at h
  have hx:(x==c)=false:=by rw [beq_eq_false_iff_ne];exact fun e=>h.1 e.symm
  simp only [abf,hx,cond_false,ih h.2]
def aox:List UInt8->List UInt8->Bool
 | part,[]=>ahh part
 | part,b::r=>bif b==46 then ahh part&&aox [] r else aox (part++[b]) r
def glue (part:List UInt8):List (List UInt8)->List (List UInt8)
 | []=>[part]
 | x::q=>(part++x)::q
theorem ax4:∀ (r part:List UInt8),aox part r=(glue part (abf 46 r)).all ahh:=by
 intro r
 induction r with
 | nil=>intro part;simp [aox,abf,glue]
 | cons b r ih=>
  intro part
  simp only [aox,abf]
  cases h:(b==46) with
  | true=>
   simp only [cond_true,glue,List.append_nil,List.all_cons,ih]
   have:=aij 46 r
   cases hs:abf 46 r with
   | nil=>exact absurd hs this
   | cons x q=>simp [glue]
  | false=>
   simp only [cond_false,ih]
   have:=aij 46 r
   cases hs:abf 46 r with
   | nil=>exact absurd hs this
   | cons x q=>simp [glue]
theorem avu (r:List UInt8):aox [] r=(abf 46 r).all ahh:=by
 rw [ax4]
 have:=aij 46 r
 cases hs:abf 46 r with
 | nil=>exact absurd hs this
 | cons x q=>simp [glue]
end Go.Ab
namespace Go.Ab
open Go
set_option maxRecDepth 100000
theorem axm {i:Nat} (h:i<=9223372036854775000):IntKind.wrap .i64 ((i:Int)+1)=((i+1:Nat):Int):=auv (by omega)
theorem geI (a b:Nat):decide ((a:Int)≥(b:Int))=decide (b<=a):=by grind
theorem leI (a b:Nat):decide ((a:Int)<=(b:Int))=decide (a<=b):=by grind
theorem neB (a b:Nat):((a:Int) != (b:Int))=!decide (a=b):=by
 grind
theorem eqB (a b:Nat):((a:Int)==(b:Int))=decide (a=b):=by
 grind
theorem a0f (b c:UInt8):decide (b.toNat=c.toNat)=(b==c):=by
 grind [UInt8.toNat_inj,decide_eq_false]
theorem atb (b:Nat):F124 0 (b:Int)=some (lowB b):=by
 unfold F124 lowB
 rw [show (97:Int)=((97:Nat):Int) from rfl,show (122:Int)=((122:Nat):Int) from rfl]
 simp only [geI,leI,Bool.decide_and]
 cases decide (97<=b)<;>rfl
theorem amb (b:Nat):F125 0 (b:Int)=some (capB b):=by
 unfold F125 capB
 rw [show (65:Int)=((65:Nat):Int) from rfl,show (90:Int)=((90:Nat):Int) from rfl]
 simp only [geI,leI,Bool.decide_and]
 cases decide (65<=b)<;>rfl
theorem apm (s:List UInt8) (hs:s.length<=9223372036854770000):∀ k i,i+k=s.length->abo (S106_5step 0) (s,(i:Int))=some (bif allF (fun i=>alnB (s.getD i 0)) i k then .inr () else .inl false):=
 ahz (fun i=>(s,(i:Int))) s.length (fun i=>alnB (s.getD i 0)) (Sum.inl false:Bool⊕Unit) (Sum.inr ()) (fun i hi=>by
  have h1:=atb (s.getD i 0).toNat
  have h2:=amb (s.getD i 0).toNat
  have h3:(((s.getD i 0).toNat:Int) != (95:Int))=!decide ((s.getD i 0).toNat=95):=neB _ 95
  have h4:decide (((s.getD i 0).toNat:Int)<(48:Int))=!decide (48<=(s.getD i 0).toNat):=by
   rw [<-decide_not,decide_eq_decide];omega
  have h5:decide (((s.getD i 0).toNat:Int)>(57:Int))=!decide ((s.getD i 0).toNat<=57):=by
   rw [<-decide_not,decide_eq_decide];omega
  simp only [S106_5step,S106_5,awm,aaa,hi,decide_true,Int.toNat_natCast,h1,h2,h3,h4,h5,Option.bind_some,axm (i:=i) (by omega),cond_true]
  unfold alnB digB
  rw [Bool.decide_and]
  cases lowB (s.getD i 0).toNat<;>cases capB (s.getD i 0).toNat<;>cases decide ((s.getD i 0).toNat=95)<;>cases decide (48<=(s.getD i 0).toNat)<;>cases decide ((s.getD i 0).toNat<=57)<;>rfl) (by
  simp only [S106_5step,S106_5,awm,Nat.lt_irrefl,decide_false,cond_false])
theorem agp (s:List UInt8) (hs:s.length<=9223372036854770000):F106 0 s=some (ahh s):=by
 unfold F106
 cases s with
 | nil=>rfl
 | cons c r=>
  have hl:=apm (c::r) hs r.length 1 (by simp [Nat.add_comm])
  rw [show ((1:Nat):Int)=(1:Int) from rfl] at hl
  have ha:allF (fun i=>alnB ((c::r).getD i 0)) 1 r.length=r.all alnB:=au4 alnB 0 r [c]
  rw [ha] at hl
  have e0:(((c::r).length:Int)==(0:Int))=false:=Eq.trans (eqB (c::r).length 0) (by simp)
  have e1:decide (((c::r).length:Int)>(40:Int))=!decide (r.length+1<=40):=by
   rw [<-decide_not,decide_eq_decide];simp only [List.length_cons];omega
  have e2:aab (0:Int) (c::r).length=true:=by rw [show (0:Int)=((0:Nat):Int) from rfl,aaa];simp
  have h1:=atb c.toNat
  have h2:=amb c.toNat
  have e3:((((c::r).getD (0:Int).toNat 0).toNat:Nat):Int)=(c.toNat:Int):=rfl
  rw [ahh,letB]
  simp only [e0,e1,e2,e3,h1,h2,cond_false,afv,hl]
  cases decide (r.length+1<=40)<;>cases lowB c.toNat<;>cases capB c.toNat<;>cases r.all alnB<;>rfl
theorem apl (s:List UInt8) (hs:s.length<=1048576):∀ (m i:Nat) (part:List UInt8),s.length-i<=m->i<=s.length->part.length<=i->
 ∃ y,abo (S103_6step 0) (s,part,(i:Int))=some y/\sumE (fun b=>some b) (fun p=>some (ahh p)) y=some (aox part (s.drop i))/\∀ p,y=.inr p->p.length<=s.length:=by
 intro m
 induction m with
 | zero=>
  intro i part hm hi hp
  have hlt:¬i<s.length:=by omega
  rw [List.drop_eq_nil_of_le (by omega)]
  exact ⟨.inr part,aaf (by simp only [S103_6step,S103_6,ade,hlt,decide_false,cond_false]),rfl,fun p h=>by cases h;omega⟩
 | succ m ih=>
  intro i part hm hi hp
  by_cases hlt:i<s.length
  ·rw [adq hlt 0,aox]
   have hn:(((s.getD i 0).toNat:Int) != (46:Int))=!(s.getD i 0==46):=by
    exact (neB (s.getD i 0).toNat 46).trans (congrArg (!·) (a0f (s.getD i 0) 46))
   cases hb:(s.getD i 0==46) with
   | false=>
    obtain ⟨y,h1,h2,h3⟩:=ih (i+1) (part++[s.getD i 0]) (by omega) (by omega) (by simp;omega)
    refine ⟨y,?_,h2,h3⟩
    rw [<-h1]
    refine aaz ?_
    have hsl:decide ((0:Int)<=(i:Int)/\(i:Int)<=((i+1:Nat):Int)/\((i+1:Nat):Int)<=(s.length:Int))=true:=decide_eq_true (by omega)
    have htk:(s.take (i+1)).drop i=[s.getD i 0]:=by
     rw [List.drop_take,show i+1-i=1 by omega,adq hlt 0];rfl
    have hst:decide (part.length+[s.getD i 0].length<=amq)=true:=decide_eq_true (by unfold amq;simp;omega)
    rw [hb] at hn
    simp only [S103_6step,S103_6,ade,hlt,decide_true,cond_true,aaa,Int.toNat_natCast,hn,Bool.not_false,axm (i:=i) (by omega),hsl,htk,hst]
   | true=>
    rw [hb] at hn
    simp only [cond_true]
    cases hpp:ahh part with
    | false=>
     refine ⟨.inl false,aaf ?_,rfl,fun p h=>by cases h⟩
     simp only [S103_6step,S103_6,ade,hlt,decide_true,cond_true,aaa,Int.toNat_natCast,hn,Bool.not_true,cond_false,agp part (by omega),hpp,Option.bind_some,Bool.not_false]
    | true=>
     obtain ⟨y,h1,h2,h3⟩:=ih (i+1) [] (by omega) (by omega) (by simp)
     refine ⟨y,?_,by rw [Bool.true_and];exact h2,h3⟩
     rw [<-h1]
     refine aaz ?_
     simp only [S103_6step,S103_6,ade,hlt,decide_true,cond_true,aaa,Int.toNat_natCast,hn,Bool.not_true,cond_false,agp part (by omega),hpp,Option.bind_some,axm (i:=i) (by omega)]
  ·rw [List.drop_eq_nil_of_le (by omega)]
   exact ⟨.inr part,aaf (by simp only [S103_6step,S103_6,ade,hlt,decide_false,cond_false]),rfl,fun p h=>by cases h;omega⟩
theorem auj (s:List UInt8) (hs:s.length<=1048576):F103 0 s=some (aqq s):=by
 obtain ⟨y,h1,h2,h3⟩:=apl s hs s.length 0 [] (by omega) (by omega) (by simp)
 rw [List.drop_zero,avu] at h2
 unfold F103 aqq
 have e:decide ((s.length:Int)>(120:Int))=!decide (s.length<=120):=by rw [<-decide_not,decide_eq_decide];omega
 rw [afv,show (0:Int)=((0:Nat):Int) from rfl,h1,e,Option.bind_some]
 cases decide (s.length<=120) with
 | false=>rfl
 | true=>
  rw [Bool.true_and,<-h2]
  cases y with
  | inl b=>rfl
  | inr p=>
   simp only [Bool.not_true,cond_false,ae9]
   rw [agp p (by have:=h3 p rfl;omega)];rfl
noncomputable def al0 (s:List UInt8):Bool:=(F105 0 s).getD false
theorem amm (s:List UInt8):F105 0 s=some (al0 s):=by
 unfold al0
 simp only [F105,axy,Option.getD_some]
noncomputable def ayq (s:List UInt8):Bool:=ahh s&&!al0 s
noncomputable def defP (s:List UInt8):Bool:=aqq s&&(abf 46 s).all fun x=>!al0 x
theorem an0 (s:List UInt8) (hs:s.length<=1048576):∀ (k:Nat),k<=s.length->(46:UInt8)∉s.drop k->
 ∃ y,abo (S104_3step 0) (s,(k:Int)-1)=some y/\((∃ up last,y=.inl (up,last)/\s=up++46::last/\(46:UInt8)∉last)∨(y=.inr s/\(46:UInt8)∉s)):=by
 intro k
 induction k with
 | zero=>
  intro _ hn
  refine ⟨.inr s,aaf ?_,Or.inr ⟨rfl,by simpa using hn⟩⟩
  have:decide (((0:Nat):Int)-1≥(0:Int))=false:=decide_eq_false (by omega)
  simp only [S104_3step,S104_3,this,cond_false]
 | succ k ih=>
  intro hk hn
  have e:((k+1:Nat):Int)-1=(k:Int):=by omega
  have hlt:k<s.length:=by omega
  have hge:decide ((k:Int)≥(0:Int))=true:=decide_eq_true (by omega)
  have hq:(((s.getD k 0).toNat:Int)==(46:Int))=(s.getD k 0==46):=by
   exact (eqB (s.getD k 0).toNat 46).trans (a0f (s.getD k 0) 46)
  rw [e]
  cases hb:(s.getD k 0==46) with
  | true=>
   have hb':s.getD k 0=46:=by simpa using hb
   have hs1:decide ((0:Int)<=(0:Int)/\(0:Int)<=(k:Int)/\(k:Int)<=(s.length:Int))=true:=decide_eq_true (by omega)
   have hs2:decide ((0:Int)<=((k+1:Nat):Int)/\((k+1:Nat):Int)<=(s.length:Int)/\(s.length:Int)<=(s.length:Int))=true:=decide_eq_true (by omega)
   refine ⟨.inl (s.take k,s.drop (k+1)),aaf ?_,Or.inl ⟨_,_,rfl,?_,hn⟩⟩
   ·rw [hb] at hq
    simp only [S104_3step,S104_3,hge,cond_true,aaa,hlt,decide_true,Int.toNat_natCast,hq,hs1,axm (i:=k) (by omega),hs2,List.take_length]
    rfl
   ·rw [<-hb',<-adq hlt 0,List.take_append_drop]
  | false=>
   have hb':s.getD k 0≠46:=by simpa using hb
   obtain ⟨y,h1,h2⟩:=ih (by omega) (by rw [adq hlt 0];simp only [List.mem_cons,not_or];exact ⟨fun e=>hb' e.symm,hn⟩)
   refine ⟨y,?_,h2⟩
   rw [<-h1]
   refine aaz ?_
   rw [hb] at hq
   have hw:IntKind.wrap .i64 ((k:Int)-(1:Int))=(k:Int)-1:=axo (by omega) (by omega)
   simp only [S104_3step,S104_3,hge,cond_true,aaa,hlt,decide_true,Int.toNat_natCast,hq,cond_false,hw]
theorem arj (s:List UInt8) (hs:s.length<=1048576):∃ up last,F104 0 s=some (up,last)/\((s=up++46::last/\(46:UInt8)∉last)∨(up=[]/\last=s/\(46:UInt8)∉s)):=by
 obtain ⟨y,h1,h2⟩:=an0 s hs s.length (by omega) (by simp)
 unfold F104
 have hw:IntKind.wrap .i64 ((s.length:Int)-(1:Int))=(s.length:Int)-1:=axo (by omega) (by omega)
 rw [afv,hw,h1]
 rcases h2 with ⟨up,last,rfl,h2,h3⟩ | ⟨rfl,h3⟩
 ·exact ⟨up,last,rfl,Or.inl ⟨h2,h3⟩⟩
 ·exact ⟨[],s,rfl,Or.inr ⟨rfl,rfl,h3⟩⟩
theorem ayk {s:List UInt8} (h:ahh s=true):s≠[]:=by
 intro e;subst e;simp [ahh] at h
end Go.Ab
