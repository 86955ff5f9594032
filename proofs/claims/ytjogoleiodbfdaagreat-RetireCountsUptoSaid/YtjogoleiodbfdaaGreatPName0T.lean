/- Names: parts, full names, keywords; loops that look for the first. -/
import Derived.Test.YtjogoleiodbfdaaGreatAbSpl
import Derived.Test.YtjogoleiodbfdaaGreatAbPlain
import Derived.Test.YtjogoleiodbfdaaGreatPUtfT
import Derived.Test.YtjogoleiodbfdaaGreatAbUtf
set_option linter.unusedVariables false
set_option linter.unusedSimpArgs false
set_option linter.unnecessarySimpa false
namespace Go.Ab
open Go
theorem avv {α:Type} (f:α->Bool) (d:α):∀ (xs pre:List α),allF (fun i=>f ((pre++xs).getD i d)) pre.length xs.length=xs.all f:=by
 intro xs
 induction xs with
 | nil=>intro pre;rfl
 | cons x r ih=>
  intro pre
  simp only [List.length_cons,allF,List.all_cons]
  have e1:(pre++x::r).getD pre.length d=x:=by simp [List.getD]
  rw [e1]
  have:=ih (pre++[x])
  rw [show pre++x::r=pre++[x]++r by simp,<-this]
  simp
def lowB (b:Nat):Bool:=decide (97<=b/\b<=122)
def capB (b:Nat):Bool:=decide (65<=b/\b<=90)
def digB (b:Nat):Bool:=decide (48<=b/\b<=57)
def letB (b:UInt8):Bool:=lowB b.toNat||capB b.toNat
def alnB (b:UInt8):Bool:=lowB b.toNat||capB b.toNat||digB b.toNat||decide (b.toNat=95)
def aho (s:List UInt8):Bool:=
 match s with
 | []=>false
 | c::r=>decide (r.length+1<=40)&&letB c&&r.all alnB
def ari (s:List UInt8):Bool:=decide (s.length<=120)&&(abf 46 s).all aho
theorem avj (c:UInt8) (b:List UInt8):∀ a,abf c (a++c::b)=abf c a++abf c b:=by
 intro a
 induction a with
 | nil=>simp [abf]
 | cons x a ih=>
  simp only [List.cons_append,abf]
  cases h:(x==c) with
  | true=>simp only [cond_true,ih,List.cons_append]
  | false=>
   simp only [cond_false,ih]
   have:=air c a
   cases hs:abf c a with
   | nil=>exact absurd hs this
   | cons y q=>simp
theorem aqi (c:UInt8):∀ b,c∉b->abf c b=[b]:=by
 intro b
 induction b with
 | nil=>intro _;rfl
 | cons x b ih=>
  intro h
  simp only [List.mem_cons,not_or] at h
  have hx:(x==c)=false:=by rw [beq_eq_false_iff_ne];exact fun e=>h.1 e.symm
  simp only [abf,hx,cond_false,ih h.2]
def apf:List UInt8->List UInt8->Bool
 | part,[]=>aho part
 | part,b::r=>bif b==46 then aho part&&apf [] r else apf (part++[b]) r
def glue (part:List UInt8):List (List UInt8)->List (List UInt8)
 | []=>[part]
 | x::q=>(part++x)::q
theorem ayt:∀ (r part:List UInt8),apf part r=(glue part (abf 46 r)).all aho:=by
 intro r
 induction r with
 | nil=>intro part;simp [apf,abf,glue]
 | cons b r ih=>
  intro part
  simp only [apf,abf]
  cases h:(b==46) with
  | true=>
   simp only [cond_true,glue,List.append_nil,List.all_cons,ih]
   have:=air 46 r
   cases hs:abf 46 r with
   | nil=>exact absurd hs this
   | cons x q=>simp [glue]
  | false=>
   simp only [cond_false,ih]
   have:=air 46 r
   cases hs:abf 46 r with
   | nil=>exact absurd hs this
   | cons x q=>simp [glue]
theorem awk (r:List UInt8):apf [] r=(abf 46 r).all aho:=by
 rw [ayt]
 have:=air 46 r
 cases hs:abf 46 r with
 | nil=>exact absurd hs this
 | cons x q=>simp [glue]
end Go.Ab
namespace Go.Ab
open Go
set_option maxRecDepth 100000
theorem ayc {i:Nat} (h:i<=9223372036854775000):IntKind.wrap .i64 ((i:Int)+1)=((i+1:Nat):Int):=avn (by omega)
theorem geI (a b:Nat):decide ((a:Int)≥(b:Int))=decide (b<=a):=by grind
theorem leI (a b:Nat):decide ((a:Int)<=(b:Int))=decide (a<=b):=by grind
theorem neB (a b:Nat):((a:Int) != (b:Int))=!decide (a=b):=by
 grind
theorem eqB (a b:Nat):((a:Int)==(b:Int))=decide (a=b):=by
 grind
theorem a1a (b c:UInt8):decide (b.toNat=c.toNat)=(b==c):=by
 grind [UInt8.toNat_inj,decide_eq_false]
theorem at4 (b:Nat):F124 0 (b:Int)=some (lowB b):=by
 unfold F124 lowB
 rw [show (97:Int)=((97:Nat):Int) from rfl,show (122:Int)=((122:Nat):Int) from rfl]
 simp only [geI,leI,Bool.decide_and]
 cases decide (97<=b)<;>rfl
theorem amk (b:Nat):F125 0 (b:Int)=some (capB b):=by
 unfold F125 capB
 rw [show (65:Int)=((65:Nat):Int) from rfl,show (90:Int)=((90:Nat):Int) from rfl]
 simp only [geI,leI,Bool.decide_and]
 cases decide (65<=b)<;>rfl
theorem ap8 (s:List UInt8) (hs:s.length<=9223372036854770000):∀ k i,i+k=s.length->abv (S106_5step 0) (s,(i:Int))=some (bif allF (fun i=>alnB (s.getD i 0)) i k then .inr () else .inl false):=
 ah7 (fun i=>(s,(i:Int))) s.length (fun i=>alnB (s.getD i 0)) (Sum.inl false:Bool⊕Unit) (Sum.inr ()) (fun i hi=>by
  have h1:=at4 (s.getD i 0).toNat
  have h2:=amk (s.getD i 0).toNat
  have h3:(((s.getD i 0).toNat:Int) != (95:Int))=!decide ((s.getD i 0).toNat=95):=neB _ 95
  have h4:decide (((s.getD i 0).toNat:Int)<(48:Int))=!decide (48<=(s.getD i 0).toNat):=by
   rw [<-decide_not,decide_eq_decide];omega
  have h5:decide (((s.getD i 0).toNat:Int)>(57:Int))=!decide ((s.getD i 0).toNat<=57):=by
   rw [<-decide_not,decide_eq_decide];omega
  simp only [S106_5step,S106_5,azy,aaa,hi,decide_true,Int.toNat_natCast,h1,h2,h3,h4,h5,Option.bind_some,ayc (i:=i) (by omega),cond_true]
  unfold alnB digB
  rw [Bool.decide_and]
  cases lowB (s.getD i 0).toNat<;>cases capB (s.getD i 0).toNat<;>cases decide ((s.getD i 0).toNat=95)<;>cases decide (48<=(s.getD i 0).toNat)<;>cases decide ((s.getD i 0).toNat<=57)<;>rfl) (by
  simp only [S106_5step,S106_5,azy,Nat.lt_irrefl,decide_false,cond_false])
theorem agw (s:List UInt8) (hs:s.length<=9223372036854770000):F106 0 s=some (aho s):=by
 unfold F106
 cases s with
 | nil=>rfl
 | cons c r=>
  have hl:=ap8 (c::r) hs r.length 1 (by simp [Nat.add_comm])
  rw [show ((1:Nat):Int)=(1:Int) from rfl] at hl
  have ha:allF (fun i=>alnB ((c::r).getD i 0)) 1 r.length=r.all alnB:=avv alnB 0 r [c]
  rw [ha] at hl
  have e0:(((c::r).length:Int)==(0:Int))=false:=Eq.trans (eqB (c::r).length 0) (by simp)
  have e1:decide (((c::r).length:Int)>(40:Int))=!decide (r.length+1<=40):=by
   rw [<-decide_not,decide_eq_decide];simp only [List.length_cons];omega
  have e2:aab (0:Int) (c::r).length=true:=by rw [show (0:Int)=((0:Nat):Int) from rfl,aaa];simp
  have h1:=at4 c.toNat
  have h2:=amk c.toNat
  have e3:((((c::r).getD (0:Int).toNat 0).toNat:Nat):Int)=(c.toNat:Int):=rfl
  rw [aho,letB]
  simp only [e0,e1,e2,e3,h1,h2,cond_false,af2,hl]
  cases decide (r.length+1<=40)<;>cases lowB c.toNat<;>cases capB c.toNat<;>cases r.all alnB<;>rfl
theorem ap7 (s:List UInt8) (hs:s.length<=1048576):∀ (m i:Nat) (part:List UInt8),s.length-i<=m->i<=s.length->part.length<=i->
 ∃ y,abv (S103_6step 0) (s,part,(i:Int))=some y/\sumE (fun b=>some b) (fun p=>some (aho p)) y=some (apf part (s.drop i))/\∀ p,y=.inr p->p.length<=s.length:=by
 intro m
 induction m with
 | zero=>
  intro i part hm hi hp
  have hlt:¬i<s.length:=by omega
  rw [List.drop_eq_nil_of_le (by omega)]
  exact ⟨.inr part,aai (by simp only [S103_6step,S103_6,adj,hlt,decide_false,cond_false]),rfl,fun p h=>by cases h;omega⟩
 | succ m ih=>
  intro i part hm hi hp
  by_cases hlt:i<s.length
  ·rw [adw hlt 0,apf]
   have hn:(((s.getD i 0).toNat:Int) != (46:Int))=!(s.getD i 0==46):=by
    exact (neB (s.getD i 0).toNat 46).trans (congrArg (!·) (a1a (s.getD i 0) 46))
   cases hb:(s.getD i 0==46) with
   | false=>
    obtain ⟨y,h1,h2,h3⟩:=ih (i+1) (part++[s.getD i 0]) (by omega) (by omega) (by simp;omega)
    refine ⟨y,?_,h2,h3⟩
    rw [<-h1]
    refine aav ?_
    have hsl:decide ((0:Int)<=(i:Int)/\(i:Int)<=((i+1:Nat):Int)/\((i+1:Nat):Int)<=(s.length:Int))=true:=decide_eq_true (by omega)
    have htk:(s.take (i+1)).drop i=[s.getD i 0]:=by
     rw [List.drop_take,show i+1-i=1 by omega,adw hlt 0];rfl
    have hst:decide (part.length+[s.getD i 0].length<=am4)=true:=decide_eq_true (by unfold am4;simp;omega)
    rw [hb] at hn
    simp only [S103_6step,S103_6,adj,hlt,decide_true,cond_true,aaa,Int.toNat_natCast,hn,Bool.not_false,ayc (i:=i) (by omega),hsl,htk,hst]
   | true=>
    rw [hb] at hn
    simp only [cond_true]
    cases hpp:aho part with
    | false=>
     refine ⟨.inl false,aai ?_,rfl,fun p h=>by cases h⟩
     simp only [S103_6step,S103_6,adj,hlt,decide_true,cond_true,aaa,Int.toNat_natCast,hn,Bool.not_true,cond_false,agw part (by omega),hpp,Option.bind_some,Bool.not_false]
    | true=>
     obtain ⟨y,h1,h2,h3⟩:=ih (i+1) [] (by omega) (by omega) (by simp)
     refine ⟨y,?_,by rw [Bool.true_and];exact h2,h3⟩
     rw [<-h1]
     refine aav ?_
     simp only [S103_6step,S103_6,adj,hlt,decide_true,cond_true,aaa,Int.toNat_natCast,hn,Bool.not_true,cond_false,agw part (by omega),hpp,Option.bind_some,ayc (i:=i) (by omega)]
  ·rw [List.drop_eq_nil_of_le (by omega)]
   exact ⟨.inr part,aai (by simp only [S103_6step,S103_6,adj,hlt,decide_false,cond_false]),rfl,fun p h=>by cases h;omega⟩
theorem avb (s:List UInt8) (hs:s.length<=1048576):F103 0 s=some (ari s):=by
 obtain ⟨y,h1,h2,h3⟩:=ap7 s hs s.length 0 [] (by omega) (by omega) (by simp)
 rw [List.drop_zero,awk] at h2
 unfold F103 ari
 have e:decide ((s.length:Int)>(120:Int))=!decide (s.length<=120):=by rw [<-decide_not,decide_eq_decide];omega
 rw [af2,show (0:Int)=((0:Nat):Int) from rfl,h1,e,Option.bind_some]
 cases decide (s.length<=120) with
 | false=>rfl
 | true=>
  rw [Bool.true_and,<-h2]
  cases y with
  | inl b=>rfl
  | inr p=>
   simp only [Bool.not_true,cond_false,ac5]
   rw [agw p (by have:=h3 p rfl;omega)];rfl
noncomputable def al8 (s:List UInt8):Bool:=(F105 0 s).getD false
theorem am0 (s:List UInt8):F105 0 s=some (al8 s):=by
 unfold al8
 simp only [F105,ayn,Option.getD_some]
noncomputable def azg (s:List UInt8):Bool:=aho s&&!al8 s
noncomputable def defP (s:List UInt8):Bool:=ari s&&(abf 46 s).all fun x=>!al8 x
theorem aog (s:List UInt8) (hs:s.length<=1048576):∀ (k:Nat),k<=s.length->(46:UInt8)∉s.drop k->
 ∃ y,abv (S104_3step 0) (s,(k:Int)-1)=some y/\((∃ up last,y=.inl (up,last)/\s=up++46::last/\(46:UInt8)∉last)∨(y=.inr s/\(46:UInt8)∉s)):=by
 intro k
 induction k with
 | zero=>
  intro _ hn
  refine ⟨.inr s,aai ?_,Or.inr ⟨rfl,by simpa using hn⟩⟩
  have:decide (((0:Nat):Int)-1≥(0:Int))=false:=decide_eq_false (by omega)
  simp only [S104_3step,S104_3,this,cond_false]
 | succ k ih=>
  intro hk hn
  have e:((k+1:Nat):Int)-1=(k:Int):=by omega
  have hlt:k<s.length:=by omega
  have hge:decide ((k:Int)≥(0:Int))=true:=decide_eq_true (by omega)
  have hq:(((s.getD k 0).toNat:Int)==(46:Int))=(s.getD k 0==46):=by
   exact (eqB (s.getD k 0).toNat 46).trans (a1a (s.getD k 0) 46)
  rw [e]
  cases hb:(s.getD k 0==46) with
  | true=>
   have hb':s.getD k 0=46:=by simpa using hb
   have hs1:decide ((0:Int)<=(0:Int)/\(0:Int)<=(k:Int)/\(k:Int)<=(s.length:Int))=true:=decide_eq_true (by omega)
   have hs2:decide ((0:Int)<=((k+1:Nat):Int)/\((k+1:Nat):Int)<=(s.length:Int)/\(s.length:Int)<=(s.length:Int))=true:=decide_eq_true (by omega)
   refine ⟨.inl (s.take k,s.drop (k+1)),aai ?_,Or.inl ⟨_,_,rfl,?_,hn⟩⟩
   ·rw [hb] at hq
    simp only [S104_3step,S104_3,hge,cond_true,aaa,hlt,decide_true,Int.toNat_natCast,hq,hs1,ayc (i:=k) (by omega),hs2,List.take_length]
    rfl
   ·rw [<-hb',<-adw hlt 0,List.take_append_drop]
  | false=>
   have hb':s.getD k 0≠46:=by simpa using hb
   obtain ⟨y,h1,h2⟩:=ih (by omega) (by rw [adw hlt 0];simp only [List.mem_cons,not_or];exact ⟨fun e=>hb' e.symm,hn⟩)
   refine ⟨y,?_,h2⟩
   rw [<-h1]
   refine aav ?_
   rw [hb] at hq
   have hw:IntKind.wrap .i64 ((k:Int)-(1:Int))=(k:Int)-1:=am7 (by omega) (by omega)
   simp only [S104_3step,S104_3,hge,cond_true,aaa,hlt,decide_true,Int.toNat_natCast,hq,cond_false,hw]
theorem asc (s:List UInt8) (hs:s.length<=1048576):∃ up last,F104 0 s=some (up,last)/\((s=up++46::last/\(46:UInt8)∉last)∨(up=[]/\last=s/\(46:UInt8)∉s)):=by
 obtain ⟨y,h1,h2⟩:=aog s hs s.length (by omega) (by simp)
 unfold F104
 have hw:IntKind.wrap .i64 ((s.length:Int)-(1:Int))=(s.length:Int)-1:=am7 (by omega) (by omega)
 rw [af2,hw,h1]
 rcases h2 with ⟨up,last,rfl,h2,h3⟩ | ⟨rfl,h3⟩
 ·exact ⟨up,last,rfl,Or.inl ⟨h2,h3⟩⟩
 ·exact ⟨[],s,rfl,Or.inr ⟨rfl,rfl,h3⟩⟩
theorem aza {s:List UInt8} (h:aho s=true):s≠[]:=by
 intro e;subst e;simp [aho] at h
end Go.Ab
