/- Names: parts, full names, keywords; loops that look for the first. -/
import Derived.Test.YthokbeimbdnnoaaGreatDoorAbFmtE
import Derived.Test.YthokbeimbdnnoaaGreatDoorAbPlain
import Derived.Test.YthokbeimbdnnoaaGreatDoorPUtfT
import Derived.Test.YthokbeimbdnnoaaGreatDoorAbUtf
set_option linter.unusedVariables false
set_option linter.unusedSimpArgs false
set_option linter.unnecessarySimpa false
namespace Go.Ab
open Go
theorem aou {α:Type} (f:α->Bool) (d:α):∀ (xs pre:List α),allF (fun i=>f ((pre++xs).getD i d)) pre.length xs.length=xs.all f:=by
 intro xs
 induction xs with
 | nil=>intro pre;rfl
 | cons x r ih=>
  intro pre
  simp only [List.length_cons,allF,List.all_cons]
  have e1:(pre++x::r).getD pre.length d=x:=by simp [List.getD]
  rw [e1]
  have:=ih (pre++[x])
  rw [show pre++x::r=pre++[x]++r by simp,<-this]
  simp
theorem a2j {α:Type} (f:α->Bool) (d:α) (xs:List α):allF (fun i=>f (xs.getD i d)) 0 xs.length=xs.all f:=aou f d xs []
theorem arn {σ τ α β:Type}{step:σ->Option (σ⊕τ)} (mk:Nat->β->σ) (out:β->τ) (xs:List α) (d:α) (f:β->α->β) (I:Nat->β->Prop)
 (hstep:∀ i b,i<xs.length->I i b->step (mk i b)=some (.inl (mk (i+1) (f b (xs.getD i d))))/\I (i+1) (f b (xs.getD i d))) (hend:∀ b,I xs.length b->step (mk xs.length b)=some (.inr (out b))):
 ∀ k i b,i+k=xs.length->I i b->aba step (mk i b)=some (out ((xs.drop i).foldl f b))/\I xs.length ((xs.drop i).foldl f b):=by
 intro k
 induction k with
 | zero=>
  intro i b hi hI
  have:i=xs.length:=by omega
  subst this
  rw [List.drop_length]
  exact ⟨aag (hend b hI),hI⟩
 | succ k ih=>
  intro i b hi hI
  have hlt:i<xs.length:=by omega
  obtain ⟨h1,h2⟩:=hstep i b hlt hI
  rw [aas h1,aa8 hlt d,List.foldl_cons]
  exact ih (i+1) _ (by omega) h2
def lowB (b:Nat):Bool:=decide (97<=b/\b<=122)
def capB (b:Nat):Bool:=decide (65<=b/\b<=90)
def digB (b:Nat):Bool:=decide (48<=b/\b<=57)
def letB (b:UInt8):Bool:=lowB b.toNat||capB b.toNat
def alnB (b:UInt8):Bool:=lowB b.toNat||capB b.toNat||digB b.toNat||decide (b.toNat=95)
theorem a3j {b:UInt8} (h:letB b=true):alnB b=true:=by
 unfold letB at h;unfold alnB;rw [h];rfl
def ad8 (s:List UInt8):Bool:=
 match s with
 | []=>false
 | c::r=>decide (r.length+1<=40)&&letB c&&r.all alnB
def aj7 (s:List UInt8):Bool:=decide (s.length<=120)&&(aa1 46 s).all ad8
def ay0 (s:List UInt8):Bool:=
 match s with
 | []=>aj7 []
 | c::r=>bif c==46 then aj7 r else aj7 (c::r)
theorem avl (c:UInt8) (b:List UInt8):∀ a,aa1 c (a++c::b)=aa1 c a++aa1 c b:=by
 intro a
 induction a with
 | nil=>simp [aa1]
 | cons x a ih=>
  simp only [List.cons_append,aa1]
  cases h:(x==c) with
  | true=>simp only [cond_true,ih,List.cons_append]
  | false=>
   simp only [cond_false,ih]
   have:=aiy c a
   cases hs:aa1 c a with
   | nil=>exact absurd hs this
   | cons y q=>simp
theorem aqf (c:UInt8):∀ b,c∉b->aa1 c b=[b]:=by
 intro b
 induction b with
 | nil=>intro _;rfl
 | cons x b ih=>
  intro h
  simp only [List.mem_cons,not_or] at h
  have hx:(x==c)=false:=by rw [beq_eq_false_iff_ne];exact fun e=>h.1 e.symm
  simp only [aa1,hx,cond_false,ih h.2]
def ape:List UInt8->List UInt8->Bool
 | part,[]=>ad8 part
 | part,b::r=>bif b==46 then ad8 part&&ape [] r else ape (part++[b]) r
def glue (part:List UInt8):List (List UInt8)->List (List UInt8)
 | []=>[part]
 | x::q=>(part++x)::q
theorem az4:∀ (r part:List UInt8),ape part r=(glue part (aa1 46 r)).all ad8:=by
 intro r
 induction r with
 | nil=>intro part;simp [ape,aa1,glue]
 | cons b r ih=>
  intro part
  simp only [ape,aa1]
  cases h:(b==46) with
  | true=>
   simp only [cond_true,glue,List.append_nil,List.all_cons,ih]
   have:=aiy 46 r
   cases hs:aa1 46 r with
   | nil=>exact absurd hs this
   | cons x q=>simp [glue]
  | false=>
   simp only [cond_false,ih]
   have:=aiy 46 r
   cases hs:aa1 46 r with
   | nil=>exact absurd hs this
   | cons x q=>simp [glue]
theorem aw0 (r:List UInt8):ape [] r=(aa1 46 r).all ad8:=by
 rw [az4]
 have:=aiy 46 r
 cases hs:aa1 46 r with
 | nil=>exact absurd hs this
 | cons x q=>simp [glue]
end Go.Ab
namespace Go.Ab
open Go
set_option maxRecDepth 100000
theorem avt {i:Nat} (h:i<=9223372036854775000):IntKind.wrap .i64 ((i:Int)+1)=((i+1:Nat):Int):=ay6 (by omega)
theorem geI (a b:Nat):decide ((a:Int)≥(b:Int))=decide (b<=a):=by grind
theorem leI (a b:Nat):decide ((a:Int)<=(b:Int))=decide (a<=b):=by grind
theorem neB (a b:Nat):((a:Int) != (b:Int))=!decide (a=b):=by
 grind
theorem eqB (a b:Nat):((a:Int)==(b:Int))=decide (a=b):=by
 grind
theorem a4m (b c:UInt8):decide (b.toNat=c.toNat)=(b==c):=by
 grind [UInt8.toNat_inj,decide_eq_false]
def clsN (b:Nat):Int:=bif lowB b then 1 else bif capB b then 2 else bif digB b then 3 else bif decide (b=95) then 4 else 0
theorem as5 (b:Nat):F315 0 (b:Int)=some (clsN b):=by
 unfold F315 clsN
 rw [show (97:Int)=((97:Nat):Int) from rfl,show (122:Int)=((122:Nat):Int) from rfl,show (65:Int)=((65:Nat):Int) from rfl,show (90:Int)=((90:Nat):Int) from rfl,show (48:Int)=((48:Nat):Int) from rfl,show (57:Int)=((57:Nat):Int) from rfl,show (95:Int)=((95:Nat):Int) from rfl]
 grind [geI,leI,eqB,lowB,capB,digB,Bool.decide_and,decide]
theorem azt {b:Nat} (h:128<=b):clsN b=0:=by
 have h1:lowB b=false:=decide_eq_false (by omega)
 have h2:capB b=false:=decide_eq_false (by omega)
 have h3:digB b=false:=decide_eq_false (by omega)
 have h4:decide (b=95)=false:=decide_eq_false (by omega)
 simp only [clsN,h1,h2,h3,h4,cond_false]
theorem cls0 (b:UInt8):(clsN b.toNat==0)=!alnB b:=by
 grind [clsN,alnB,lowB,capB,digB,decide]
theorem a4s (b:UInt8):(bif (clsN b.toNat != 1) then (clsN b.toNat != 2) else false)=!letB b:=by
 grind [clsN,letB,lowB,capB,digB,decide]
def okAt (i:Nat) (b:UInt8):Bool:=alnB b&&(!decide (i=0)||letB b)
def amw:Nat->List UInt8->Bool
 | _,[]=>true
 | i,b::r=>okAt i b&&amw (i+1) r
theorem ava:∀ (r:List UInt8) (i:Nat),amw (i+1) r=r.all alnB:=by
 intro r
 induction r with
 | nil=>intro i;rfl
 | cons b r ih=>
  grind [amw,okAt,decide_eq_false]
theorem ax4 (s:List UInt8):∀ (m i:Nat),s.length-i<=m->i<=s.length->∃ z,aba (S300_3step 0) (s,(),s,(i:Int))=some (bif amw i (s.drop i) then .inr (s,z) else .inl (false,z)):=by
 intro m
 induction m with
 | zero=>
  intro i hm hi
  have hlt:¬i<s.length:=by omega
  rw [List.drop_eq_nil_of_le (by omega)]
  exact ⟨_,aag (by simp only [S300_3step,S300_3,Int.toNat_natCast,hlt,decide_false,cond_false];rfl)⟩
 | succ m ih=>
  intro i hm hi
  by_cases hlt:i<s.length
  ·have e0:((i:Int)==(0:Int))=decide (i=0):=eqB i 0
   rw [aa8 hlt 0,amw]
   by_cases ha:byteAt s i<128
   ·have hd:=aeb s i ha
    have hc:F315 0 (byteAt s i:Int)=some (clsN (s.getD i 0).toNat):=as5 _
    cases hok:okAt i (s.getD i 0) with
    | true=>
     obtain ⟨z,hz⟩:=ih (i+1) (by omega) (by omega)
     refine ⟨z,?_⟩
     rw [Bool.true_and,<-hz]
     refine aas ?_
     unfold okAt at hok
     simp only [S300_3step,S300_3,Int.toNat_natCast,hlt,decide_true,cond_true,agh,hd,hc,Option.bind_some,cls0,e0]
     cases h1:alnB (s.getD i 0) with
     | false=>grind
     | true=>
      rw [h1] at hok
      cases h2:decide (i=0) with
      | false=>rfl
      | true=>
       rw [h2] at hok
       have h3:=a4s (s.getD i 0)
       grind
    | false=>
     refine ⟨(s,((i+1:Nat):Int)),aag ?_⟩
     unfold okAt at hok
     simp only [S300_3step,S300_3,Int.toNat_natCast,hlt,decide_true,cond_true,agh,hd,hc,Option.bind_some,cls0,e0,Bool.false_and,cond_false]
     cases h1:alnB (s.getD i 0) with
     | false=>rfl
     | true=>
      rw [h1] at hok
      cases h2:decide (i=0) with
      | false=>grind
      | true=>
       rw [h2] at hok
       have h3:=a4s (s.getD i 0)
       grind
   ·have hh:=ak2 s i (by omega)
    have hc:=as5 (aao s i).1
    rw [azt hh] at hc
    have hok:okAt i (s.getD i 0)=false:=by
     unfold okAt alnB lowB capB digB
     have:byteAt s i=(s.getD i 0).toNat:=rfl
     grind
    refine ⟨(s,((i+(aao s i).2:Nat):Int)),aag ?_⟩
    rw [hok]
    simp only [S300_3step,S300_3,Int.toNat_natCast,hlt,decide_true,cond_true,agh,hc,Option.bind_some,Bool.false_and,cond_false]
    rfl
  grind
theorem aph (s:List UInt8):F300 0 s=some (ad8 s):=by
 obtain ⟨z,hz⟩:=ax4 s s.length 0 (by omega) (by omega)
 unfold F300
 rw [af0,hz,List.drop_zero]
 cases s with
 | nil=>rfl
 | cons c r=>
  rw [amw,ava]
  have e1:decide (((c::r).length:Int)≥(1:Int))=true:=decide_eq_true (by grind)
  have e2:decide (((c::r).length:Int)<=(40:Int))=decide (r.length+1<=40):=leI _ 40
  have e3:okAt 0 c=letB c:=by
   grind [okAt,letB,a3j]
  rw [e3,ad8]
  cases letB c<;>cases r.all alnB<;>simp only [Bool.and_false,Bool.and_true,Bool.false_and,Bool.true_and,cond_true,cond_false,Option.bind_some,a1b,ahf,e1,e2]
theorem atw (b:Nat):F242 0 (b:Int)=some (lowB b):=by
 unfold F242 lowB
 rw [show (97:Int)=((97:Nat):Int) from rfl,show (122:Int)=((122:Nat):Int) from rfl]
 simp only [geI,leI,Bool.decide_and]
 cases decide (97<=b)<;>rfl
theorem amo (b:Nat):F243 0 (b:Int)=some (capB b):=by
 unfold F243 capB
 rw [show (65:Int)=((65:Nat):Int) from rfl,show (90:Int)=((90:Nat):Int) from rfl]
 simp only [geI,leI,Bool.decide_and]
 cases decide (65<=b)<;>rfl
theorem ap2 (s:List UInt8) (hs:s.length<=9223372036854770000):∀ k i,i+k=s.length->aba (S206_5step 0) (s,(i:Int))=some (bif allF (fun i=>alnB (s.getD i 0)) i k then .inr () else .inl false):=
 ac0 (fun i=>(s,(i:Int))) s.length (fun i=>alnB (s.getD i 0)) (Sum.inl false:Bool⊕Unit) (Sum.inr ()) (fun i hi=>by
  have h1:=atw (s.getD i 0).toNat
  have h2:=amo (s.getD i 0).toNat
  have h3:(((s.getD i 0).toNat:Int) != (95:Int))=!decide ((s.getD i 0).toNat=95):=neB _ 95
  have h4:decide (((s.getD i 0).toNat:Int)<(48:Int))=!decide (48<=(s.getD i 0).toNat):=by
   rw [<-decide_not,decide_eq_decide];omega
  have h5:decide (((s.getD i 0).toNat:Int)>(57:Int))=!decide ((s.getD i 0).toNat<=57):=by
   rw [<-decide_not,decide_eq_decide];omega
  simp only [S206_5step,S206_5,atl,aab,hi,decide_true,Int.toNat_natCast,h1,h2,h3,h4,h5,Option.bind_some,avt (i:=i) (by omega),cond_true]
  unfold alnB digB
  rw [Bool.decide_and]
  cases lowB (s.getD i 0).toNat<;>cases capB (s.getD i 0).toNat<;>cases decide ((s.getD i 0).toNat=95)<;>cases decide (48<=(s.getD i 0).toNat)<;>cases decide ((s.getD i 0).toNat<=57)<;>rfl) (by
  simp only [S206_5step,S206_5,atl,Nat.lt_irrefl,decide_false,cond_false])
theorem ahb (s:List UInt8) (hs:s.length<=9223372036854770000):F206 0 s=some (ad8 s):=by
 unfold F206
 cases s with
 | nil=>rfl
 | cons c r=>
  have hl:=ap2 (c::r) hs r.length 1 (by simp [Nat.add_comm])
  rw [show ((1:Nat):Int)=(1:Int) from rfl] at hl
  have ha:allF (fun i=>alnB ((c::r).getD i 0)) 1 r.length=r.all alnB:=aou alnB 0 r [c]
  rw [ha] at hl
  have e0:(((c::r).length:Int)==(0:Int))=false:=Eq.trans (eqB (c::r).length 0) (by simp)
  have e1:decide (((c::r).length:Int)>(40:Int))=!decide (r.length+1<=40):=by
   rw [<-decide_not,decide_eq_decide];simp only [List.length_cons];omega
  have e2:aaa (0:Int) (c::r).length=true:=by rw [show (0:Int)=((0:Nat):Int) from rfl,aab];simp
  have h1:=atw c.toNat
  have h2:=amo c.toNat
  have e3:((((c::r).getD (0:Int).toNat 0).toNat:Nat):Int)=(c.toNat:Int):=rfl
  rw [ad8,letB]
  simp only [e0,e1,e2,e3,h1,h2,cond_false,af0,hl]
  cases decide (r.length+1<=40)<;>cases lowB c.toNat<;>cases capB c.toNat<;>cases r.all alnB<;>rfl
theorem aw1 (s:List UInt8) (xs:List (List UInt8)) (hx:xs.length<=9223372036854770000):aba (S280_3step 0) (s,xs.map PV.str,((xs.map PV.str).length:Int),((0:Nat):Int))=some (bif xs.all ad8 then .inr s else .inl false):=by
 have h:=ac0 (step:=S280_3step 0) (fun i=>(s,xs.map PV.str,((xs.map PV.str).length:Int),(i:Int))) (xs.map PV.str).length (fun i=>ad8 ((xs.map PV.str).getD i .bad).asStr) (Sum.inl false:Bool⊕List UInt8) (Sum.inr s) (fun i hi=>by
  have hi':i<xs.length:=by simpa using hi
  simp only [S280_3step,S280_3,atl,aab,hi,decide_true,cond_true,Int.toNat_natCast,aph,Option.bind_some,avt (i:=i) (by omega)]
  grind) (by
  simp only [S280_3step,S280_3,atl,Nat.lt_irrefl,decide_false,cond_false]) (xs.map PV.str).length 0 (by omega)
 rw [a2j (fun x:PV=>ad8 x.asStr),List.all_map] at h
 exact h
theorem avm (c:UInt8):∀ s,(aa1 c s).length<=s.length+1:=by
 intro s
 induction s with
 | nil=>simp [aa1]
 | cons b r ih=>
  simp only [aa1]
  grind
theorem axy (s:List UInt8) (hs:s.length<=1048576):amh 0 s ([46]:List UInt8)=some ((aa1 46 s).map PV.str):=by
 unfold amh
 have:Nat.blt s.length 4294967281=true:=by rw [Nat.blt_eq];omega
 grind
theorem apg (s:List UInt8) (hs:s.length<=1048576):F280 0 s=some (aj7 s):=by
 have hl:=avm 46 s
 unfold F280 aj7
 have e:decide ((s.length:Int)<=(120:Int))=decide (s.length<=120):=leI _ 120
 rw [axy s hs,Option.bind_some,af0,show (0:Int)=((0:Nat):Int) from rfl,aw1 s _ (by omega)]
 grind [aa1,ad8,sumE]
theorem ap1 (s:List UInt8) (hs:s.length<=1048576):∀ (m i:Nat) (part:List UInt8),s.length-i<=m->i<=s.length->part.length<=i->
 ∃ y,aba (S203_6step 0) (s,part,(i:Int))=some y/\sumE (fun b=>some b) (fun p=>some (ad8 p)) y=some (ape part (s.drop i))/\∀ p,y=.inr p->p.length<=s.length:=by
 intro m
 induction m with
 | zero=>
  intro i part hm hi hp
  have hlt:¬i<s.length:=by omega
  rw [List.drop_eq_nil_of_le (by omega)]
  exact ⟨.inr part,aag (by simp only [S203_6step,S203_6,afl,hlt,decide_false,cond_false]),rfl,fun p h=>by cases h;omega⟩
 | succ m ih=>
  intro i part hm hi hp
  by_cases hlt:i<s.length
  ·rw [aa8 hlt 0,ape]
   have hn:(((s.getD i 0).toNat:Int) != (46:Int))=!(s.getD i 0==46):=by
    exact (neB (s.getD i 0).toNat 46).trans (congrArg (!·) (a4m (s.getD i 0) 46))
   cases hb:(s.getD i 0==46) with
   | false=>
    obtain ⟨y,h1,h2,h3⟩:=ih (i+1) (part++[s.getD i 0]) (by omega) (by omega) (by simp;omega)
    refine ⟨y,?_,h2,h3⟩
    rw [<-h1]
    refine aas ?_
    have hsl:decide ((0:Int)<=(i:Int)/\(i:Int)<=((i+1:Nat):Int)/\((i+1:Nat):Int)<=(s.length:Int))=true:=decide_eq_true (by omega)
    have htk:(s.take (i+1)).drop i=[s.getD i 0]:=by
     rw [List.drop_take,show i+1-i=1 by omega,aa8 hlt 0];rfl
    have hst:decide (part.length+[s.getD i 0].length<=abe)=true:=decide_eq_true (by unfold abe;simp;omega)
    rw [hb] at hn
    simp only [S203_6step,S203_6,afl,hlt,decide_true,cond_true,aab,Int.toNat_natCast,hn,Bool.not_false,avt (i:=i) (by omega),hsl,htk,hst]
   | true=>
    rw [hb] at hn
    simp only [cond_true]
    cases hpp:ad8 part with
    | false=>
     refine ⟨.inl false,aag ?_,rfl,fun p h=>by cases h⟩
     simp only [S203_6step,S203_6,afl,hlt,decide_true,cond_true,aab,Int.toNat_natCast,hn,Bool.not_true,cond_false,ahb part (by omega),hpp,Option.bind_some,Bool.not_false]
    | true=>
     obtain ⟨y,h1,h2,h3⟩:=ih (i+1) [] (by omega) (by omega) (by simp)
     refine ⟨y,?_,by rw [Bool.true_and];exact h2,h3⟩
     rw [<-h1]
     refine aas ?_
     simp only [S203_6step,S203_6,afl,hlt,decide_true,cond_true,aab,Int.toNat_natCast,hn,Bool.not_true,cond_false,ahb part (by omega),hpp,Option.bind_some,avt (i:=i) (by omega)]
  ·rw [List.drop_eq_nil_of_le (by omega)]
   exact ⟨.inr part,aag (by simp only [S203_6step,S203_6,afl,hlt,decide_false,cond_false]),rfl,fun p h=>by cases h;omega⟩
theorem avd (s:List UInt8) (hs:s.length<=1048576):F203 0 s=some (aj7 s):=by
 obtain ⟨y,h1,h2,h3⟩:=ap1 s hs s.length 0 [] (by omega) (by omega) (by simp)
 rw [List.drop_zero,aw0] at h2
 unfold F203 aj7
 have e:decide ((s.length:Int)>(120:Int))=!decide (s.length<=120):=by rw [<-decide_not,decide_eq_decide];omega
 rw [af0,show (0:Int)=((0:Nat):Int) from rfl,h1,e,Option.bind_some]
 cases decide (s.length<=120) with
 | false=>rfl
 | true=>
  rw [Bool.true_and,<-h2]
  cases y with
  | inl b=>rfl
  | inr p=>
   simp only [Bool.not_true,cond_false,ahf]
   rw [ahb p (by have:=h3 p rfl;omega)];rfl
noncomputable def al1 (s:List UInt8):Bool:=(F205 0 s).getD false
theorem aji (s:List UInt8):F205 0 s=some (al1 s):=by
 unfold al1
 simp only [F205,azu,Option.getD_some]
theorem a4c (s:List UInt8):F316 0 s=some (al1 s):=by
 rw [<-aji];rfl
noncomputable def asa (s:List UInt8):Bool:=ad8 s&&!al1 s
theorem au0 (s:List UInt8):F302 0 s=some (asa s):=by
 grind [F302,asa,aph,a4c,ad8]
noncomputable def defP (s:List UInt8):Bool:=aj7 s&&(aa1 46 s).all fun x=>!al1 x
theorem aof (s:List UInt8) (hs:s.length<=1048576):∀ (k:Nat),k<=s.length->(46:UInt8)∉s.drop k->
 ∃ y,aba (S204_3step 0) (s,(k:Int)-1)=some y/\((∃ up last,y=.inl (up,last)/\s=up++46::last/\(46:UInt8)∉last)∨(y=.inr s/\(46:UInt8)∉s)):=by
 intro k
 induction k with
 | zero=>
  intro _ hn
  refine ⟨.inr s,aag ?_,Or.inr ⟨rfl,by simpa using hn⟩⟩
  have:decide (((0:Nat):Int)-1≥(0:Int))=false:=decide_eq_false (by omega)
  simp only [S204_3step,S204_3,this,cond_false]
 | succ k ih=>
  intro hk hn
  have e:((k+1:Nat):Int)-1=(k:Int):=by omega
  have hlt:k<s.length:=by omega
  have hge:decide ((k:Int)≥(0:Int))=true:=decide_eq_true (by omega)
  have hq:(((s.getD k 0).toNat:Int)==(46:Int))=(s.getD k 0==46):=by
   exact (eqB (s.getD k 0).toNat 46).trans (a4m (s.getD k 0) 46)
  rw [e]
  cases hb:(s.getD k 0==46) with
  | true=>
   have hb':s.getD k 0=46:=by simpa using hb
   have hs1:decide ((0:Int)<=(0:Int)/\(0:Int)<=(k:Int)/\(k:Int)<=(s.length:Int))=true:=decide_eq_true (by omega)
   have hs2:decide ((0:Int)<=((k+1:Nat):Int)/\((k+1:Nat):Int)<=(s.length:Int)/\(s.length:Int)<=(s.length:Int))=true:=decide_eq_true (by omega)
   refine ⟨.inl (s.take k,s.drop (k+1)),aag ?_,Or.inl ⟨_,_,rfl,?_,hn⟩⟩
   ·rw [hb] at hq
    simp only [S204_3step,S204_3,hge,cond_true,aab,hlt,decide_true,Int.toNat_natCast,hq,hs1,avt (i:=k) (by omega),hs2,List.take_length]
    rfl
   ·rw [<-hb',<-aa8 hlt 0,List.take_append_drop]
  | false=>
   have hb':s.getD k 0≠46:=by simpa using hb
   obtain ⟨y,h1,h2⟩:=ih (by omega) (by rw [aa8 hlt 0];simp only [List.mem_cons,not_or];exact ⟨fun e=>hb' e.symm,hn⟩)
   refine ⟨y,?_,h2⟩
   rw [<-h1]
   refine aas ?_
   rw [hb] at hq
   have hw:IntKind.wrap .i64 ((k:Int)-(1:Int))=(k:Int)-1:=a2e (by omega) (by omega)
   simp only [S204_3step,S204_3,hge,cond_true,aab,hlt,decide_true,Int.toNat_natCast,hq,cond_false,hw]
theorem ar4 (s:List UInt8) (hs:s.length<=1048576):∃ up last,F204 0 s=some (up,last)/\((s=up++46::last/\(46:UInt8)∉last)∨(up=[]/\last=s/\(46:UInt8)∉s)):=by
 obtain ⟨y,h1,h2⟩:=aof s hs s.length (by omega) (by simp)
 unfold F204
 have hw:IntKind.wrap .i64 ((s.length:Int)-(1:Int))=(s.length:Int)-1:=a2e (by omega) (by omega)
 rw [af0,hw,h1]
 rcases h2 with ⟨up,last,rfl,h2,h3⟩ | ⟨rfl,h3⟩
 ·exact ⟨up,last,rfl,Or.inl ⟨h2,h3⟩⟩
 ·exact ⟨[],s,rfl,Or.inr ⟨rfl,rfl,h3⟩⟩
theorem a0q {s:List UInt8} (h:ad8 s=true):s≠[]:=by
 intro e;subst e;simp [ad8] at h
end Go.Ab
