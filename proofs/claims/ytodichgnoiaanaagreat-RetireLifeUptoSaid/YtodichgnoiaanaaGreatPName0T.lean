/- Names: parts, full names, keywords; loops that look for the first. -/
import Derived.Test.YtodichgnoiaanaaGreatAbSpl
import Derived.Test.YtodichgnoiaanaaGreatAbPlain
import Derived.Test.YtodichgnoiaanaaGreatPUtfT
import Derived.Test.YtodichgnoiaanaaGreatAbUtf
set_option linter.unusedVariables false
set_option linter.unusedSimpArgs false
set_option linter.unnecessarySimpa false
namespace Go.Ab
open Go
theorem aql {α:Type} (f:α->Bool) (d:α):∀ (xs pre:List α),allF (fun i=>f ((pre++xs).getD i d)) pre.length xs.length=xs.all f:=by
 intro xs
 induction xs with
 | nil=>intro pre;rfl
 | cons x r ih=>
  intro pre
  simp only [List.length_cons,allF,List.all_cons]
  have e1:(pre++x::r).getD pre.length d=x:=by simp [List.getD]
  rw [e1]
  have:=ih (pre++[x])
  rw [show pre++x::r=pre++[x]++r by simp,<-this]
  simp
theorem ayd {α:Type} (f:α->Bool) (d:α) (xs:List α):allF (fun i=>f (xs.getD i d)) 0 xs.length=xs.all f:=aql f d xs []
theorem aa2 {σ τ α β:Type}{step:σ->Option (σ⊕τ)} (mk:Nat->β->σ) (out:β->τ) (xs:List α) (d:α) (f:β->α->β) (I:Nat->β->Prop)
 (hstep:∀ i b,i<xs.length->I i b->step (mk i b)=some (.inl (mk (i+1) (f b (xs.getD i d))))/\I (i+1) (f b (xs.getD i d))) (hend:∀ b,I xs.length b->step (mk xs.length b)=some (.inr (out b))):
 ∀ k i b,i+k=xs.length->I i b->aay step (mk i b)=some (out ((xs.drop i).foldl f b))/\I xs.length ((xs.drop i).foldl f b):=by
 intro k
 induction k with
 | zero=>
  intro i b hi hI
  have:i=xs.length:=by omega
  subst this
  rw [List.drop_length]
  exact ⟨aah (hend b hI),hI⟩
 | succ k ih=>
  intro i b hi hI
  have hlt:i<xs.length:=by omega
  obtain ⟨h1,h2⟩:=hstep i b hlt hI
  rw [aa0 h1,aea hlt d,List.foldl_cons]
  exact ih (i+1) _ (by omega) h2
def lowB (b:Nat):Bool:=decide (97<=b/\b<=122)
def capB (b:Nat):Bool:=decide (65<=b/\b<=90)
def digB (b:Nat):Bool:=decide (48<=b/\b<=57)
def letB (b:UInt8):Bool:=lowB b.toNat||capB b.toNat
def alnB (b:UInt8):Bool:=lowB b.toNat||capB b.toNat||digB b.toNat||decide (b.toNat=95)
def aga (s:List UInt8):Bool:=
 match s with
 | []=>false
 | c::r=>decide (r.length+1<=40)&&letB c&&r.all alnB
def aiv (s:List UInt8):Bool:=decide (s.length<=120)&&(abc 46 s).all aga
def aqf (s:List UInt8):Bool:=
 match s with
 | []=>aiv []
 | c::r=>bif c==46 then aiv r else aiv (c::r)
theorem aop (c:UInt8) (b:List UInt8):∀ a,abc c (a++c::b)=abc c a++abc c b:=by
 intro a
 induction a with
 | nil=>simp [abc]
 | cons x a ih=>
  simp only [List.cons_append,abc]
  cases h:(x==c) with
  | true=>simp only [cond_true,ih,List.cons_append]
  | false=>
   simp only [cond_false,ih]
   have:=ajq c a
   cases hs:abc c a with
   | nil=>exact absurd hs this
   | cons y q=>simp
theorem ajr (c:UInt8):∀ b,c∉b->abc c b=[b]:=by
 intro b
 induction b with
 | nil=>intro _;rfl
 | cons x b ih=>
  intro h
  simp only [List.mem_cons,not_or] at h
  have hx:(x==c)=false:=by rw [beq_eq_false_iff_ne];exact fun e=>h.1 e.symm
  simp only [abc,hx,cond_false,ih h.2]
def aq9:List UInt8->List UInt8->Bool
 | part,[]=>aga part
 | part,b::r=>bif b==46 then aga part&&aq9 [] r else aq9 (part++[b]) r
def glue (part:List UInt8):List (List UInt8)->List (List UInt8)
 | []=>[part]
 | x::q=>(part++x)::q
theorem a2p:∀ (r part:List UInt8),aq9 part r=(glue part (abc 46 r)).all aga:=by
 intro r
 induction r with
 | nil=>intro part;simp [aq9,abc,glue]
 | cons b r ih=>
  intro part
  simp only [aq9,abc]
  cases h:(b==46) with
  | true=>
   simp only [cond_true,glue,List.append_nil,List.all_cons,ih]
   have:=ajq 46 r
   cases hs:abc 46 r with
   | nil=>exact absurd hs this
   | cons x q=>simp [glue]
  | false=>
   simp only [cond_false,ih]
   have:=ajq 46 r
   cases hs:abc 46 r with
   | nil=>exact absurd hs this
   | cons x q=>simp [glue]
theorem azg (r:List UInt8):aq9 [] r=(abc 46 r).all aga:=by
 rw [a2p]
 have:=ajq 46 r
 cases hs:abc 46 r with
 | nil=>exact absurd hs this
 | cons x q=>simp [glue]
end Go.Ab
namespace Go.Ab
open Go
set_option maxRecDepth 100000
theorem aax {α:Type}{l:List α}{i:Nat} (h:i<l.length) (d:α):l.getD i d∈l:=by grind
theorem abr {i:Nat} (h:i<=9223372036854775000):IntKind.wrap .i64 ((i:Int)+1)=((i+1:Nat):Int):=asv (by omega)
theorem geI (a b:Nat):decide ((a:Int)≥(b:Int))=decide (b<=a):=by grind
theorem leI (a b:Nat):decide ((a:Int)<=(b:Int))=decide (a<=b):=by grind
theorem neB (a b:Nat):((a:Int) != (b:Int))=!decide (a=b):=by
 grind
theorem eqB (a b:Nat):((a:Int)==(b:Int))=decide (a=b):=by
 grind
theorem a4w (b c:UInt8):decide (b.toNat=c.toNat)=(b==c):=by
 grind [UInt8.toNat_inj,decide_eq_false]
theorem awb (b:Nat):F32 0 (b:Int)=some (lowB b):=by
 unfold F32 lowB
 rw [show (97:Int)=((97:Nat):Int) from rfl,show (122:Int)=((122:Nat):Int) from rfl]
 simp only [geI,leI,Bool.decide_and]
 cases decide (97<=b)<;>rfl
theorem an9 (b:Nat):F33 0 (b:Int)=some (capB b):=by
 unfold F33 capB
 rw [show (65:Int)=((65:Nat):Int) from rfl,show (90:Int)=((90:Nat):Int) from rfl]
 simp only [geI,leI,Bool.decide_and]
 cases decide (65<=b)<;>rfl
theorem ar5 (s:List UInt8) (hs:s.length<=9223372036854770000):∀ k i,i+k=s.length->aay (S24_5step 0) (s,(i:Int))=some (bif allF (fun i=>alnB (s.getD i 0)) i k then .inr () else .inl false):=
 acr (fun i=>(s,(i:Int))) s.length (fun i=>alnB (s.getD i 0)) (Sum.inl false:Bool⊕Unit) (Sum.inr ()) (fun i hi=>by
  have h1:=awb (s.getD i 0).toNat
  have h2:=an9 (s.getD i 0).toNat
  have h3:(((s.getD i 0).toNat:Int) != (95:Int))=!decide ((s.getD i 0).toNat=95):=neB _ 95
  have h4:decide (((s.getD i 0).toNat:Int)<(48:Int))=!decide (48<=(s.getD i 0).toNat):=by
   rw [<-decide_not,decide_eq_decide];omega
  have h5:decide (((s.getD i 0).toNat:Int)>(57:Int))=!decide ((s.getD i 0).toNat<=57):=by
   rw [<-decide_not,decide_eq_decide];omega
  simp only [S24_5step,S24_5,a4g,aab,hi,decide_true,Int.toNat_natCast,h1,h2,h3,h4,h5,Option.bind_some,abr (i:=i) (by omega),cond_true]
  unfold alnB digB
  rw [Bool.decide_and]
  cases lowB (s.getD i 0).toNat<;>cases capB (s.getD i 0).toNat<;>cases decide ((s.getD i 0).toNat=95)<;>cases decide (48<=(s.getD i 0).toNat)<;>cases decide ((s.getD i 0).toNat<=57)<;>rfl) (by
  simp only [S24_5step,S24_5,a4g,Nat.lt_irrefl,decide_false,cond_false])
theorem afk (s:List UInt8) (hs:s.length<=9223372036854770000):F24 0 s=some (aga s):=by
 unfold F24
 cases s with
 | nil=>rfl
 | cons c r=>
  have hl:=ar5 (c::r) hs r.length 1 (by simp [Nat.add_comm])
  rw [show ((1:Nat):Int)=(1:Int) from rfl] at hl
  have ha:allF (fun i=>alnB ((c::r).getD i 0)) 1 r.length=r.all alnB:=aql alnB 0 r [c]
  rw [ha] at hl
  have e0:(((c::r).length:Int)==(0:Int))=false:=Eq.trans (eqB (c::r).length 0) (by simp)
  have e1:decide (((c::r).length:Int)>(40:Int))=!decide (r.length+1<=40):=by
   rw [<-decide_not,decide_eq_decide];simp only [List.length_cons];omega
  have e2:aaa (0:Int) (c::r).length=true:=by rw [show (0:Int)=((0:Nat):Int) from rfl,aab];simp
  have h1:=awb c.toNat
  have h2:=an9 c.toNat
  have e3:((((c::r).getD (0:Int).toNat 0).toNat:Nat):Int)=(c.toNat:Int):=rfl
  rw [aga,letB]
  simp only [e0,e1,e2,e3,h1,h2,cond_false,aa9,hl]
  cases decide (r.length+1<=40)<;>cases lowB c.toNat<;>cases capB c.toNat<;>cases r.all alnB<;>rfl
theorem ar4 (s:List UInt8) (hs:s.length<=1048576):∀ (m i:Nat) (part:List UInt8),s.length-i<=m->i<=s.length->part.length<=i->
 ∃ y,aay (S14_6step 0) (s,part,(i:Int))=some y/\sumE (fun b=>some b) (fun p=>some (aga p)) y=some (aq9 part (s.drop i))/\∀ p,y=.inr p->p.length<=s.length:=by
 intro m
 induction m with
 | zero=>
  intro i part hm hi hp
  have hlt:¬i<s.length:=by omega
  rw [List.drop_eq_nil_of_le (by omega)]
  exact ⟨.inr part,aah (by simp only [S14_6step,S14_6,aat,hlt,decide_false,cond_false]),rfl,fun p h=>by cases h;omega⟩
 | succ m ih=>
  intro i part hm hi hp
  by_cases hlt:i<s.length
  ·rw [aea hlt 0,aq9]
   have hn:(((s.getD i 0).toNat:Int) != (46:Int))=!(s.getD i 0==46):=by
    exact (neB (s.getD i 0).toNat 46).trans (congrArg (!·) (a4w (s.getD i 0) 46))
   cases hb:(s.getD i 0==46) with
   | false=>
    obtain ⟨y,h1,h2,h3⟩:=ih (i+1) (part++[s.getD i 0]) (by omega) (by omega) (by simp;omega)
    refine ⟨y,?_,h2,h3⟩
    rw [<-h1]
    refine aa0 ?_
    have hsl:decide ((0:Int)<=(i:Int)/\(i:Int)<=((i+1:Nat):Int)/\((i+1:Nat):Int)<=(s.length:Int))=true:=decide_eq_true (by omega)
    have htk:(s.take (i+1)).drop i=[s.getD i 0]:=by
     rw [List.drop_take,show i+1-i=1 by omega,aea hlt 0];rfl
    have hst:decide (part.length+[s.getD i 0].length<=aad)=true:=decide_eq_true (by unfold aad;simp;omega)
    rw [hb] at hn
    simp only [S14_6step,S14_6,aat,hlt,decide_true,cond_true,aab,Int.toNat_natCast,hn,Bool.not_false,abr (i:=i) (by omega),hsl,htk,hst]
   | true=>
    rw [hb] at hn
    simp only [cond_true]
    cases hpp:aga part with
    | false=>
     refine ⟨.inl false,aah ?_,rfl,fun p h=>by cases h⟩
     simp only [S14_6step,S14_6,aat,hlt,decide_true,cond_true,aab,Int.toNat_natCast,hn,Bool.not_true,cond_false,afk part (by omega),hpp,Option.bind_some,Bool.not_false]
    | true=>
     obtain ⟨y,h1,h2,h3⟩:=ih (i+1) [] (by omega) (by omega) (by simp)
     refine ⟨y,?_,by rw [Bool.true_and];exact h2,h3⟩
     rw [<-h1]
     refine aa0 ?_
     simp only [S14_6step,S14_6,aat,hlt,decide_true,cond_true,aab,Int.toNat_natCast,hn,Bool.not_true,cond_false,afk part (by omega),hpp,Option.bind_some,abr (i:=i) (by omega)]
  ·rw [List.drop_eq_nil_of_le (by omega)]
   exact ⟨.inr part,aah (by simp only [S14_6step,S14_6,aat,hlt,decide_false,cond_false]),rfl,fun p h=>by cases h;omega⟩
theorem adi (s:List UInt8) (hs:s.length<=1048576):F14 0 s=some (aiv s):=by
 obtain ⟨y,h1,h2,h3⟩:=ar4 s hs s.length 0 [] (by omega) (by omega) (by simp)
 rw [List.drop_zero,azg] at h2
 unfold F14 aiv
 have e:decide ((s.length:Int)>(120:Int))=!decide (s.length<=120):=by rw [<-decide_not,decide_eq_decide];omega
 rw [aa9,show (0:Int)=((0:Nat):Int) from rfl,h1,e,Option.bind_some]
 cases decide (s.length<=120) with
 | false=>rfl
 | true=>
  rw [Bool.true_and,<-h2]
  cases y with
  | inl b=>rfl
  | inr p=>
   simp only [Bool.not_true,cond_false,ab0]
   rw [afk p (by have:=h3 p rfl;omega)];rfl
noncomputable def ahp (s:List UInt8):Bool:=(F138 0 s).getD false
theorem ahk (s:List UInt8):F138 0 s=some (ahp s):=by
 unfold ahp
 simp only [F138,a2c,Option.getD_some]
noncomputable def ajo (s:List UInt8):Bool:=aga s&&!ahp s
theorem agz (s:List UInt8) (hs:s.length<=9223372036854770000):F147 0 s=some (ajo s):=by
 unfold F147 ajo
 rw [afk s hs,Option.bind_some,ahk]
 cases aga s<;>rfl
noncomputable def defP (s:List UInt8):Bool:=aiv s&&(abc 46 s).all fun x=>!ahp x
theorem ap5 (s:List UInt8) (hs:s.length<=1048576):∀ (k:Nat),k<=s.length->(46:UInt8)∉s.drop k->
 ∃ y,aay (S137_3step 0) (s,(k:Int)-1)=some y/\((∃ up last,y=.inl (up,last)/\s=up++46::last/\(46:UInt8)∉last)∨(y=.inr s/\(46:UInt8)∉s)):=by
 intro k
 induction k with
 | zero=>
  intro _ hn
  refine ⟨.inr s,aah ?_,Or.inr ⟨rfl,by simpa using hn⟩⟩
  have:decide (((0:Nat):Int)-1≥(0:Int))=false:=decide_eq_false (by omega)
  simp only [S137_3step,S137_3,this,cond_false]
 | succ k ih=>
  intro hk hn
  have e:((k+1:Nat):Int)-1=(k:Int):=by omega
  have hlt:k<s.length:=by omega
  have hge:decide ((k:Int)≥(0:Int))=true:=decide_eq_true (by omega)
  have hq:(((s.getD k 0).toNat:Int)==(46:Int))=(s.getD k 0==46):=by
   exact (eqB (s.getD k 0).toNat 46).trans (a4w (s.getD k 0) 46)
  rw [e]
  cases hb:(s.getD k 0==46) with
  | true=>
   have hb':s.getD k 0=46:=by simpa using hb
   have hs1:decide ((0:Int)<=(0:Int)/\(0:Int)<=(k:Int)/\(k:Int)<=(s.length:Int))=true:=decide_eq_true (by omega)
   have hs2:decide ((0:Int)<=((k+1:Nat):Int)/\((k+1:Nat):Int)<=(s.length:Int)/\(s.length:Int)<=(s.length:Int))=true:=decide_eq_true (by omega)
   refine ⟨.inl (s.take k,s.drop (k+1)),aah ?_,Or.inl ⟨_,_,rfl,?_,hn⟩⟩
   ·rw [hb] at hq
    simp only [S137_3step,S137_3,hge,cond_true,aab,hlt,decide_true,Int.toNat_natCast,hq,hs1,abr (i:=k) (by omega),hs2,List.take_length]
    rfl
   ·rw [<-hb',<-aea hlt 0,List.take_append_drop]
  | false=>
   have hb':s.getD k 0≠46:=by simpa using hb
   obtain ⟨y,h1,h2⟩:=ih (by omega) (by rw [aea hlt 0];simp only [List.mem_cons,not_or];exact ⟨fun e=>hb' e.symm,hn⟩)
   refine ⟨y,?_,h2⟩
   rw [<-h1]
   refine aa0 ?_
   rw [hb] at hq
   have hw:IntKind.wrap .i64 ((k:Int)-(1:Int))=(k:Int)-1:=a1p (by omega) (by omega)
   simp only [S137_3step,S137_3,hge,cond_true,aab,hlt,decide_true,Int.toNat_natCast,hq,cond_false,hw]
theorem ams (s:List UInt8) (hs:s.length<=1048576):∃ up last,F137 0 s=some (up,last)/\((s=up++46::last/\(46:UInt8)∉last)∨(up=[]/\last=s/\(46:UInt8)∉s)):=by
 obtain ⟨y,h1,h2⟩:=ap5 s hs s.length (by omega) (by simp)
 unfold F137
 have hw:IntKind.wrap .i64 ((s.length:Int)-(1:Int))=(s.length:Int)-1:=a1p (by omega) (by omega)
 rw [aa9,hw,h1]
 rcases h2 with ⟨up,last,rfl,h2,h3⟩ | ⟨rfl,h3⟩
 ·exact ⟨up,last,rfl,Or.inl ⟨h2,h3⟩⟩
 ·exact ⟨[],s,rfl,Or.inr ⟨rfl,rfl,h3⟩⟩
theorem aqy:∀ (m:Nat) (s:List UInt8),s.length<=m->s.length<=1048576->(s=[]∨∀ p,p∈abc 46 s->p≠[])->
 aay (S146_4step 0) s=some (bif s==[]||(abc 46 s).all fun x=>!ahp x then .inr () else .inl false):=by
 intro m
 induction m with
 | zero=>
  intro s hm _ _
  have:s=[]:=List.eq_nil_of_length_eq_zero (by omega)
  subst this
  exact aah rfl
 | succ m ih=>
  intro s hm hs hp
  cases s with
  | nil=>exact aah rfl
  | cons c r=>
   have hne:((c::r)==([]:List UInt8))=false:=rfl
   obtain ⟨up,last,h1,h2⟩:=ams (c::r) hs
   have hp':∀ p,p∈abc 46 (c::r)->p≠[]:=by
    rcases hp with h | h
    ·cases h
    ·exact h
   have hstep:S146_4step 0 (c::r)=some (bif ahp last then .inr (.inl false) else .inl up):=by
    simp only [S146_4step,S146_4,hne,Bool.not_false,cond_true,h1,Option.bind_some,ahk]
    cases ahp last<;>rfl
   rcases h2 with ⟨h2,h3⟩ | ⟨rfl,rfl,h3⟩
   ·have hlen:up.length<(c::r).length:=by rw [h2];simp
    have hsp:abc 46 (c::r)=abc 46 up++[last]:=by rw [h2,aop,ajr _ _ h3]
    have hup:up≠[]:=by
     intro e
     exact hp' [] (by rw [hsp,e];simp [abc]) rfl
    have hupb:(up==([]:List UInt8))=false:=by simpa using hup
    have hpu:∀ p,p∈abc 46 up->p≠[]:=fun p h=>hp' p (by rw [hsp];simp [h])
    have hi:=ih up (by omega) (by omega) (Or.inr hpu)
    rw [hsp,List.all_append,hne]
    rw [hupb] at hi
    cases hw:ahp last with
    | true=>
     rw [hw] at hstep
     rw [aah hstep]
     simp [hw]
    | false=>
     rw [hw] at hstep
     rw [aa0 hstep,hi]
     simp [hw]
   ·rw [ajr _ _ h3,hne]
    cases hw:ahp (c::r) with
    | true=>
     rw [hw] at hstep
     rw [aah hstep]
     simp [hw]
    | false=>
     rw [hw] at hstep
     rw [aa0 hstep,aah (y:=.inr ()) rfl]
     simp [hw]
theorem av4 {s:List UInt8} (h:aga s=true):s≠[]:=by
 intro e;subst e;simp [aga] at h
theorem ag7 (s:List UInt8) (hs:s.length<=1048576):F146 0 s=some (defP s):=by
 unfold F146 defP
 rw [adi s hs,Option.bind_some]
 cases hf:aiv s with
 | false=>rfl
 | true=>
  have hparts:(abc 46 s).all aga=true:=by
   unfold aiv at hf
   simp only [Bool.and_eq_true] at hf
   exact hf.2
  have hn:s≠[]:=by
   intro e;subst e
   simp [abc,aga] at hparts
  have hnb:(s==([]:List UInt8))=false:=by simpa using hn
  have h:=aqy s.length s (by omega) hs (Or.inr fun p hp=>av4 (List.all_eq_true.1 hparts p hp))
  simp only [Bool.not_true,cond_false,aa9]
  rw [h,hnb]
  cases (abc 46 s).all fun x=>!ahp x<;>rfl
end Go.Ab
