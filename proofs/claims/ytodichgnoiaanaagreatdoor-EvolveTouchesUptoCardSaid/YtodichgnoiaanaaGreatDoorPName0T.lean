/- Names: parts, full names, keywords; loops that look for the first. -/
import Derived.Test.YtodichgnoiaanaaGreatDoorPUtfT
set_option linter.unusedVariables false
set_option linter.unusedSimpArgs false
set_option linter.unnecessarySimpa false
namespace Go.Ab
open Go
theorem as4 {o:Type} (f:o->Bool) (d:o):∀ (xs h:List o),allF (λi=>f ((h++xs).getD i d)) h.length xs.length=xs.all f:=by
 intro xs;induction xs with
 | nil=>intro h;rfl
 | cons x r H=>
  intro h;simp only [Ax,allF,Bi];have z:(h++x::r).getD h.length d=x:=by simp [List.getD]
  rw [z];have:=H (h++[x]);grind
theorem bbp {h:Type} (f:h->Bool) (d:h) (xs:List h):allF (λi=>f (xs.getD i d)) 0 xs.length=xs.all f:=as4 f d xs []
theorem aod {M Z J o:Type}{step:M->Option (M⊕Z)} (z:Nat->o->M) (h:o->Z) (xs:List J) (d:J) (f:o->J->o) (I:Nat->o->Prop)
 (H:∀ i b,i<xs.length->I i b->step (z i b)=some (.inl (z (i+1) (f b (xs.getD i d))))/\I (i+1) (f b (xs.getD i d))) (O:∀ b,I xs.length b->step (z xs.length b)=some (.inr (h b))):
 ∀ k i b,i+k=xs.length->I i b->aa3 step (z i b)=some (h ((xs.drop i).foldl f b))/\I xs.length ((xs.drop i).foldl f b):=by
 intro k
 induction k with
 | zero=>grind [List.drop_length,aai]
 | succ k ih=>
  intro i b hi hI
  have aa:i<xs.length:=by omega
  grind [aao,abg]
def lowB (b:Nat):Bool:=decide (97<=b/\b<=122)
def capB (b:Nat):Bool:=decide (65<=b/\b<=90)
def digB (b:Nat):Bool:=decide (48<=b/\b<=57)
def letB (b:UInt8):Bool:=lowB b.toNat||capB b.toNat
def alnB (b:UInt8):Bool:=lowB b.toNat||capB b.toNat||digB b.toNat||decide (b.toNat=95)
theorem bci {b:UInt8} (h:letB b=true):alnB b=true:=by grind [letB,alnB]
def aeh (s:Bo):Bool:=
 match s with
 | []=>false
 | c::r=>decide (r.length+1<=40)&&letB c&&r.all alnB
def ams (s:Bo):Bool:=decide (s.length<=120)&&(aa8 46 s).all aeh
def avj (s:Bo):Bool:=
 match s with
 | []=>ams []
 | c::r=>bif c==46 then ams r else ams (c::r)
theorem a06 (c:UInt8) (b:Bo):∀ a,aa8 c (a++c::b)=aa8 c a++aa8 c b:=by
 intro a;induction a with
 | nil=>simp [aa8]
 | cons x a o=>
  simp only [Bl,aa8];cases h:(x==c) with
  | true=>grind
  | false=>simp only [Ah,o];grind [akz,aa8,absurd]
theorem au9 (c:UInt8):∀ b,c∉b->aa8 c b=[b]:=by
 intro b;induction b with
 | nil=>intro _;rfl
 | cons x b z=>
  intro h;simp only [List.mem_cons,not_or] at h;have o:(x==c)=false:=by grind
  simp only [aa8,o,Ah,z h.2]
def atz:Bo->Bo->Bool
 | part,[]=>aeh part
 | part,b::r=>bif b==46 then aeh part&&atz [] r else atz (part++[b]) r
def glue (h:Bo):List Bo->List Bo
 | []=>[h]
 | x::q=>(h++x)::q
theorem a8g:∀ (r o:Bo),atz o r=(glue o (aa8 46 r)).all aeh:=by
 intro r;induction r with
 | nil=>grind [atz,aa8,glue]
 | cons b r z=>
  intro o;simp only [atz,aa8];cases h:(b==46) with
  | true=>simp only [Af,glue,List.append_nil,Bi,z];grind [akz,aa8,absurd,glue]
  | false=>simp only [Ah,z];grind [akz,aa8,absurd,glue]
theorem a3e (r:Bo):atz [] r=(aa8 46 r).all aeh:=by
 rw [a8g];have:=akz 46 r;cases h:aa8 46 r with
 | nil=>grind
 | cons x q=>simp [glue]
end Go.Ab
namespace Go.Ab
open Go
set_option maxRecDepth 100000
theorem a1g {i:Nat} (h:i<=9223372036854775000):IntKind.wrap .i64 ((i:Int)+1)=((i+1:Nat):Int):=avp (by omega)
theorem geI (a b:Nat):decide ((a:Int)>=(b:Int))=decide (b<=a):=by grind
theorem leI (a b:Nat):decide ((a:Int)<=(b:Int))=decide (a<=b):=by grind
theorem neB (a b:Nat):((a:Int) != (b:Int))=!decide (a=b):=by grind
theorem eqB (a b:Nat):((a:Int)==(b:Int))=decide (a=b):=by grind
theorem bbv (b c:UInt8):decide (b.toNat=c.toNat)=(b==c):=by grind [UInt8.toNat_inj,decide_eq_false]
def clsN (b:Nat):Int:=bif lowB b then 1 else bif capB b then 2 else bif digB b then 3 else bif decide (b=95) then 4 else 0
theorem ayc (b:Nat):F231 0 (b:Int)=some (clsN b):=by unfold F231 clsN;rw [show (97:Int)=((97:Nat):Int) from rfl,show (122:Int)=((122:Nat):Int) from rfl,show (65:Int)=((65:Nat):Int) from rfl,show (90:Int)=((90:Nat):Int) from rfl,show (48:Int)=((48:Nat):Int) from rfl,show (57:Int)=((57:Nat):Int) from rfl,show (95:Int)=((95:Nat):Int) from rfl];grind [geI,leI,eqB,lowB,capB,digB,Bool.decide_and,decide]
theorem a7t {b:Nat} (h:128<=b):clsN b=0:=by have o:lowB b=false:=An (by omega);have z:capB b=false:=An (by omega);have H:digB b=false:=An (by omega);have I:decide (b=95)=false:=An (by omega);simp only [clsN,o,z,H,I,Ah]
theorem cls0 (b:UInt8):(clsN b.toNat==0)=!alnB b:=by grind [clsN,alnB,lowB,capB,digB,decide]
theorem bdn (b:UInt8):(bif (clsN b.toNat != 1) then (clsN b.toNat != 2) else false)=!letB b:=by grind [clsN,letB,lowB,capB,digB,decide]
def okAt (i:Nat) (b:UInt8):Bool:=alnB b&&(!decide (i=0)||letB b)
def aqh:Nat->Bo->Bool
 | _,[]=>true
 | i,b::r=>okAt i b&&aqh (i+1) r
theorem a0u:∀ (r:Bo) (i:Nat),aqh (i+1) r=r.all alnB:=by
 intro r;induction r with
 | nil=>intro i;rfl
 | cons b r h=>grind [aqh,okAt,decide_eq_false]
theorem a5h (s:Bo):∀ (m i:Nat),s.length-i<=m->i<=s.length->∃ z,aa3 (S215_3step 0) (s,(),s,(i:Int))=some (bif aqh i (s.drop i) then .inr (s,z) else .inl (false,z)):=by
 intro m;induction m with
 | zero=>
  intro i hm Z;have h:¬i<s.length:=by omega
  rw [Be (by omega)];exact ⟨_,aai (by simp only [S215_3step,S215_3,Ai,h,decide_false,Ah];rfl)⟩
 | succ m ih=>
  intro i hm Z;by_cases h:i<s.length
  ·have I:((i:Int)==(0:Int))=decide (i=0):=eqB i 0;rw [abg h 0,aqh];by_cases M:byteAt s i<128
   ·have J:=afh s i M;have H:F231 0 (byteAt s i:Int)=some (clsN (s.getD i 0).toNat):=ayc _;cases o:okAt i (s.getD i 0) with
    | true=>obtain ⟨z,hz⟩:=ih (i+1) (by omega) (by omega);refine ⟨z,?_⟩;rw [Bool.true_and,<-hz];refine aao ?_;unfold okAt at o;simp only [S215_3step,S215_3,Ai,h,decide_true,Af,ahp,J,H,Aa,cls0,I];grind [alnB,decide,bdn]
    | false=>refine ⟨(s,((i+1:Nat):Int)),aai ?_⟩;unfold okAt at o;simp only [S215_3step,S215_3,Ai,h,decide_true,Af,ahp,J,H,Aa,cls0,I,Bool.false_and,Ah];grind [alnB,decide,bdn]
   ·have O:=anw s i (by omega);have H:=ayc (aan s i).1;rw [a7t O] at H;have o:okAt i (s.getD i 0)=false:=by
     unfold okAt alnB lowB capB digB;have:byteAt s i=(s.getD i 0).toNat:=rfl;grind
    refine ⟨(s,((i+(aan s i).2:Nat):Int)),aai ?_⟩;rw [o];simp only [S215_3step,S215_3,Ai,h,decide_true,Af,ahp,H,Aa,Bool.false_and,Ah];rfl
  grind
theorem at5 (s:Bo):F215 0 s=some (aeh s):=by
 obtain ⟨z,I⟩:=a5h s s.length 0 (by omega) (by omega);unfold F215;rw [aec,I,Ap];cases s with
 | nil=>rfl
 | cons c r=>
  rw [aqh,a0u];have h:decide (((c::r).length:Int)>=(1:Int))=true:=Ag (by grind);have o:decide (((c::r).length:Int)<=(40:Int))=decide (r.length+1<=40):=leI _ 40;have H:okAt 0 c=letB c:=by grind [okAt,letB,bci]
  rw [H,aeh];cases letB c<;>cases r.all alnB<;>simp only [Bool.and_false,Bool.and_true,Bool.false_and,Bool.true_and,Af,Ah,Aa,baj,ana,h,o]
theorem ay9 (b:Nat):F150 0 (b:Int)=some (lowB b):=by unfold F150 lowB;rw [show (97:Int)=((97:Nat):Int) from rfl,show (122:Int)=((122:Nat):Int) from rfl];grind [geI,leI,Bool.decide_and,decide]
theorem aqb (b:Nat):F151 0 (b:Int)=some (capB b):=by unfold F151 capB;rw [show (65:Int)=((65:Nat):Int) from rfl,show (90:Int)=((90:Nat):Int) from rfl];grind [geI,leI,Bool.decide_and,decide]
theorem auv (s:Bo) (M:s.length<=9223372036854770000):∀ k i,i+k=s.length->aa3 (S113_5step 0) (s,(i:Int))=some (bif allF (λi=>alnB (s.getD i 0)) i k then .inr () else .inl false):=
 aoc (λi=>(s,(i:Int))) s.length (λi=>alnB (s.getD i 0)) (Sum.inl false:Bool⊕Unit) (Sum.inr ()) (λi J=>by
  have h:=ay9 (s.getD i 0).toNat;have o:=aqb (s.getD i 0).toNat;have z:(((s.getD i 0).toNat:Int) != (95:Int))=!decide ((s.getD i 0).toNat=95):=neB _ 95;have H:decide (((s.getD i 0).toNat:Int)<(48:Int))=!decide (48<=(s.getD i 0).toNat):=by grind
  have I:decide (((s.getD i 0).toNat:Int)>(57:Int))=!decide ((s.getD i 0).toNat<=57):=by grind
  simp only [S113_5step,S113_5,ayw,aaa,J,decide_true,Ai,h,o,z,H,I,Aa,a1g (i:=i) (by omega),Af];unfold alnB digB;rw [Bool.decide_and];cases lowB (s.getD i 0).toNat<;>cases capB (s.getD i 0).toNat<;>cases decide ((s.getD i 0).toNat=95)<;>cases decide (48<=(s.getD i 0).toNat)<;>cases decide ((s.getD i 0).toNat<=57)<;>rfl) (by
  simp only [S113_5step,S113_5,ayw,Nat.lt_irrefl,decide_false,Ah])
theorem agl (s:Bo) (Z:s.length<=9223372036854770000):F113 0 s=some (aeh s):=by
 unfold F113;cases s with
 | nil=>rfl
 | cons c r=>
  have h:=auv (c::r) Z r.length 1 (by grind);rw [show ((1:Nat):Int)=(1:Int) from rfl] at h;have O:allF (λi=>alnB ((c::r).getD i 0)) 1 r.length=r.all alnB:=as4 alnB 0 r [c];rw [O] at h;have o:(((c::r).length:Int)==(0:Int))=false:=Eq.trans (eqB (c::r).length 0) (by simp);have z:decide (((c::r).length:Int)>(40:Int))=!decide (r.length+1<=40):=by grind
  have H:aab (0:Int) (c::r).length=true:=by rw [show (0:Int)=((0:Nat):Int) from rfl,aaa];simp
  have J:=ay9 c.toNat;have M:=aqb c.toNat;have I:((((c::r).getD (0:Int).toNat 0).toNat:Nat):Int)=(c.toNat:Int):=rfl;rw [aeh,letB];simp only [o,z,H,I,J,M,Ah,aec,h];cases decide (r.length+1<=40)<;>cases lowB c.toNat<;>cases capB c.toNat<;>cases r.all alnB<;>rfl
theorem a3f (s:Bo) (xs:List Bo) (H:xs.length<=9223372036854770000):aa3 (S199_3step 0) (s,xs.map PV.str,((xs.map PV.str).length:Int),((0:Nat):Int))=some (bif xs.all aeh then .inr s else .inl false):=by
 have h:=aoc (step:=S199_3step 0) (λi=>(s,xs.map PV.str,((xs.map PV.str).length:Int),(i:Int))) (xs.map PV.str).length (λi=>aeh ((xs.map PV.str).getD i .bad).asStr) (Sum.inl false:Bool⊕Bo) (Sum.inr s) (λi o=>by
  have z:i<xs.length:=by simpa using o
  simp only [S199_3step,S199_3,ayw,aaa,o,decide_true,Af,Ai,at5,Aa,a1g (i:=i) (by omega)];grind) (by
  simp only [S199_3step,S199_3,ayw,Nat.lt_irrefl,decide_false,Ah]) (xs.map PV.str).length 0 (by omega)
 rw [bbp (λx:PV=>aeh x.asStr),List.all_map] at h;exact h
theorem a07 (c:UInt8):∀ s,(aa8 c s).length<=s.length+1:=by
 intro s;induction s with
 | nil=>simp [aa8]
 | cons b r h=>grind [aa8]
theorem a4u (s:Bo) (h:s.length<=1048576):ap2 0 s ([46]:Bo)=some ((aa8 46 s).map PV.str):=by grind [ap2,Nat.blt,Nat.blt_eq]
theorem at4 (s:Bo) (h:s.length<=1048576):F199 0 s=some (ams s):=by have o:=a07 46 s;unfold F199 ams;have e:decide ((s.length:Int)<=(120:Int))=decide (s.length<=120):=leI _ 120;rw [a4u s h,Aa,aec,show (0:Int)=((0:Nat):Int) from rfl,a3f s _ (by omega)];grind [aa8,aeh,sumE]
theorem auu (s:Bo) (hs:s.length<=1048576):∀ (m i:Nat) (o:Bo),s.length-i<=m->i<=s.length->o.length<=i->
 ∃ y,aa3 (S110_6step 0) (s,o,(i:Int))=some y/\sumE (λb=>some b) (λp=>some (aeh p)) y=some (atz o (s.drop i))/\∀ p,y=.inr p->p.length<=s.length:=by
 intro m
 induction m with
 | zero=>
  intro i o hm hi hp
  have z:¬i<s.length:=by omega
  rw [Be (by omega)]
  exact ⟨.inr o,aai (by simp only [S110_6step,S110_6,afq,z,decide_false,Ah]),rfl,λp h=>by cases h;omega⟩
 | succ m ih=>
  intro i o hm hi hp
  by_cases z:i<s.length
  ·rw [abg z 0,atz];have H:(((s.getD i 0).toNat:Int) != (46:Int))=!(s.getD i 0==46):=by
    exact (neB (s.getD i 0).toNat 46).trans (congrArg (!·) (bbv (s.getD i 0) 46))
   cases hb:(s.getD i 0==46) with
   | false=>
    obtain ⟨y,J,h2,M⟩:=ih (i+1) (o++[s.getD i 0]) (by omega) (by omega) (by simp;omega);refine ⟨y,?_,h2,M⟩;rw [<-J];refine aao ?_;have O:decide ((0:Int)<=(i:Int)/\(i:Int)<=((i+1:Nat):Int)/\((i+1:Nat):Int)<=(s.length:Int))=true:=Ag (by omega);have aa:(s.take (i+1)).drop i=[s.getD i 0]:=by grind [List.drop_take,abg]
    have Z:decide (o.length+[s.getD i 0].length<=aam)=true:=Ag (by grind [aam]);rw [hb] at H;simp only [S110_6step,S110_6,afq,z,decide_true,Af,aaa,Ai,H,Av,a1g (i:=i) (by omega),O,aa,Z]
   | true=>
    rw [hb] at H;simp only [Af];cases I:aeh o with
    | false=>refine ⟨.inl false,aai ?_,rfl,λp h=>by cases h⟩;simp only [S110_6step,S110_6,afq,z,decide_true,Af,aaa,Ai,H,Ay,Ah,agl o (by omega),I,Aa,Av]
    | true=>obtain ⟨y,J,h2,M⟩:=ih (i+1) [] (by omega) (by omega) (by simp);refine ⟨y,?_,by grind,M⟩;rw [<-J];refine aao ?_;simp only [S110_6step,S110_6,afq,z,decide_true,Af,aaa,Ai,H,Ay,Ah,agl o (by omega),I,Aa,a1g (i:=i) (by omega)]
  grind
theorem aiu (s:Bo) (z:s.length<=1048576):F110 0 s=some (ams s):=by
 obtain ⟨y,o,h,H⟩:=auu s z s.length 0 [] (by omega) (by omega) (by simp);rw [Ap,a3e] at h;unfold F110 ams;have e:decide ((s.length:Int)>(120:Int))=!decide (s.length<=120):=by grind
 rw [aec,show (0:Int)=((0:Nat):Int) from rfl,o,e,Aa];cases decide (s.length<=120) with
 | false=>rfl
 | true=>
  rw [Bool.true_and,<-h];cases y with
  | inl b=>rfl
  | inr p=>simp only [Ay,Ah,ana];rw [agl p (by grind)];rfl
noncomputable def apy (s:Bo):Bool:=(F112 0 s).getD false
theorem aiv (s:Bo):F112 0 s=some (apy s):=by unfold apy;simp only [F112,a7w,Option.getD_some]
theorem bc6 (s:Bo):F232 0 s=some (apy s):=by rw [<-aiv];rfl
noncomputable def alr (s:Bo):Bool:=aeh s&&!apy s
theorem a0f (s:Bo):F217 0 s=some (alr s):=by grind [F217,alr,at5,bc6,aeh]
theorem a5y (s:Bo) (h:s.length<=9223372036854770000):F208 0 s=some (alr s):=by grind [F208,alr,agl,aiv,aeh]
noncomputable def defP (s:Bo):Bool:=ams s&&(aa8 46 s).all λx=>!apy x
theorem ase (s:Bo) (hs:s.length<=1048576):∀ (k:Nat),k<=s.length->(46:UInt8)∉s.drop k->
 ∃ y,aa3 (S111_3step 0) (s,(k:Int)-1)=some y/\((∃ up h,y=.inl (up,h)/\s=up++46::h/\(46:UInt8)∉h)\/(y=.inr s/\(46:UInt8)∉s)):=by
 intro k
 induction k with
 | zero=>
  intro _ M
  refine ⟨.inr s,aai ?_,Or.inr ⟨rfl,by simpa using M⟩⟩
  have:decide (((0:Nat):Int)-1>=(0:Int))=false:=An (by omega)
  simp only [S111_3step,S111_3,this,Ah]
 | succ k ih=>
  intro hk M
  have e:((k+1:Nat):Int)-1=(k:Int):=by omega
  have o:k<s.length:=by omega
  have z:decide ((k:Int)>=(0:Int))=true:=Ag (by omega)
  have I:(((s.getD k 0).toNat:Int)==(46:Int))=(s.getD k 0==46):=by exact (eqB (s.getD k 0).toNat 46).trans (bbv (s.getD k 0) 46)
  rw [e]
  cases H:(s.getD k 0==46) with
  | true=>
   have J:s.getD k 0=46:=by simpa using H
   have O:decide ((0:Int)<=(0:Int)/\(0:Int)<=(k:Int)/\(k:Int)<=(s.length:Int))=true:=Ag (by omega)
   have Z:decide ((0:Int)<=((k+1:Nat):Int)/\((k+1:Nat):Int)<=(s.length:Int)/\(s.length:Int)<=(s.length:Int))=true:=Ag (by omega)
   refine ⟨.inl (s.take k,s.drop (k+1)),aai ?_,Or.inl ⟨_,_,rfl,?_,M⟩⟩
   ·rw [H] at I;simp only [S111_3step,S111_3,z,Af,aaa,o,decide_true,Ai,I,O,a1g (i:=k) (by omega),Z,List.take_length];rfl
   grind [abg,List.take_append_drop]
  | false=>
   have J:s.getD k 0≠46:=by simpa using H
   obtain ⟨y,h1,h2⟩:=ih (by omega) (by rw [abg o 0];grind)
   refine ⟨y,?_,h2⟩
   rw [<-h1]
   refine aao ?_
   rw [H] at I
   have hw:IntKind.wrap .i64 ((k:Int)-(1:Int))=(k:Int)-1:=bbk (by omega) (by omega)
   simp only [S111_3step,S111_3,z,Af,aaa,o,decide_true,Ai,I,Ah,hw]
theorem axa (s:Bo) (J:s.length<=1048576):∃ o h,F111 0 s=some (o,h)/\((s=o++46::h/\(46:UInt8)∉h)\/(o=[]/\h=s/\(46:UInt8)∉s)):=by
 obtain ⟨y,I,z⟩:=ase s J s.length (by omega) (by simp);unfold F111;have M:IntKind.wrap .i64 ((s.length:Int)-(1:Int))=(s.length:Int)-1:=bbk (by omega) (by omega);rw [aec,M,I];rcases z with ⟨o,h,rfl,z,H⟩ | ⟨rfl,H⟩
 ·exact ⟨o,h,rfl,Or.inl ⟨z,H⟩⟩
 ·exact ⟨[],s,rfl,Or.inr ⟨rfl,rfl,H⟩⟩
theorem a9i {s:Bo} (h:aeh s=true):s≠[]:=by grind [aeh]
end Go.Ab
