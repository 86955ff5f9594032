/- Names: parts, full names, keywords; loops that look for the first. -/
import Derived.Test.YthokbeimbdnnoaaGreatDoorPUtfT
set_option linter.unusedVariables false
set_option linter.unusedSimpArgs false
set_option linter.unnecessarySimpa false
namespace Go.Ab
open Go
theorem ap0 {o:Type} (f:o->Bool) (d:o):∀ (xs h:List o),allF (λi=>f ((h++xs).getD i d)) h.length xs.length=xs.all f:=by
 intro xs;induction xs with
 | nil=>intro h;rfl
 | cons x r H=>
  intro h;simp only [Am,allF,Bj];have z:(h++x::r).getD h.length d=x:=by simp [List.getD]
  rw [z];have:=H (h++[x]);rw [show h++x::r=h++[x]++r by simp,<-this];simp
theorem a4s {h:Type} (f:h->Bool) (d:h) (xs:List h):allF (λi=>f (xs.getD i d)) 0 xs.length=xs.all f:=ap0 f d xs []
theorem al2 {σ τ Z J:Type}{step:σ->Option (σ⊕τ)} (O:Nat->J->σ) (H:J->τ) (xs:List Z) (d:Z) (f:J->Z->J) (I:Nat->J->Prop)
 (h:∀ i b,i<xs.length->I i b->step (O i b)=some (.inl (O (i+1) (f b (xs.getD i d))))/\I (i+1) (f b (xs.getD i d))) (o:∀ b,I xs.length b->step (O xs.length b)=some (.inr (H b))):
 ∀ k i b,i+k=xs.length->I i b->aba step (O i b)=some (H ((xs.drop i).foldl f b))/\I xs.length ((xs.drop i).foldl f b):=by
 intro k
 induction k with
 | zero=>
  intro i b hi M
  have:i=xs.length:=by omega
  subst this
  rw [List.drop_length]
  exact ⟨aai (o b M),M⟩
 | succ k ih=>
  intro i b hi M
  have z:i<xs.length:=by omega
  obtain ⟨h1,h2⟩:=h i b z M
  rw [aat h1,abc z d,List.foldl_cons]
  exact ih (i+1) _ (by omega) h2
def lowB (b:Nat):Bool:=decide (97<=b/\b<=122)
def capB (b:Nat):Bool:=decide (65<=b/\b<=90)
def digB (b:Nat):Bool:=decide (48<=b/\b<=57)
def letB (b:UInt8):Bool:=lowB b.toNat||capB b.toNat
def alnB (b:UInt8):Bool:=lowB b.toNat||capB b.toNat||digB b.toNat||decide (b.toNat=95)
theorem a5x {b:UInt8} (h:letB b=true):alnB b=true:=by unfold letB at h;unfold alnB;rw [h];rfl
def adz (s:Bq):Bool:=
 match s with
 | []=>false
 | c::r=>decide (r.length+1<=40)&&letB c&&r.all alnB
def akp (s:Bq):Bool:=decide (s.length<=120)&&(aa6 46 s).all adz
def aru (s:Bq):Bool:=
 match s with
 | []=>akp []
 | c::r=>bif c==46 then akp r else akp (c::r)
theorem aws (c:UInt8) (b:Bq):∀ a,aa6 c (a++c::b)=aa6 c a++aa6 c b:=by
 intro a;induction a with
 | nil=>simp [aa6]
 | cons x a o=>
  simp only [Bm,aa6];cases h:(x==c) with
  | true=>simp only [Af,o,Bm]
  | false=>
   simp only [Ah,o];have:=ajg c a;cases z:aa6 c a with
   | nil=>exact absurd z this
   | cons y q=>simp
theorem arm (c:UInt8):∀ b,c∉b->aa6 c b=[b]:=by
 intro b;induction b with
 | nil=>intro _;rfl
 | cons x b z=>
  intro h;simp only [Bl,not_or] at h;have o:(x==c)=false:=by rw [Bn];exact λe=>h.1 e.symm
  simp only [aa6,o,Ah,z h.2]
def aqn:Bq->Bq->Bool
 | part,[]=>adz part
 | part,b::r=>bif b==46 then adz part&&aqn [] r else aqn (part++[b]) r
def glue (h:Bq):List Bq->List Bq
 | []=>[h]
 | x::q=>(h++x)::q
theorem a1h:∀ (r o:Bq),aqn o r=(glue o (aa6 46 r)).all adz:=by
 intro r;induction r with
 | nil=>intro o;simp [aqn,aa6,glue]
 | cons b r H=>
  intro o;simp only [aqn,aa6];cases h:(b==46) with
  | true=>
   simp only [Af,glue,List.append_nil,Bj,H];have:=ajg 46 r;cases z:aa6 46 r with
   | nil=>exact absurd z this
   | cons x q=>simp [glue]
  | false=>
   simp only [Ah,H];have:=ajg 46 r;cases z:aa6 46 r with
   | nil=>exact absurd z this
   | cons x q=>simp [glue]
theorem ax7 (r:Bq):aqn [] r=(aa6 46 r).all adz:=by
 rw [a1h];have:=ajg 46 r;cases h:aa6 46 r with
 | nil=>exact absurd h this
 | cons x q=>simp [glue]
end Go.Ab
namespace Go.Ab
open Go
set_option maxRecDepth 100000
theorem aw0 {i:Nat} (h:i<=9223372036854775000):IntKind.wrap .i64 ((i:Int)+1)=((i+1:Nat):Int):=arz (by omega)
theorem geI (a b:Nat):decide ((a:Int)>=(b:Int))=decide (b<=a):=by grind
theorem leI (a b:Nat):decide ((a:Int)<=(b:Int))=decide (a<=b):=by grind
theorem neB (a b:Nat):((a:Int) != (b:Int))=!decide (a=b):=by grind
theorem eqB (a b:Nat):((a:Int)==(b:Int))=decide (a=b):=by grind
theorem a4y (b c:UInt8):decide (b.toNat=c.toNat)=(b==c):=by grind [UInt8.toNat_inj,decide_eq_false]
def clsN (b:Nat):Int:=bif lowB b then 1 else bif capB b then 2 else bif digB b then 3 else bif decide (b=95) then 4 else 0
theorem aub (b:Nat):F315 0 (b:Int)=some (clsN b):=by unfold F315 clsN;rw [show (97:Int)=((97:Nat):Int) from rfl,show (122:Int)=((122:Nat):Int) from rfl,show (65:Int)=((65:Nat):Int) from rfl,show (90:Int)=((90:Nat):Int) from rfl,show (48:Int)=((48:Nat):Int) from rfl,show (57:Int)=((57:Nat):Int) from rfl,show (95:Int)=((95:Nat):Int) from rfl];grind [geI,leI,eqB,lowB,capB,digB,Bool.decide_and,decide]
theorem a02 {b:Nat} (h:128<=b):clsN b=0:=by have o:lowB b=false:=An (by omega);have z:capB b=false:=An (by omega);have H:digB b=false:=An (by omega);have I:decide (b=95)=false:=An (by omega);simp only [clsN,o,z,H,I,Ah]
theorem cls0 (b:UInt8):(clsN b.toNat==0)=!alnB b:=by grind [clsN,alnB,lowB,capB,digB,decide]
theorem a7h (b:UInt8):(bif (clsN b.toNat != 1) then (clsN b.toNat != 2) else false)=!letB b:=by grind [clsN,letB,lowB,capB,digB,decide]
def okAt (i:Nat) (b:UInt8):Bool:=alnB b&&(!decide (i=0)||letB b)
def anv:Nat->Bq->Bool
 | _,[]=>true
 | i,b::r=>okAt i b&&anv (i+1) r
theorem awg:∀ (r:Bq) (i:Nat),anv (i+1) r=r.all alnB:=by
 intro r;induction r with
 | nil=>intro i;rfl
 | cons b r h=>grind [anv,okAt,decide_eq_false]
theorem azh (s:Bq):∀ (m i:Nat),s.length-i<=m->i<=s.length->∃ z,aba (S300_3step 0) (s,(),s,(i:Int))=some (bif anv i (s.drop i) then .inr (s,z) else .inl (false,z)):=by
 intro m;induction m with
 | zero=>
  intro i hm hi;have o:¬i<s.length:=by omega
  rw [Bb (by omega)];exact ⟨_,aai (by simp only [S300_3step,S300_3,Aj,o,decide_false,Ah];rfl)⟩
 | succ m ih=>
  intro i hm hi;by_cases o:i<s.length
  ·have M:((i:Int)==(0:Int))=decide (i=0):=eqB i 0;rw [abc o 0,anv];by_cases ha:byteAt s i<128
   ·have O:=aep s i ha;have H:F315 0 (byteAt s i:Int)=some (clsN (s.getD i 0).toNat):=aub _;cases h:okAt i (s.getD i 0) with
    | true=>
     obtain ⟨z,hz⟩:=ih (i+1) (by omega) (by omega);refine ⟨z,?_⟩;rw [Bool.true_and,<-hz];refine aat ?_;unfold okAt at h;simp only [S300_3step,S300_3,Aj,o,decide_true,Af,agt,O,H,Ae,cls0,M];cases I:alnB (s.getD i 0) with
     | false=>grind
     | true=>
      rw [I] at h;cases J:decide (i=0) with
      | false=>rfl
      | true=>rw [J] at h;have Z:=a7h (s.getD i 0);grind
    | false=>
     refine ⟨(s,((i+1:Nat):Int)),aai ?_⟩;unfold okAt at h;simp only [S300_3step,S300_3,Aj,o,decide_true,Af,agt,O,H,Ae,cls0,M,Bool.false_and,Ah];cases I:alnB (s.getD i 0) with
     | false=>rfl
     | true=>
      rw [I] at h;cases J:decide (i=0) with
      | false=>grind
      | true=>rw [J] at h;have Z:=a7h (s.getD i 0);grind
   ·have hh:=aln s i (by omega);have H:=aub (aap s i).1;rw [a02 hh] at H;have h:okAt i (s.getD i 0)=false:=by
     unfold okAt alnB lowB capB digB;have:byteAt s i=(s.getD i 0).toNat:=rfl;grind
    refine ⟨(s,((i+(aap s i).2:Nat):Int)),aai ?_⟩;rw [h];simp only [S300_3step,S300_3,Aj,o,decide_true,Af,agt,H,Ae,Bool.false_and,Ah];rfl
  grind
theorem aqr (s:Bq):F300 0 s=some (adz s):=by
 obtain ⟨z,I⟩:=azh s s.length 0 (by omega) (by omega);unfold F300;rw [adw,I,As];cases s with
 | nil=>rfl
 | cons c r=>
  rw [anv,awg];have h:decide (((c::r).length:Int)>=(1:Int))=true:=Ag (by grind);have o:decide (((c::r).length:Int)<=(40:Int))=decide (r.length+1<=40):=leI _ 40;have H:okAt 0 c=letB c:=by grind [okAt,letB,a5x]
  rw [H,adz];cases letB c<;>cases r.all alnB<;>simp only [Bool.and_false,Bool.and_true,Bool.false_and,Bool.true_and,Af,Ah,Ae,a3f,apr,h,o]
theorem au2 (b:Nat):F242 0 (b:Int)=some (lowB b):=by unfold F242 lowB;rw [show (97:Int)=((97:Nat):Int) from rfl,show (122:Int)=((122:Nat):Int) from rfl];simp only [geI,leI,Bool.decide_and];cases decide (97<=b)<;>rfl
theorem anl (b:Nat):F243 0 (b:Int)=some (capB b):=by unfold F243 capB;rw [show (65:Int)=((65:Nat):Int) from rfl,show (90:Int)=((90:Nat):Int) from rfl];simp only [geI,leI,Bool.decide_and];cases decide (65<=b)<;>rfl
theorem aq9 (s:Bq) (M:s.length<=9223372036854770000):∀ k i,i+k=s.length->aba (S206_5step 0) (s,(i:Int))=some (bif allF (λi=>alnB (s.getD i 0)) i k then .inr () else .inl false):=
 aiy (λi=>(s,(i:Int))) s.length (λi=>alnB (s.getD i 0)) (Sum.inl false:Bool⊕Unit) (Sum.inr ()) (λi J=>by
  have h:=au2 (s.getD i 0).toNat;have o:=anl (s.getD i 0).toNat;have z:(((s.getD i 0).toNat:Int) != (95:Int))=!decide ((s.getD i 0).toNat=95):=neB _ 95;have H:decide (((s.getD i 0).toNat:Int)<(48:Int))=!decide (48<=(s.getD i 0).toNat):=by rw [<-decide_not,decide_eq_decide];omega
  have I:decide (((s.getD i 0).toNat:Int)>(57:Int))=!decide ((s.getD i 0).toNat<=57):=by rw [<-decide_not,decide_eq_decide];omega
  simp only [S206_5step,S206_5,aus,aab,J,decide_true,Aj,h,o,z,H,I,Ae,aw0 (i:=i) (by omega),Af];unfold alnB digB;rw [Bool.decide_and];cases lowB (s.getD i 0).toNat<;>cases capB (s.getD i 0).toNat<;>cases decide ((s.getD i 0).toNat=95)<;>cases decide (48<=(s.getD i 0).toNat)<;>cases decide ((s.getD i 0).toNat<=57)<;>rfl) (by
  simp only [S206_5step,S206_5,aus,Nat.lt_irrefl,decide_false,Ah])
theorem afm (s:Bq) (Z:s.length<=9223372036854770000):F206 0 s=some (adz s):=by
 unfold F206;cases s with
 | nil=>rfl
 | cons c r=>
  have h:=aq9 (c::r) Z r.length 1 (by simp [Nat.add_comm]);rw [show ((1:Nat):Int)=(1:Int) from rfl] at h;have O:allF (λi=>alnB ((c::r).getD i 0)) 1 r.length=r.all alnB:=ap0 alnB 0 r [c];rw [O] at h;have o:(((c::r).length:Int)==(0:Int))=false:=Eq.trans (eqB (c::r).length 0) (by simp);have z:decide (((c::r).length:Int)>(40:Int))=!decide (r.length+1<=40):=by rw [<-decide_not,decide_eq_decide];simp only [Am];omega
  have H:aaa (0:Int) (c::r).length=true:=by rw [show (0:Int)=((0:Nat):Int) from rfl,aab];simp
  have J:=au2 c.toNat;have M:=anl c.toNat;have I:((((c::r).getD (0:Int).toNat 0).toNat:Nat):Int)=(c.toNat:Int):=rfl;rw [adz,letB];simp only [o,z,H,I,J,M,Ah,adw,h];cases decide (r.length+1<=40)<;>cases lowB c.toNat<;>cases capB c.toNat<;>cases r.all alnB<;>rfl
theorem ax8 (s:Bq) (xs:List Bq) (H:xs.length<=9223372036854770000):aba (S280_3step 0) (s,xs.map PV.str,((xs.map PV.str).length:Int),((0:Nat):Int))=some (bif xs.all adz then .inr s else .inl false):=by
 have h:=aiy (step:=S280_3step 0) (λi=>(s,xs.map PV.str,((xs.map PV.str).length:Int),(i:Int))) (xs.map PV.str).length (λi=>adz ((xs.map PV.str).getD i .bad).asStr) (Sum.inl false:Bool⊕Bq) (Sum.inr s) (λi o=>by
  have z:i<xs.length:=by simpa using o
  simp only [S280_3step,S280_3,aus,aab,o,decide_true,Af,Aj,aqr,Ae,aw0 (i:=i) (by omega)];grind) (by
  simp only [S280_3step,S280_3,aus,Nat.lt_irrefl,decide_false,Ah]) (xs.map PV.str).length 0 (by omega)
 rw [a4s (λx:PV=>adz x.asStr),List.all_map] at h;exact h
theorem awt (c:UInt8):∀ s,(aa6 c s).length<=s.length+1:=by
 intro s;induction s with
 | nil=>simp [aa6]
 | cons b r h=>simp only [aa6];grind
theorem ay8 (s:Bq) (h:s.length<=1048576):anf 0 s ([46]:Bq)=some ((aa6 46 s).map PV.str):=by
 unfold anf;have:Nat.blt s.length 4294967281=true:=by rw [Nat.blt_eq];omega
 grind
theorem aqq (s:Bq) (h:s.length<=1048576):F280 0 s=some (akp s):=by have o:=awt 46 s;unfold F280 akp;have e:decide ((s.length:Int)<=(120:Int))=decide (s.length<=120):=leI _ 120;rw [ay8 s h,Ae,adw,show (0:Int)=((0:Nat):Int) from rfl,ax8 s _ (by omega)];grind [aa6,adz,sumE]
theorem aq8 (s:Bq) (hs:s.length<=1048576):∀ (m i:Nat) (o:Bq),s.length-i<=m->i<=s.length->o.length<=i->
 ∃ y,aba (S203_6step 0) (s,o,(i:Int))=some y/\sumE (λb=>some b) (λp=>some (adz p)) y=some (aqn o (s.drop i))/\∀ p,y=.inr p->p.length<=s.length:=by
 intro m
 induction m with
 | zero=>
  intro i o hm hi hp
  have z:¬i<s.length:=by omega
  rw [Bb (by omega)]
  exact ⟨.inr o,aai (by simp only [S203_6step,S203_6,adp,z,decide_false,Ah]),rfl,λp h=>by cases h;omega⟩
 | succ m ih=>
  intro i o hm hi hp
  by_cases z:i<s.length
  ·rw [abc z 0,aqn];have H:(((s.getD i 0).toNat:Int) != (46:Int))=!(s.getD i 0==46):=by
    exact (neB (s.getD i 0).toNat 46).trans (congrArg (!·) (a4y (s.getD i 0) 46))
   cases hb:(s.getD i 0==46) with
   | false=>
    obtain ⟨y,J,M,O⟩:=ih (i+1) (o++[s.getD i 0]) (by omega) (by omega) (by simp;omega);refine ⟨y,?_,M,O⟩;rw [<-J];refine aat ?_;have Z:decide ((0:Int)<=(i:Int)/\(i:Int)<=((i+1:Nat):Int)/\((i+1:Nat):Int)<=(s.length:Int))=true:=Ag (by omega);have ab:(s.take (i+1)).drop i=[s.getD i 0]:=by rw [List.drop_take,show i+1-i=1 by omega,abc z 0];rfl
    have aa:decide (o.length+[s.getD i 0].length<=aan)=true:=Ag (by unfold aan;simp;omega);rw [hb] at H;simp only [S203_6step,S203_6,adp,z,decide_true,Af,aab,Aj,H,Az,aw0 (i:=i) (by omega),Z,ab,aa]
   | true=>
    rw [hb] at H;simp only [Af];cases I:adz o with
    | false=>refine ⟨.inl false,aai ?_,rfl,λp h=>by cases h⟩;simp only [S203_6step,S203_6,adp,z,decide_true,Af,aab,Aj,H,A3,Ah,afm o (by omega),I,Ae,Az]
    | true=>obtain ⟨y,J,M,O⟩:=ih (i+1) [] (by omega) (by omega) (by simp);refine ⟨y,?_,by rw [Bool.true_and];exact M,O⟩;rw [<-J];refine aat ?_;simp only [S203_6step,S203_6,adp,z,decide_true,Af,aab,Aj,H,A3,Ah,afm o (by omega),I,Ae,aw0 (i:=i) (by omega)]
  ·rw [Bb (by omega)];exact ⟨.inr o,aai (by simp only [S203_6step,S203_6,adp,z,decide_false,Ah]),rfl,λp h=>by cases h;omega⟩
theorem ahr (s:Bq) (H:s.length<=1048576):F203 0 s=some (akp s):=by
 obtain ⟨y,o,h,z⟩:=aq8 s H s.length 0 [] (by omega) (by omega) (by simp);rw [As,ax7] at h;unfold F203 akp;have e:decide ((s.length:Int)>(120:Int))=!decide (s.length<=120):=by rw [<-decide_not,decide_eq_decide];omega
 rw [adw,show (0:Int)=((0:Nat):Int) from rfl,o,e,Ae];cases decide (s.length<=120) with
 | false=>rfl
 | true=>
  rw [Bool.true_and,<-h];cases y with
  | inl b=>rfl
  | inr p=>simp only [A3,Ah,apr];rw [afm p (by have:=z p rfl;omega)];rfl
noncomputable def amu (s:Bq):Bool:=(F205 0 s).getD false
theorem ahs (s:Bq):F205 0 s=some (amu s):=by unfold amu;simp only [F205,a05,Option.getD_some]
theorem a6u (s:Bq):F316 0 s=some (amu s):=by rw [<-ahs];rfl
noncomputable def aje (s:Bq):Bool:=adz s&&!amu s
theorem av5 (s:Bq):F302 0 s=some (aje s):=by grind [F302,aje,aqr,a6u,adz]
theorem azx (s:Bq) (h:s.length<=9223372036854770000):F286 0 s=some (aje s):=by unfold F286 aje;rw [afm s h,Ae,ahs];cases adz s<;>rfl
noncomputable def defP (s:Bq):Bool:=akp s&&(aa6 46 s).all λx=>!amu x
theorem aph (s:Bq) (hs:s.length<=1048576):∀ (k:Nat),k<=s.length->(46:UInt8)∉s.drop k->
 ∃ y,aba (S204_3step 0) (s,(k:Int)-1)=some y/\((∃ up h,y=.inl (up,h)/\s=up++46::h/\(46:UInt8)∉h)\/(y=.inr s/\(46:UInt8)∉s)):=by
 intro k
 induction k with
 | zero=>
  intro _ J
  refine ⟨.inr s,aai ?_,Or.inr ⟨rfl,by simpa using J⟩⟩
  have:decide (((0:Nat):Int)-1>=(0:Int))=false:=An (by omega)
  simp only [S204_3step,S204_3,this,Ah]
 | succ k ih=>
  intro hk J
  have e:((k+1:Nat):Int)-1=(k:Int):=by omega
  have o:k<s.length:=by omega
  have H:decide ((k:Int)>=(0:Int))=true:=Ag (by omega)
  have M:(((s.getD k 0).toNat:Int)==(46:Int))=(s.getD k 0==46):=by exact (eqB (s.getD k 0).toNat 46).trans (a4y (s.getD k 0) 46)
  rw [e]
  cases I:(s.getD k 0==46) with
  | true=>
   have z:s.getD k 0=46:=by simpa using I
   have O:decide ((0:Int)<=(0:Int)/\(0:Int)<=(k:Int)/\(k:Int)<=(s.length:Int))=true:=Ag (by omega)
   have Z:decide ((0:Int)<=((k+1:Nat):Int)/\((k+1:Nat):Int)<=(s.length:Int)/\(s.length:Int)<=(s.length:Int))=true:=Ag (by omega)
   refine ⟨.inl (s.take k,s.drop (k+1)),aai ?_,Or.inl ⟨_,_,rfl,?_,J⟩⟩
   ·rw [I] at M;simp only [S204_3step,S204_3,H,Af,aab,o,decide_true,Aj,M,O,aw0 (i:=k) (by omega),Z,List.take_length];rfl
   ·rw [<-z,<-abc o 0,List.take_append_drop]
  | false=>
   have z:s.getD k 0≠46:=by simpa using I
   obtain ⟨y,h1,h2⟩:=ih (by omega) (by rw [abc o 0];simp only [Bl,not_or];exact ⟨λe=>z e.symm,J⟩)
   refine ⟨y,?_,h2⟩
   rw [<-h1]
   refine aat ?_
   rw [I] at M
   have hw:IntKind.wrap .i64 ((k:Int)-(1:Int))=(k:Int)-1:=a4n (by omega) (by omega)
   simp only [S204_3step,S204_3,H,Af,aab,o,decide_true,Aj,M,Ah,hw]
theorem atc (s:Bq) (J:s.length<=1048576):∃ o h,F204 0 s=some (o,h)/\((s=o++46::h/\(46:UInt8)∉h)\/(o=[]/\h=s/\(46:UInt8)∉s)):=by
 obtain ⟨y,I,z⟩:=aph s J s.length (by omega) (by simp);unfold F204;have M:IntKind.wrap .i64 ((s.length:Int)-(1:Int))=(s.length:Int)-1:=a4n (by omega) (by omega);rw [adw,M,I];rcases z with ⟨o,h,rfl,z,H⟩ | ⟨rfl,H⟩
 ·exact ⟨o,h,rfl,Or.inl ⟨z,H⟩⟩
 ·exact ⟨[],s,rfl,Or.inr ⟨rfl,rfl,H⟩⟩
theorem a2h {s:Bq} (h:adz s=true):s≠[]:=by intro e;subst e;simp [adz] at h
end Go.Ab
