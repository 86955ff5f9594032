/- Names: parts, full names, keywords; loops that look for the first. -/
import Derived.Test.YtjogoleiodbfdaaGreatDoorPUtfT
set_option linter.unusedVariables false
set_option linter.unusedSimpArgs false
set_option linter.unnecessarySimpa false
namespace Go.Ab
open Go
theorem aq0 {o:Type} (f:o->Bool) (d:o):∀ (xs h:List o),allF (λi=>f ((h++xs).getD i d)) h.length xs.length=xs.all f:=by
 intro xs;induction xs with
 | nil=>intro h;rfl
 | cons x r I=>
  intro h;simp only [Am,allF,Bk];have H:(h++x::r).getD h.length d=x:=by simp [List.getD]
  rw [H];have:=I (h++[x]);rw [show h++x::r=h++[x]++r by simp,<-this];simp
theorem a7j {h:Type} (f:h->Bool) (d:h) (xs:List h):allF (λi=>f (xs.getD i d)) 0 xs.length=xs.all f:=aq0 f d xs []
theorem am0 {σ τ Z β:Type}{step:σ->Option (σ⊕τ)} (O:Nat->β->σ) (J:β->τ) (xs:List Z) (d:Z) (f:β->Z->β) (I:Nat->β->Prop)
 (h:∀ i b,i<xs.length->I i b->step (O i b)=some (.inl (O (i+1) (f b (xs.getD i d))))/\I (i+1) (f b (xs.getD i d))) (o:∀ b,I xs.length b->step (O xs.length b)=some (.inr (J b))):
 ∀ k i b,i+k=xs.length->I i b->aa9 step (O i b)=some (J ((xs.drop i).foldl f b))/\I xs.length ((xs.drop i).foldl f b):=by
 intro k
 induction k with
 | zero=>
  intro i b hi M
  have:i=xs.length:=by omega
  subst this
  rw [List.drop_length]
  exact ⟨aah (o b M),M⟩
 | succ k ih=>
  intro i b hi M
  have H:i<xs.length:=by omega
  obtain ⟨h1,h2⟩:=h i b H M
  rw [aaq h1,aa8 H d,List.foldl_cons]
  exact ih (i+1) _ (by omega) h2
def lowB (b:Nat):Bool:=decide (97<=b/\b<=122)
def capB (b:Nat):Bool:=decide (65<=b/\b<=90)
def digB (b:Nat):Bool:=decide (48<=b/\b<=57)
def letB (b:UInt8):Bool:=lowB b.toNat||capB b.toNat
def alnB (b:UInt8):Bool:=lowB b.toNat||capB b.toNat||digB b.toNat||decide (b.toNat=95)
theorem a8s {b:UInt8} (h:letB b=true):alnB b=true:=by unfold letB at h;unfold alnB;rw [h];rfl
def adz (s:Bt):Bool:=
 match s with
 | []=>false
 | c::r=>decide (r.length+1<=40)&&letB c&&r.all alnB
def aiv (s:Bt):Bool:=decide (s.length<=120)&&(aa2 46 s).all adz
def as6 (s:Bt):Bool:=
 match s with
 | []=>aiv []
 | c::r=>bif c==46 then aiv r else aiv (c::r)
theorem ayq (c:UInt8) (b:Bt):∀ a,aa2 c (a++c::b)=aa2 c a++aa2 c b:=by
 intro a;induction a with
 | nil=>simp [aa2]
 | cons x a o=>
  simp only [Bm,aa2];cases h:(x==c) with
  | true=>simp only [Af,o,Bm]
  | false=>
   simp only [Ah,o];have:=ahq c a;cases H:aa2 c a with
   | nil=>exact absurd H this
   | cons y q=>simp
theorem asx (c:UInt8):∀ b,c∉b->aa2 c b=[b]:=by
 intro b;induction b with
 | nil=>intro _;rfl
 | cons x b H=>
  intro h;simp only [Bn,not_or] at h;have o:(x==c)=false:=by rw [Bl];exact λe=>h.1 e.symm
  simp only [aa2,o,Ah,H h.2]
def arv:Bt->Bt->Bool
 | part,[]=>adz part
 | part,b::r=>bif b==46 then adz part&&arv [] r else arv (part++[b]) r
def glue (h:Bt):List Bt->List Bt
 | []=>[h]
 | x::q=>(h++x)::q
theorem a4d:∀ (r o:Bt),arv o r=(glue o (aa2 46 r)).all adz:=by
 intro r;induction r with
 | nil=>intro o;simp [arv,aa2,glue]
 | cons b r I=>
  intro o;simp only [arv,aa2];cases h:(b==46) with
  | true=>
   simp only [Af,glue,List.append_nil,Bk,I];have:=ahq 46 r;cases H:aa2 46 r with
   | nil=>exact absurd H this
   | cons x q=>simp [glue]
  | false=>
   simp only [Ah,I];have:=ahq 46 r;cases H:aa2 46 r with
   | nil=>exact absurd H this
   | cons x q=>simp [glue]
theorem az7 (r:Bt):arv [] r=(aa2 46 r).all adz:=by
 rw [a4d];have:=ahq 46 r;cases h:aa2 46 r with
 | nil=>exact absurd h this
 | cons x q=>simp [glue]
end Go.Ab
namespace Go.Ab
open Go
set_option maxRecDepth 100000
theorem ayy {i:Nat} (h:i<=9223372036854775000):IntKind.wrap .i64 ((i:Int)+1)=((i+1:Nat):Int):=aof (by omega)
theorem geI (a b:Nat):decide ((a:Int)>=(b:Int))=decide (b<=a):=by grind
theorem leI (a b:Nat):decide ((a:Int)<=(b:Int))=decide (a<=b):=by grind
theorem neB (a b:Nat):((a:Int) != (b:Int))=!decide (a=b):=by grind
theorem eqB (a b:Nat):((a:Int)==(b:Int))=decide (a=b):=by grind
theorem a7p (b c:UInt8):decide (b.toNat=c.toNat)=(b==c):=by grind [UInt8.toNat_inj,decide_eq_false]
def clsN (b:Nat):Int:=bif lowB b then 1 else bif capB b then 2 else bif digB b then 3 else bif decide (b=95) then 4 else 0
theorem avv (b:Nat):F227 0 (b:Int)=some (clsN b):=by unfold F227 clsN;rw [show (97:Int)=((97:Nat):Int) from rfl,show (122:Int)=((122:Nat):Int) from rfl,show (65:Int)=((65:Nat):Int) from rfl,show (90:Int)=((90:Nat):Int) from rfl,show (48:Int)=((48:Nat):Int) from rfl,show (57:Int)=((57:Nat):Int) from rfl,show (95:Int)=((95:Nat):Int) from rfl];grind [geI,leI,eqB,lowB,capB,digB,Bool.decide_and,decide]
theorem a3q {b:Nat} (h:128<=b):clsN b=0:=by have o:lowB b=false:=An (by omega);have H:capB b=false:=An (by omega);have I:digB b=false:=An (by omega);have J:decide (b=95)=false:=An (by omega);simp only [clsN,o,H,I,J,Ah]
theorem cls0 (b:UInt8):(clsN b.toNat==0)=!alnB b:=by grind [clsN,alnB,lowB,capB,digB,decide]
theorem a99 (b:UInt8):(bif (clsN b.toNat != 1) then (clsN b.toNat != 2) else false)=!letB b:=by grind [clsN,letB,lowB,capB,digB,decide]
def okAt (i:Nat) (b:UInt8):Bool:=alnB b&&(!decide (i=0)||letB b)
def aou:Nat->Bt->Bool
 | _,[]=>true
 | i,b::r=>okAt i b&&aou (i+1) r
theorem ayd:∀ (r:Bt) (i:Nat),aou (i+1) r=r.all alnB:=by
 intro r;induction r with
 | nil=>intro i;rfl
 | cons b r h=>grind [aou,okAt,decide_eq_false]
theorem a1k (s:Bt):∀ (m i:Nat),s.length-i<=m->i<=s.length->∃ z,aa9 (S211_3step 0) (s,(),s,(i:Int))=some (bif aou i (s.drop i) then .inr (s,z) else .inl (false,z)):=by
 intro m;induction m with
 | zero=>
  intro i hm hi;have o:¬i<s.length:=by omega
  rw [A7 (by omega)];exact ⟨_,aah (by simp only [S211_3step,S211_3,Ai,o,decide_false,Ah];rfl)⟩
 | succ m ih=>
  intro i hm hi;by_cases o:i<s.length
  ·have M:((i:Int)==(0:Int))=decide (i=0):=eqB i 0;rw [aa8 o 0,aou];by_cases ha:byteAt s i<128
   ·have O:=ae1 s i ha;have H:F227 0 (byteAt s i:Int)=some (clsN (s.getD i 0).toNat):=avv _;cases h:okAt i (s.getD i 0) with
    | true=>
     obtain ⟨z,hz⟩:=ih (i+1) (by omega) (by omega);refine ⟨z,?_⟩;rw [Bool.true_and,<-hz];refine aaq ?_;unfold okAt at h;simp only [S211_3step,S211_3,Ai,o,decide_true,Af,ag3,O,H,Aa,cls0,M];cases I:alnB (s.getD i 0) with
     | false=>grind
     | true=>
      rw [I] at h;cases J:decide (i=0) with
      | false=>rfl
      | true=>rw [J] at h;have Z:=a99 (s.getD i 0);grind
    | false=>
     refine ⟨(s,((i+1:Nat):Int)),aah ?_⟩;unfold okAt at h;simp only [S211_3step,S211_3,Ai,o,decide_true,Af,ag3,O,H,Aa,cls0,M,Bool.false_and,Ah];cases I:alnB (s.getD i 0) with
     | false=>rfl
     | true=>
      rw [I] at h;cases J:decide (i=0) with
      | false=>grind
      | true=>rw [J] at h;have Z:=a99 (s.getD i 0);grind
   ·have hh:=ami s i (by omega);have H:=avv (aap s i).1;rw [a3q hh] at H;have h:okAt i (s.getD i 0)=false:=by
     unfold okAt alnB lowB capB digB;have:byteAt s i=(s.getD i 0).toNat:=rfl;grind
    refine ⟨(s,((i+(aap s i).2:Nat):Int)),aah ?_⟩;rw [h];simp only [S211_3step,S211_3,Ai,o,decide_true,Af,ag3,H,Aa,Bool.false_and,Ah];rfl
  grind
theorem ar0 (s:Bt):F211 0 s=some (adz s):=by
 obtain ⟨z,I⟩:=a1k s s.length 0 (by omega) (by omega);unfold F211;rw [adq,I,Ap];cases s with
 | nil=>rfl
 | cons c r=>
  rw [aou,ayd];have h:decide (((c::r).length:Int)>=(1:Int))=true:=Ag (by grind);have o:decide (((c::r).length:Int)<=(40:Int))=decide (r.length+1<=40):=leI _ 40;have H:okAt 0 c=letB c:=by grind [okAt,letB,a8s]
  rw [H,adz];cases letB c<;>cases r.all alnB<;>simp only [Bool.and_false,Bool.and_true,Bool.false_and,Bool.true_and,Af,Ah,Aa,a6b,aqt,h,o]
theorem awv (b:Nat):F165 0 (b:Int)=some (lowB b):=by unfold F165 lowB;rw [show (97:Int)=((97:Nat):Int) from rfl,show (122:Int)=((122:Nat):Int) from rfl];simp only [geI,leI,Bool.decide_and];cases decide (97<=b)<;>rfl
theorem aon (b:Nat):F166 0 (b:Int)=some (capB b):=by unfold F166 capB;rw [show (65:Int)=((65:Nat):Int) from rfl,show (90:Int)=((90:Nat):Int) from rfl];simp only [geI,leI,Bool.decide_and];cases decide (65<=b)<;>rfl
theorem ask (s:Bt) (O:s.length<=9223372036854770000):∀ k i,i+k=s.length->aa9 (S123_5step 0) (s,(i:Int))=some (bif allF (λi=>alnB (s.getD i 0)) i k then .inr () else .inl false):=
 ajm (λi=>(s,(i:Int))) s.length (λi=>alnB (s.getD i 0)) (Sum.inl false:Bool⊕Unit) (Sum.inr ()) (λi M=>by
  have h:=awv (s.getD i 0).toNat;have o:=aon (s.getD i 0).toNat;have H:(((s.getD i 0).toNat:Int) != (95:Int))=!decide ((s.getD i 0).toNat=95):=neB _ 95;have I:decide (((s.getD i 0).toNat:Int)<(48:Int))=!decide (48<=(s.getD i 0).toNat):=by rw [<-decide_not,decide_eq_decide];omega
  have J:decide (((s.getD i 0).toNat:Int)>(57:Int))=!decide ((s.getD i 0).toNat<=57):=by rw [<-decide_not,decide_eq_decide];omega
  simp only [S123_5step,S123_5,awk,aab,M,decide_true,Ai,h,o,H,I,J,Aa,ayy (i:=i) (by omega),Af];unfold alnB digB;rw [Bool.decide_and];cases lowB (s.getD i 0).toNat<;>cases capB (s.getD i 0).toNat<;>cases decide ((s.getD i 0).toNat=95)<;>cases decide (48<=(s.getD i 0).toNat)<;>cases decide ((s.getD i 0).toNat<=57)<;>rfl) (by
  simp only [S123_5step,S123_5,awk,Nat.lt_irrefl,decide_false,Ah])
theorem af1 (s:Bt) (hs:s.length<=9223372036854770000):F123 0 s=some (adz s):=by
 unfold F123;cases s with
 | nil=>rfl
 | cons c r=>
  have h:=ask (c::r) hs r.length 1 (by simp [Nat.add_comm]);rw [show ((1:Nat):Int)=(1:Int) from rfl] at h;have Z:allF (λi=>alnB ((c::r).getD i 0)) 1 r.length=r.all alnB:=aq0 alnB 0 r [c];rw [Z] at h;have o:(((c::r).length:Int)==(0:Int))=false:=Eq.trans (eqB (c::r).length 0) (by simp);have H:decide (((c::r).length:Int)>(40:Int))=!decide (r.length+1<=40):=by rw [<-decide_not,decide_eq_decide];simp only [Am];omega
  have I:aaa (0:Int) (c::r).length=true:=by rw [show (0:Int)=((0:Nat):Int) from rfl,aab];simp
  have M:=awv c.toNat;have O:=aon c.toNat;have J:((((c::r).getD (0:Int).toNat 0).toNat:Nat):Int)=(c.toNat:Int):=rfl;rw [adz,letB];simp only [o,H,I,J,M,O,Ah,adq,h];cases decide (r.length+1<=40)<;>cases lowB c.toNat<;>cases capB c.toNat<;>cases r.all alnB<;>rfl
theorem az8 (s:Bt) (xs:List Bt) (I:xs.length<=9223372036854770000):aa9 (S194_3step 0) (s,xs.map PV.str,((xs.map PV.str).length:Int),((0:Nat):Int))=some (bif xs.all adz then .inr s else .inl false):=by
 have h:=ajm (step:=S194_3step 0) (λi=>(s,xs.map PV.str,((xs.map PV.str).length:Int),(i:Int))) (xs.map PV.str).length (λi=>adz ((xs.map PV.str).getD i .bad).asStr) (Sum.inl false:Bool⊕Bt) (Sum.inr s) (λi o=>by
  have H:i<xs.length:=by simpa using o
  simp only [S194_3step,S194_3,awk,aab,o,decide_true,Af,Ai,ar0,Aa,ayy (i:=i) (by omega)];grind) (by
  simp only [S194_3step,S194_3,awk,Nat.lt_irrefl,decide_false,Ah]) (xs.map PV.str).length 0 (by omega)
 rw [a7j (λx:PV=>adz x.asStr),List.all_map] at h;exact h
theorem ayr (c:UInt8):∀ s,(aa2 c s).length<=s.length+1:=by
 intro s;induction s with
 | nil=>simp [aa2]
 | cons b r h=>simp only [aa2];grind
theorem a1a (s:Bt) (h:s.length<=1048576):aoh 0 s ([46]:Bt)=some ((aa2 46 s).map PV.str):=by
 unfold aoh;have:Nat.blt s.length 4294967281=true:=by rw [Nat.blt_eq];omega
 grind
theorem arz (s:Bt) (h:s.length<=1048576):F194 0 s=some (aiv s):=by have o:=ayr 46 s;unfold F194 aiv;have e:decide ((s.length:Int)<=(120:Int))=decide (s.length<=120):=leI _ 120;rw [a1a s h,Aa,adq,show (0:Int)=((0:Nat):Int) from rfl,az8 s _ (by omega)];grind [aa2,adz,sumE]
theorem asj (s:Bt) (hs:s.length<=1048576):∀ (m i:Nat) (o:Bt),s.length-i<=m->i<=s.length->o.length<=i->
 ∃ y,aa9 (S120_6step 0) (s,o,(i:Int))=some y/\sumE (λb=>some b) (λp=>some (adz p)) y=some (arv o (s.drop i))/\∀ p,y=.inr p->p.length<=s.length:=by
 intro m
 induction m with
 | zero=>
  intro i o hm hi hp
  have H:¬i<s.length:=by omega
  rw [A7 (by omega)]
  exact ⟨.inr o,aah (by simp only [S120_6step,S120_6,ac0,H,decide_false,Ah]),rfl,λp h=>by cases h;omega⟩
 | succ m ih=>
  intro i o hm hi hp
  by_cases H:i<s.length
  ·rw [aa8 H 0,arv];have I:(((s.getD i 0).toNat:Int) != (46:Int))=!(s.getD i 0==46):=by
    exact (neB (s.getD i 0).toNat 46).trans (congrArg (!·) (a7p (s.getD i 0) 46))
   cases hb:(s.getD i 0==46) with
   | false=>
    obtain ⟨y,M,O,Z⟩:=ih (i+1) (o++[s.getD i 0]) (by omega) (by omega) (by simp;omega);refine ⟨y,?_,O,Z⟩;rw [<-M];refine aaq ?_;have aa:decide ((0:Int)<=(i:Int)/\(i:Int)<=((i+1:Nat):Int)/\((i+1:Nat):Int)<=(s.length:Int))=true:=Ag (by omega);have ad:(s.take (i+1)).drop i=[s.getD i 0]:=by rw [List.drop_take,show i+1-i=1 by omega,aa8 H 0];rfl
    have ab:decide (o.length+[s.getD i 0].length<=aao)=true:=Ag (by unfold aao;simp;omega);rw [hb] at I;simp only [S120_6step,S120_6,ac0,H,decide_true,Af,aab,Ai,I,Ay,ayy (i:=i) (by omega),aa,ad,ab]
   | true=>
    rw [hb] at I;simp only [Af];cases J:adz o with
    | false=>refine ⟨.inl false,aah ?_,rfl,λp h=>by cases h⟩;simp only [S120_6step,S120_6,ac0,H,decide_true,Af,aab,Ai,I,Az,Ah,af1 o (by omega),J,Aa,Ay]
    | true=>obtain ⟨y,M,O,Z⟩:=ih (i+1) [] (by omega) (by omega) (by simp);refine ⟨y,?_,by rw [Bool.true_and];exact O,Z⟩;rw [<-M];refine aaq ?_;simp only [S120_6step,S120_6,ac0,H,decide_true,Af,aab,Ai,I,Az,Ah,af1 o (by omega),J,Aa,ayy (i:=i) (by omega)]
  ·rw [A7 (by omega)];exact ⟨.inr o,aah (by simp only [S120_6step,S120_6,ac0,H,decide_false,Ah]),rfl,λp h=>by cases h;omega⟩
theorem ah9 (s:Bt) (I:s.length<=1048576):F120 0 s=some (aiv s):=by
 obtain ⟨y,o,h,H⟩:=asj s I s.length 0 [] (by omega) (by omega) (by simp);rw [Ap,az7] at h;unfold F120 aiv;have e:decide ((s.length:Int)>(120:Int))=!decide (s.length<=120):=by rw [<-decide_not,decide_eq_decide];omega
 rw [adq,show (0:Int)=((0:Nat):Int) from rfl,o,e,Aa];cases decide (s.length<=120) with
 | false=>rfl
 | true=>
  rw [Bool.true_and,<-h];cases y with
  | inl b=>rfl
  | inr p=>simp only [Az,Ah,aqt];rw [af1 p (by have:=H p rfl;omega)];rfl
noncomputable def anx (s:Bt):Bool:=(F122 0 s).getD false
theorem aia (s:Bt):F122 0 s=some (anx s):=by unfold anx;simp only [F122,a3t,Option.getD_some]
theorem a9p (s:Bt):F229 0 s=some (anx s):=by rw [<-aia];rfl
noncomputable def aj3 (s:Bt):Bool:=adz s&&!anx s
theorem axy (s:Bt):F213 0 s=some (aj3 s):=by grind [F213,aj3,ar0,a9p,adz]
theorem a2b (s:Bt) (h:s.length<=9223372036854770000):F203 0 s=some (aj3 s):=by unfold F203 aj3;rw [af1 s h,Aa,aia];cases adz s<;>rfl
noncomputable def defP (s:Bt):Bool:=aiv s&&(aa2 46 s).all λx=>!anx x
theorem aql (s:Bt) (hs:s.length<=1048576):∀ (k:Nat),k<=s.length->(46:UInt8)∉s.drop k->
 ∃ y,aa9 (S121_3step 0) (s,(k:Int)-1)=some y/\((∃ up h,y=.inl (up,h)/\s=up++46::h/\(46:UInt8)∉h)\/(y=.inr s/\(46:UInt8)∉s)):=by
 intro k
 induction k with
 | zero=>
  intro _ M
  refine ⟨.inr s,aah ?_,Or.inr ⟨rfl,by simpa using M⟩⟩
  have:decide (((0:Nat):Int)-1>=(0:Int))=false:=An (by omega)
  simp only [S121_3step,S121_3,this,Ah]
 | succ k ih=>
  intro hk M
  have e:((k+1:Nat):Int)-1=(k:Int):=by omega
  have o:k<s.length:=by omega
  have I:decide ((k:Int)>=(0:Int))=true:=Ag (by omega)
  have O:(((s.getD k 0).toNat:Int)==(46:Int))=(s.getD k 0==46):=by exact (eqB (s.getD k 0).toNat 46).trans (a7p (s.getD k 0) 46)
  rw [e]
  cases J:(s.getD k 0==46) with
  | true=>
   have H:s.getD k 0=46:=by simpa using J
   have Z:decide ((0:Int)<=(0:Int)/\(0:Int)<=(k:Int)/\(k:Int)<=(s.length:Int))=true:=Ag (by omega)
   have aa:decide ((0:Int)<=((k+1:Nat):Int)/\((k+1:Nat):Int)<=(s.length:Int)/\(s.length:Int)<=(s.length:Int))=true:=Ag (by omega)
   refine ⟨.inl (s.take k,s.drop (k+1)),aah ?_,Or.inl ⟨_,_,rfl,?_,M⟩⟩
   ·rw [J] at O;simp only [S121_3step,S121_3,I,Af,aab,o,decide_true,Ai,O,Z,ayy (i:=k) (by omega),aa,List.take_length];rfl
   ·rw [<-H,<-aa8 o 0,List.take_append_drop]
  | false=>
   have H:s.getD k 0≠46:=by simpa using J
   obtain ⟨y,h1,h2⟩:=ih (by omega) (by rw [aa8 o 0];simp only [Bn,not_or];exact ⟨λe=>H e.symm,M⟩)
   refine ⟨y,?_,h2⟩
   rw [<-h1]
   refine aaq ?_
   rw [J] at O
   have hw:IntKind.wrap .i64 ((k:Int)-(1:Int))=(k:Int)-1:=a7d (by omega) (by omega)
   simp only [S121_3step,S121_3,I,Af,aab,o,decide_true,Ai,O,Ah,hw]
theorem auu (s:Bt) (M:s.length<=1048576):∃ o h,F121 0 s=some (o,h)/\((s=o++46::h/\(46:UInt8)∉h)\/(o=[]/\h=s/\(46:UInt8)∉s)):=by
 obtain ⟨y,J,H⟩:=aql s M s.length (by omega) (by simp);unfold F121;have O:IntKind.wrap .i64 ((s.length:Int)-(1:Int))=(s.length:Int)-1:=a7d (by omega) (by omega);rw [adq,O,J];rcases H with ⟨o,h,rfl,H,I⟩ | ⟨rfl,I⟩
 ·exact ⟨o,h,rfl,Or.inl ⟨H,I⟩⟩
 ·exact ⟨[],s,rfl,Or.inr ⟨rfl,rfl,I⟩⟩
theorem a5f {s:Bt} (h:adz s=true):s≠[]:=by intro e;subst e;simp [adz] at h
end Go.Ab
