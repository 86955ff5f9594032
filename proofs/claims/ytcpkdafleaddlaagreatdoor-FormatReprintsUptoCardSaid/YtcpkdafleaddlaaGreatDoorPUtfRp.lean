/- UTF-8: what the printed functions compute. -/
import Derived.Test.YtcpkdafleaddlaaGreatDoorAbLawRp
set_option linter.unusedVariables false
set_option linter.unusedSimpArgs false
set_option linter.unnecessarySimpa false
namespace Go.Ab
open Go
theorem wadd {i k:Nat} (h:i+k<=9223372036854775807):IntKind.wrap .i64 ((i:Int)+(k:Int))=((i+k:Nat):Int):=by rw [<-Int.natCast_add];exact ae0 h
theorem bex {i:Nat} (h:i+1<=9223372036854775807):IntKind.wrap .i64 ((i:Int)+(1:Int))=((i+1:Nat):Int):=wadd (k:=1) h
theorem gb {d:Type} (b c:Bool) (k:Bool->Option d):((bif b then some c else some false).bind k)=k (b&&c):=by cases b<;>rfl
theorem aat {d:Type} (b:Bool) (x:d):(bif b then x else x)=x:=by cases b<;>rfl
theorem abm (a b:Nat):decide ((a:Int)<(b:Int))=decide (a<b):=by simp
theorem a7f (s:Bo):F230 0 s ([239,191,189]:Bo)=some (decide ((s.length:Int)>=3)&&(s.take 3==([239,191,189]:Bo))):=by
 unfold F230 F297;have e:((([239,191,189]:Bo).length:Nat):Int)=(3:Int):=rfl;simp only [e];by_cases h:(3:Int)<=(s.length:Int)
 ·have d:decide ((0:Int)<=0/\(0:Int)<=3/\(3:Int)<=(s.length:Int))=true:=by simp;omega
  simp only [d,imp,ge_iff_le,h,decide_true,Ad,Aa,Bool.true_and];rfl
 ·simp only [imp,ge_iff_le,h,decide_false,Ae,Ao,aat,Ad,Aa,Bool.false_and]
theorem a5s (s:Bo) (i:Nat) (O:i<s.length):F310 0 s (i:Int) ((aas s i).1:Int)=some (decide (abj s i=0)):=by
 unfold F310;have o:decide ((0:Int)<=(i:Int)/\(i:Int)<=(s.length:Int)/\(s.length:Int)<=(s.length:Int))=true:=by simp;omega
 have z:=bk6 s i (by omega);have m:=aib s i O;have U:=(aqw (s.length-i) (byteAt s i) (byteAt s (i+1)) (byteAt s (i+2)) (byteAt s (i+3))).1;by_cases H:(aas s i).1=65533
 ·have d:(((aas s i).1:Int)==(65533:Int))=true:=by simp;omega
  simp only [d,o,imp,Ad,Ah,a7f,z,Aa];rw [m];by_cases M:2<s.length-i/\byteAt s i=239/\byteAt s (i+1)=191/\byteAt s (i+2)=189
  ·simp only [M,and_self,decide_true,Aq,not_true_eq_false,and_false,Bb];have:(aas s i).2≠0:=by grind [aas]
   simp [this]
  grind
 ·have d:(((aas s i).1:Int)==(65533:Int))=false:=by simp;omega
  simp only [d,imp,Ad,Ae,Ao,Aa];rw [m,if_neg (by simp [H])];have:(aas s i).2≠0:=by grind [aas]
  simp [this]
theorem bfc (s:Bo):∀ (m i:Nat),s.length-i<=m->i<=s.length->∃ y,aa9 (S280_3step 0) (s,(),s,(i:Int))=some y/\(ais s i=-1->∃ z,y=.inr z)/\(ais s i≠-1->∃ z,y=.inl (ais s i,z)):=by
 intro m;induction m with
 | zero=>
  intro i W V;have d:¬i<s.length:=by omega
  rw [atb,if_neg d];refine ⟨_,aae (y:=.inr (s,(i:Int))) ?_,λ_=>⟨_,rfl⟩,λh=>absurd rfl h⟩;simp only [S280_3step,S280_3,Ah,d,decide_false,Ae]
 | succ m Y=>
  intro i W V;by_cases d:i<s.length
  ·rw [atb,if_pos d];have M:=a5s s i d;have O:=aix s i;have Z:=aib s i d;have H:=(a5c (s.length-i) (byteAt s i) (byteAt s (i+1)) (byteAt s (i+2)) (byteAt s (i+3)) (by omega)).1;by_cases o:abj s i=0
   ·rw [if_pos o];refine ⟨.inl ((i:Int),s,((i+(aas s i).2:Nat):Int)),aae ?_,λh=>by omega,λ_=>⟨_,rfl⟩⟩;simp only [S280_3step,S280_3,Ah,d,decide_true,Ad,O,M,o,Aa]
   ·rw [if_neg o];have U:abj s i=(aas s i).2:=by
     grind
    rw [aba (x1:=(s,(),s,((i+abj s i:Nat):Int)))]
    ·have:abj s i<=s.length-i:=H;exact Y _ (by omega) (by omega)
    ·have X:decide (abj s i=0)=false:=Al o;rw [X] at M;simp only [S280_3step,S280_3,Ah,d,decide_true,Ad,O,M,Ae,Aa,U]
  grind
theorem bad_eq (s:Bo):F280 0 s=some (bad s):=by
 obtain ⟨y,h,m,o⟩:=bfc s s.length 0 (by omega) (by omega);unfold F280;rw [aaq,h];unfold bad;by_cases d:ais s 0=-1
 ·obtain ⟨z,rfl⟩:=m d;rw [d];rfl
 ·obtain ⟨z,rfl⟩:=o d;rfl
theorem ap9 (s:Bo):F185 0 s=some (valid s):=by unfold F185;rw [bad_eq s];rfl
end Go.Ab
namespace Go.Ab
open Go
theorem a9v {o:Type} (f:o->Bool) (d:o):∀ (xs m:List o),allF (λi=>f ((m++xs).getD i d)) m.length xs.length=xs.all f:=by
 intro xs;induction xs with
 | nil=>intro m;rfl
 | cons x r H=>
  intro m;simp only [Ak,allF,A9];have z:(m++x::r).getD m.length d=x:=by simp [List.getD]
  rw [z];have:=H (m++[x]);rw [show m++x::r=m++[x]++r by simp,<-this];simp
theorem aqf {m:Type} (f:m->Bool) (d:m) (xs:List m):allF (λi=>f (xs.getD i d)) 0 xs.length=xs.all f:=a9v f d xs []
theorem ah6 {z H:Type}{step:z->Option (z⊕H)} (st:Nat->z) (n:Nat) (p:Nat->Bool) (bad:Nat->H) (d:H) (m:∀ i,i<n->step (st i)=some (bif p i then .inl (st (i+1)) else .inr (bad i))) (o:step (st n)=some (.inr d)):
 ∀ k i,i+k=n->∃ r,aa9 step (st i)=some r/\(allF p i k=true->r=d)/\(allF p i k=false->∃ j,i<=j/\j<n/\r=bad j):=by
 intro k
 induction k with
 | zero=>
  intro i W
  have:i=n:=by omega
  subst this
  exact ⟨d,aae o,λ_=>rfl,λh=>by simp [allF] at h⟩
 | succ k X=>
  intro i W
  have h:=m i (by omega)
  simp only [allF]
  cases M:p i with
  | true=>
   rw [M] at h
   obtain ⟨r,O,U,V⟩:=X (i+1) (by omega)
   refine ⟨r,by rw [aba h,O],λh=>U (by simpa using h),λh=>?_⟩
   obtain ⟨j,a,b,c⟩:=V (by simpa using h)
   exact ⟨j,by omega,b,c⟩
  | false=>
   rw [M] at h
   exact ⟨bad i,aae h,λh=>by simp at h,λ_=>⟨i,Nat.le_refl _,by omega,rfl⟩⟩
theorem abf {V W U M:Type}{step:V->Option (V⊕W)} (mk:Nat->M->V) (H:M->W) (xs:List U) (d:U) (f:M->U->M) (I:Nat->M->Prop)
 (m:∀ i b,i<xs.length->I i b->step (mk i b)=some (.inl (mk (i+1) (f b (xs.getD i d))))/\I (i+1) (f b (xs.getD i d))) (o:∀ b,I xs.length b->step (mk xs.length b)=some (.inr (H b))):
 ∀ k i b,i+k=xs.length->I i b->aa9 step (mk i b)=some (H ((xs.drop i).foldl f b))/\I xs.length ((xs.drop i).foldl f b):=by
 intro k
 induction k with
 | zero=>
  intro i b Z O
  have:i=xs.length:=by omega
  subst this
  rw [List.drop_length]
  exact ⟨aae (o b O),O⟩
 | succ k ih=>
  intro i b Z O
  have z:i<xs.length:=by omega
  obtain ⟨X,Y⟩:=m i b z O
  rw [aba X,aa1 z d,List.foldl_cons]
  exact ih (i+1) _ (by omega) Y
def lowB (b:Nat):Bool:=decide (97<=b/\b<=122)
def capB (b:Nat):Bool:=decide (65<=b/\b<=90)
def digB (b:Nat):Bool:=decide (48<=b/\b<=57)
def letB (b:UInt8):Bool:=lowB b.toNat||capB b.toNat
def alnB (b:UInt8):Bool:=lowB b.toNat||capB b.toNat||digB b.toNat||decide (b.toNat=95)
theorem bcd {b:UInt8} (h:letB b=true):alnB b=true:=by unfold letB at h;unfold alnB;rw [h];rfl
def aes (s:Bo):Bool:=
 match s with
 | []=>false
 | c::r=>decide (r.length+1<=40)&&letB c&&r.all alnB
def afb (s:Bo):Bool:=decide (s.length<=120)&&(abz 46 s).all aes
def ack (s:Bo):Bool:=
 match s with
 | []=>afb []
 | c::r=>bif c==46 then afb r else afb (c::r)
end Go.Ab
namespace Go.Ab
open Go
set_option maxRecDepth 100000
theorem ab8 {m:Type}{l:List m}{i:Nat} (h:i<l.length) (d:m):l.getD i d∈l:=by grind
theorem abv {i:Nat} (h:i<=9223372036854775000):IntKind.wrap .i64 ((i:Int)+1)=((i+1:Nat):Int):=bex (by omega)
theorem geI (a b:Nat):decide ((a:Int)>=(b:Int))=decide (b<=a):=by grind
theorem leI (a b:Nat):decide ((a:Int)<=(b:Int))=decide (a<=b):=by grind
theorem neB (a b:Nat):((a:Int) != (b:Int))=!decide (a=b):=by grind
theorem eqB (a b:Nat):((a:Int)==(b:Int))=decide (a=b):=by grind
theorem bnh (b c:UInt8):decide (b.toNat=c.toNat)=(b==c):=by grind [UInt8.toNat_inj,decide_eq_false]
def clsN (b:Nat):Int:=bif lowB b then 1 else bif capB b then 2 else bif digB b then 3 else bif decide (b=95) then 4 else 0
theorem a3l (b:Nat):F285 0 (b:Int)=some (clsN b):=by unfold F285 clsN;rw [show (97:Int)=((97:Nat):Int) from rfl,show (122:Int)=((122:Nat):Int) from rfl,show (65:Int)=((65:Nat):Int) from rfl,show (90:Int)=((90:Nat):Int) from rfl,show (48:Int)=((48:Nat):Int) from rfl,show (57:Int)=((57:Nat):Int) from rfl,show (95:Int)=((95:Nat):Int) from rfl];grind [geI,leI,eqB,lowB,capB,digB,Bool.decide_and,decide]
theorem bfk {b:Nat} (h:128<=b):clsN b=0:=by have d:lowB b=false:=Al (by omega);have m:capB b=false:=Al (by omega);have o:digB b=false:=Al (by omega);have z:decide (b=95)=false:=Al (by omega);simp only [clsN,d,m,o,z,Ae]
theorem cls0 (b:UInt8):(clsN b.toNat==0)=!alnB b:=by grind [clsN,alnB,lowB,capB,digB,decide]
theorem bnp (b:UInt8):(bif (clsN b.toNat != 1) then (clsN b.toNat != 2) else false)=!letB b:=by grind [clsN,letB,lowB,capB,digB,decide]
def okAt (i:Nat) (b:UInt8):Bool:=alnB b&&(!decide (i=0)||letB b)
def at1:Nat->Bo->Bool
 | _,[]=>true
 | i,b::r=>okAt i b&&at1 (i+1) r
theorem a8j:∀ (r:Bo) (i:Nat),at1 (i+1) r=r.all alnB:=by
 intro r;induction r with
 | nil=>intro i;rfl
 | cons b r d=>grind [at1,okAt,decide_eq_false]
theorem bda (s:Bo):∀ (m i:Nat),s.length-i<=m->i<=s.length->∃ z,aa9 (S202_3step 0) (s,(),s,(i:Int))=some (bif at1 i (s.drop i) then .inr (s,z) else .inl (false,z)):=by
 intro m;induction m with
 | zero=>
  intro i hm Z;have o:¬i<s.length:=by omega
  rw [A2 (by omega)];exact ⟨_,aae (by simp only [S202_3step,S202_3,Ah,o,decide_false,Ae];rfl)⟩
 | succ m ih=>
  intro i hm Z;by_cases o:i<s.length
  ·have U:((i:Int)==(0:Int))=decide (i=0):=eqB i 0;rw [aa1 o 0,at1];by_cases X:byteAt s i<128
   ·have V:=agh s i X;have H:F285 0 (byteAt s i:Int)=some (clsN (s.getD i 0).toNat):=a3l _;cases d:okAt i (s.getD i 0) with
    | true=>
     obtain ⟨z,hz⟩:=ih (i+1) (by omega) (by omega);refine ⟨z,?_⟩;rw [Bool.true_and,<-hz];refine aba ?_;unfold okAt at d;simp only [S202_3step,S202_3,Ah,o,decide_true,Ad,aix,V,H,Aa,cls0,U];cases M:alnB (s.getD i 0) with
     | false=>grind
     | true=>
      rw [M] at d;cases O:decide (i=0) with
      | false=>rfl
      | true=>rw [O] at d;have W:=bnp (s.getD i 0);grind
    | false=>
     refine ⟨(s,((i+1:Nat):Int)),aae ?_⟩;unfold okAt at d;simp only [S202_3step,S202_3,Ah,o,decide_true,Ad,aix,V,H,Aa,cls0,U,Bool.false_and,Ae];cases M:alnB (s.getD i 0) with
     | false=>rfl
     | true=>
      rw [M] at d;cases O:decide (i=0) with
      | false=>grind
      | true=>rw [O] at d;have W:=bnp (s.getD i 0);grind
   ·have Y:=aqx s i (by omega);have H:=a3l (aas s i).1;rw [bfk Y] at H;have d:okAt i (s.getD i 0)=false:=by
     unfold okAt alnB lowB capB digB;have:byteAt s i=(s.getD i 0).toNat:=rfl;grind
    refine ⟨(s,((i+(aas s i).2:Nat):Int)),aae ?_⟩;rw [d];simp only [S202_3step,S202_3,Ah,o,decide_true,Ad,aix,H,Aa,Bool.false_and,Ae];rfl
  grind
theorem ag3 (s:Bo):F202 0 s=some (aes s):=by
 obtain ⟨z,H⟩:=bda s s.length 0 (by omega) (by omega);unfold F202;rw [aaq,H,A3];cases s with
 | nil=>rfl
 | cons c r=>
  rw [at1,a8j];have d:decide (((c::r).length:Int)>=(1:Int))=true:=Aj (by grind);have m:decide (((c::r).length:Int)<=(40:Int))=decide (r.length+1<=40):=leI _ 40;have o:okAt 0 c=letB c:=by grind [okAt,letB,bcd]
  rw [o,aes];cases letB c<;>cases r.all alnB<;>simp only [Bool.and_false,Bool.and_true,Bool.false_and,Bool.true_and,Ad,Ae,Aa,ab3,abg,d,m]
theorem bbj (s:Bo) (xs:List Bo) (o:xs.length<=9223372036854770000):aa9 (S140_3step 0) (s,xs.map PV.str,((xs.map PV.str).length:Int),((0:Nat):Int))=some (bif xs.all aes then .inr s else .inl false):=by
 have h:=ajf (step:=S140_3step 0) (λi=>(s,xs.map PV.str,((xs.map PV.str).length:Int),(i:Int))) (xs.map PV.str).length (λi=>aes ((xs.map PV.str).getD i .bad).asStr) (Sum.inl false:Bool⊕Bo) (Sum.inr s) (λi d=>by
  have m:i<xs.length:=by simpa using d
  simp only [S140_3step,S140_3,acr,aab,d,decide_true,Ad,Ah,ag3,Aa,abv (i:=i) (by omega)];grind) (by
  simp only [S140_3step,S140_3,acr,Nat.lt_irrefl,decide_false,Ae]) (xs.map PV.str).length 0 (by omega)
 rw [aqf (λx:PV=>aes x.asStr),List.all_map] at h;exact h
theorem aoc (c:UInt8):∀ s,(abz c s).length<=s.length+1:=by
 intro s;induction s with
 | nil=>simp [abz]
 | cons b r d=>simp only [abz];grind
theorem arf (s:Bo) (d:s.length<=1048576):aol 0 s ([46]:Bo)=some ((abz 46 s).map PV.str):=by
 unfold aol;have:Nat.blt s.length 4294967281=true:=by rw [Nat.blt_eq];omega
 grind
theorem ajb (s:Bo) (d:s.length<=1048576):F140 0 s=some (afb s):=by have m:=aoc 46 s;unfold F140 afb;have e:decide ((s.length:Int)<=(120:Int))=decide (s.length<=120):=leI _ 120;rw [arf s d,Aa,aaq,show (0:Int)=((0:Nat):Int) from rfl,bbj s _ (by omega)];grind [abz,aes,sumE]
noncomputable def aj1 (s:Bo):Bool:=(F294 0 s).getD false
theorem a8t (s:Bo):F294 0 s=some (aj1 s):=by unfold aj1;simp only [F294,agd,Option.getD_some]
theorem aww (s:Bo):F200 0 s=some (aj1 s):=by rw [<-a8t];rfl
noncomputable def afc (s:Bo):Bool:=aes s&&!aj1 s
theorem aj9 (s:Bo):F165 0 s=some (afc s):=by grind [F165,afc,ag3,aww,aes]
noncomputable def defP (s:Bo):Bool:=afb s&&(abz 46 s).all λx=>!aj1 x
theorem a0g (xs:List Bo) (O:xs.length<=9223372036854770000):F261 0 (xs.map PV.str) ()=some (!xs.all λx=>!aj1 x):=by
 have h:=ah6 (step:=S325_3step 0) (λi=>(xs.map PV.str,(),((xs.map PV.str).length:Int),(i:Int))) (xs.map PV.str).length (λi=>!aj1 ((xs.map PV.str).getD i .bad).asStr) (λi=>(Sum.inl (i:Int):Int⊕Unit)) (Sum.inr ()) (λi m=>by
  have M:i<xs.length:=by simpa using m
  simp only [S325_3step,S325_3,acr,aab,m,decide_true,Ad,Ah,aww,Aa,abv (i:=i) (by omega)];grind) (by
  simp only [S325_3step,S325_3,acr,Nat.lt_irrefl,decide_false,Ae]) (xs.map PV.str).length 0 (by omega)
 rw [aqf (λx:PV=>!aj1 x.asStr),List.all_map] at h;obtain ⟨r,o,z,H⟩:=h;unfold F261 F325;rw [aaq,show (0:Int)=((0:Nat):Int) from rfl,o];cases d:xs.all λx=>!aj1 x with
 | true=>rw [z d];rfl
 | false=>obtain ⟨j,_,_,rfl⟩:=H d;simp [sumE]
theorem apv (s:Bo) (d:s.length<=1048576):F160 0 s=some (defP s):=by
 have m:=aoc 46 s;unfold F160 defP;rw [ajb s d,Aa];cases afb s with
 | false=>rfl
 | true=>simp only [Ad,arf s d,Aa,a0g _ (show (abz 46 s).length<=_ by omega),Bool.not_not,Bool.true_and]
end Go.Ab
namespace Go.Ab
open Go
set_option maxRecDepth 100000
theorem nbeq (a b:Nat):((a:Int)==(b:Int))=decide (a=b):=by
 by_cases h:a=b
 ·simp [h]
 ·simp [h];omega
theorem aq9 {n:Nat} (h:n<=4611686018427387904):decide (n<=aaf)=true:=Aj h
theorem a6x:((List.range 256).all λb=>F311 0 (b:Int)==some (92::120::hex2 b))=true:=by kernel_rfl
theorem ba5 {b:Nat} (h:b<256):F311 0 (b:Int)=some (92::120::hex2 b):=by have:=Bf.1 a6x b (List.mem_range.2 h);simpa using this
theorem bkz (s:Bo) (i:Nat) (z:i<s.length):F240 0 s (i:Int) ((aas s i).1:Int)=some (ao3 s i):=by
 unfold F240 ao3;have hw:=a5s s i z;have hb:((s.getD ((i:Int)).toNat 0).toNat:Int)=(byteAt s i:Int):=rfl;have he:=ba5 (acw s i);have hr:aaa (i:Int) s.length=true:=by rw [aab,Aj z]
 have V:(((aas s i).1:Int)==(34:Int))=decide ((aas s i).1=34):=nbeq _ 34;have W:(((aas s i).1:Int)==(92:Int))=decide ((aas s i).1=92):=nbeq _ 92;have M:(((aas s i).1:Int)==(10:Int))=decide ((aas s i).1=10):=nbeq _ 10;have k9:(((aas s i).1:Int)==(9:Int))=decide ((aas s i).1=9):=nbeq _ 9;have O:(((aas s i).1:Int)==(13:Int))=decide ((aas s i).1=13):=nbeq _ 13;have o:(((aas s i).1:Int)==(127:Int))=decide ((aas s i).1=127):=nbeq _ 127;have U:decide (((aas s i).1:Int)<(32:Int))=decide ((aas s i).1<32):=abm _ 32;simp only [V,W,M,k9,O,o,U,hw,hr,hb,he,Ad,Aa];by_cases d:byteAt s i<128
 ·rw [agh s i d,akj s i d];have m:=al1 s i z (by rw [akj s i d];decide);rw [agh s i d,akj s i d] at m;simp only [m];by_cases X:byteAt s i=34
  ·simp [X]
  by_cases Y:byteAt s i=92
  ·simp [Y]
  by_cases Z:byteAt s i=10
  ·simp [Z]
  by_cases c4:byteAt s i=9
  ·simp [c4]
  by_cases c5:byteAt s i=13
  ·simp [c5]
  simp only [X,Y,Z,c4,c5,decide_false,Ae,Bb];by_cases c6:byteAt s i<32
  ·simp [c6]
  ·by_cases c7:byteAt s i=127
   ·simp [c7]
   ·simp [c6,c7]
 ·have hh:=aqx s i (by omega);have d1:decide ((aas s i).1=34)=false:=Al (by omega);have d2:decide ((aas s i).1=92)=false:=Al (by omega);have d3:decide ((aas s i).1=10)=false:=Al (by omega);have d4:decide ((aas s i).1=9)=false:=Al (by omega);have d5:decide ((aas s i).1=13)=false:=Al (by omega);have d6:decide ((aas s i).1=127)=false:=Al (by omega);have d7:decide ((aas s i).1<32)=false:=Al (by omega);have e1:¬byteAt s i=34:=by omega
  have e2:¬byteAt s i=92:=by omega
  have e3:¬byteAt s i=10:=by omega
  have e4:¬byteAt s i=9:=by omega
  have e5:¬byteAt s i=13:=by omega
  have e6:¬byteAt s i=127:=by omega
  have e7:¬byteAt s i<32:=by omega
  simp only [d1,d2,d3,d4,d5,d6,d7,e1,e2,e3,e4,e5,e6,e7,Ae,Ao,Ad,Aa,Bb,false_or];by_cases H:abj s i=0
  ·simp [H]
  ·simp only [H,decide_false,Ae,Bb];rw [al1 s i z H]
theorem a8q (s:Bo):∀ (m i:Nat) (o:Bo),s.length-i<=m->i<=s.length->o.length+4*(s.length-i)<=140737488355328->
 ∃ z,aa9 (S134_5step 0) (s,(),(),o,s,(i:Int))=some ((),o++abe s i,s,z):=by
 intro m
 induction m with
 | zero=>
  intro i o V O M
  have d:¬i<s.length:=by omega
  rw [abe,if_neg d]
  refine ⟨(i:Int),aae ?_⟩
  simp only [S134_5step,S134_5,Ah,d,decide_false,Ae,List.append_nil]
 | succ m Y=>
  intro i o V O M
  by_cases d:i<s.length
  ·have hp:=ayu s i d;have Z:=a9f s i d;have U:=aic s i;obtain ⟨z,X⟩:=Y (i+adw s i) (o++ao3 s i) (by omega) (by omega) (by rw [Am];omega);refine ⟨z,?_⟩;rw [abe,if_pos d,<-An,<-X];refine aba ?_;have W:Nat.ble (o.length+(ao3 s i).length) 140737488355328=true:=by rw [Nat.ble_eq];omega
   simp only [S134_5step,S134_5,Ah,d,decide_true,Ad,aix,bkz s i d,bi9 s i d,Aa,aa2,W]
  ·have H:¬i<s.length:=d;rw [abe,if_neg d];refine ⟨(i:Int),aae ?_⟩;simp only [S134_5step,S134_5,Ah,d,decide_false,Ae,List.append_nil]
theorem ad2 (s:Bo):(abd s).length<=4*s.length+2:=by have:=amw s s.length 0 (by omega);simp [abd];omega
theorem agq (s:Bo) (M:s.length<=1048576):F134 0 s=some (abd s):=by
 obtain ⟨z,d⟩:=a8q s s.length 0 [34] (by omega) (by omega) (by simp;omega);have H:=amw s s.length 0 (by omega);unfold F134;have m:aa2 0 ([34]:Bo) []=some (1,.nilIface,[34]):=rfl;have o:Nat.ble (([34]++abe s 0).length+1) 140737488355328=true:=by rw [Nat.ble_eq];simp;omega
 simp only [m,Aa,aaq,d];simp only [aa2,Ak,Ap,Nat.zero_add,o,Ad,Aa,ain];simp [abd]
end Go.Ab
namespace Go.Ab
open Go
theorem bneI {a b:Int} (h:a≠b):(a != b)=true:=by simp [h]
theorem beqI {a b:Int} (h:a≠b):(a==b)=false:=by simp [h]
def agm:Bo:=[100,101,112,114,101,99,97,116,101,100]
def ap2:Bo:=[115,101,99,114,101,116]
def agn:Bo:=[105,100,101,109,112,111,116,101,110,116]
def bg7:Bo:=[100,111,99]
def avu:Bo:=[97,108,105,97,115]
def avx:Bo:=[114,111,117,116,101]
def avw:Bo:=[111,119,110,101,114]
def avy:Bo:=[115,105,110,99,101]
def avz:Bo:=[117,110,116,105,108]
def ap1:Bo:=[108,101,110,103,116,104]
def amp:Bo:=[116,105,109,101,111,117,116]
def bha:Bo:=[109,105,110]
def bg9:Bo:=[109,97,120]
def knownNames:List Bo:=[agm,ap2,agn,bg7,avu,avx,avw,avy,avz,ap1,amp,bha,bg9]
noncomputable def aac (d:Bo):Int:=(F152 0 d).getD 0
theorem a2x {d:Bo} (h:d∉knownNames):(d==agm)=false/\(d==ap2)=false/\(d==agn)=false/\(d==bg7)=false/\(d==avu)=false/\(d==avx)=false/\(d==avw)=false/\
 (d==avy)=false/\(d==avz)=false/\(d==ap1)=false/\(d==amp)=false/\(d==bha)=false/\(d==bg9)=false:=by
 simp only [knownNames,Bl,List.not_mem_nil,or_false,not_or] at h
 grind
theorem adz {d:Bo} (h:d∉knownNames):aac d=0:=by obtain ⟨M,O,U,V,W,X,Y,Z,h9,m,o,z,H⟩:=a2x h;unfold agm at M;unfold ap2 at O;unfold agn at U;unfold bg7 at V;unfold avu at W;unfold avx at X;unfold avw at Y;unfold avy at Z;unfold avz at h9;unfold ap1 at m;unfold amp at o;unfold bha at z;unfold bg9 at H;simp only [aac,F152,M,O,U,V,W,X,Y,Z,h9,m,o,z,H,Ae,Option.getD_some]
theorem ajc {d:Bo} (h:d∈knownNames):aac d≠0:=by
 simp only [knownNames,Bl,List.not_mem_nil,or_false] at h;have e:∀ k:Int,k≠0->some (aac d)=some k->aac d≠0:=λk o m=>by grind
 rcases h with rfl | rfl | rfl | rfl | rfl | rfl | rfl | rfl | rfl | rfl | rfl | rfl | rfl
 ·exact e 1 (by decide) (by kernel_rfl)
 ·exact e 1 (by decide) (by kernel_rfl)
 ·exact e 1 (by decide) (by kernel_rfl)
 ·exact e 7 (by decide) (by kernel_rfl)
 ·exact e 7 (by decide) (by kernel_rfl)
 ·exact e 7 (by decide) (by kernel_rfl)
 ·exact e 7 (by decide) (by kernel_rfl)
 ·exact e 4 (by decide) (by kernel_rfl)
 ·exact e 4 (by decide) (by kernel_rfl)
 ·exact e 4 (by decide) (by kernel_rfl)
 ·exact e 4 (by decide) (by kernel_rfl)
 ·exact e 3 (by decide) (by kernel_rfl)
 ·exact e 3 (by decide) (by kernel_rfl)
noncomputable def akc:List (PV×PV):=(F145 0).getD []
theorem a4b:F145 0=some akc:=by kernel_rfl
theorem a1a:akc=[(.str agm,.agg [.int 1,.int 126]),(.str bg7,.agg [.int 7,.int 126]),(.str avu,.agg [.int 7,.int 84]),(.str avy,.agg [.int 4,.int 84]),(.str avz,.agg [.int 4,.int 84]),(.str bha,.agg [.int 3,.int 4]),(.str bg9,.agg [.int 3,.int 4]),
 (.str ap1,.agg [.int 4,.int 4]),(.str ap2,.agg [.int 1,.int 4]),(.str agn,.agg [.int 1,.int 64]),(.str amp,.agg [.int 4,.int 64]),(.str avx,.agg [.int 7,.int 64]),(.str avw,.agg [.int 7,.int 34])]:=by kernel_rfl
theorem aox {d:Bo} (h:d∉knownNames):PV.mget akc (.str d)=none:=by obtain ⟨M,O,U,V,W,X,Y,Z,h9,m,o,z,H⟩:=a2x h;rw [a1a];simp only [PV.mget,List.find?,anq,M,O,U,V,W,X,Y,Z,h9,m,o,z,H,Option.map_none]
theorem bb2 (d:Bo):F71 0 d=some (aac d):=by
 by_cases h:d∈knownNames
 ·simp only [knownNames,Bl,List.not_mem_nil,or_false] at h;rcases h with rfl | rfl | rfl | rfl | rfl | rfl | rfl | rfl | rfl | rfl | rfl | rfl | rfl;all_goals (refine Eq.trans (b:=_) ?_ rfl;kernel_rfl)
 ·rw [adz h];unfold F71;rw [a4b,Aa,aox h];rfl
noncomputable def bbg (d:Bo) (t:Int):Bool:=!(bif (bif (decide (t<(1:Int))) then true else (decide (t>(6:Int)))) then true else ((ae2 .and .i64 (((((PV.mget akc (.str d)).getD (.agg [.int 0,.int 0])).fld 1).asInt).fdiv (2^(min t.toNat (IntKind.bits .i64)))) (1:Int))==(0:Int)))
theorem bef {d:Bo} (h:d∈knownNames) (t:Int):(bif (bif (decide (t<(1:Int))) then true else (decide (t>(6:Int)))) then true else ((ae2 .and .i64 (((((PV.mget akc (.str d)).getD (.agg [.int 0,.int 0])).fld 1).asInt).fdiv (2^(min t.toNat (IntKind.bits .i64)))) (1:Int))==(0:Int)))=!(bbg d t):=by unfold bbg;grind
def aa7 (v:PV):Int:=(v.fld 0).asInt
def aan (v:PV):Int:=(v.fld 1).asInt
def abl (v:PV):Bo:=(v.fld 2).asStr
def vLists (v:PV):Nat:=(v.fld 3).asList.length+(v.fld 4).asList.length+(v.fld 5).asList.length+(v.fld 6).asList.length
def aee (v:PV):Prop:=vLists v<=1048576/\(abl v).length<=1048576/\0<=aan v/\aan v<18446744073709551616
def ax8 (k:Int):Bool:=decide (1<=k/\k<=9)
def afp (k:Int):Bool:=k==7||k==8
def acd (k d:Int):Bool:=
 if k=1 then decide (d<=1) else if k=2 then decide (-2147483648<=IntKind.wrap .i64 d/\IntKind.wrap .i64 d<=2147483647) else if k=4 then decide (d<4294967296) else if k=9 then decide (d<2147483648) else true
def adc (k:Int) (v:PV):Bool:=
 ax8 k&&(aa7 v==k)&&decide (vLists v=0)&&(if afp k then (aan v==0)&&decide ((abl v).length<=4096)&&((k==8)||valid (abl v)) else (abl v==[])&&acd k (aan v))
theorem ah1 (k:Int) (v:PV) (hs:aee v):F146 0 k v=some (adc k v):=by
 have hv:F185 0 (abl v)=some (valid (abl v)):=ap9 _;have V:(v.fld 0).asInt=aa7 v:=rfl;have W:(v.fld 1).asInt=aan v:=rfl;have X:(v.fld 2).asStr=abl v:=rfl;have i1:(bif decide (k>=(1:Int)) then decide (k<=(9:Int)) else false)=ax8 k:=by grind [ax8]
 have Y:(v.fld 3).asList.length+(v.fld 4).asList.length+(v.fld 5).asList.length+(v.fld 6).asList.length=vLists v:=rfl;have hL:=hs.1;have w1:IntKind.wrap .i64 (((v.fld 3).asList.length:Int)+((v.fld 4).asList.length:Int))=(((v.fld 3).asList.length+(v.fld 4).asList.length:Nat):Int):=wadd (by grind);have w2:IntKind.wrap .i64 ((((v.fld 3).asList.length+(v.fld 4).asList.length:Nat):Int)+((v.fld 5).asList.length:Int))=(((v.fld 3).asList.length+(v.fld 4).asList.length+(v.fld 5).asList.length:Nat):Int):=wadd (by grind);have w3:IntKind.wrap .i64 ((((v.fld 3).asList.length+(v.fld 4).asList.length+(v.fld 5).asList.length:Nat):Int)+((v.fld 6).asList.length:Int))=(((v.fld 3).asList.length+(v.fld 4).asList.length+(v.fld 5).asList.length+(v.fld 6).asList.length:Nat):Int):=wadd (by grind);have tk:∀ k:Int,(bif (k==(7:Int)) then true else (k==(8:Int)))=afp k:=λk=>by grind [afp]
 unfold F146 F248 F249 F250 F307;simp only [Aa,i1,tk,V,W,X,hv,gb,w1,w2,w3,Y];have d:(bif (k==(1:Int)) then some (decide (aan v<=1)) else bif (k==(2:Int)) then some (bif decide (IntKind.wrap .i64 (aan v)>=-2147483648) then decide (IntKind.wrap .i64 (aan v)<=2147483647) else false) else
  bif (k==(9:Int)) then some (decide (aan v<=2147483647)) else bif (k==(4:Int)) then some (decide (aan v<=4294967295)) else some true)=some (acd k (aan v)):=by
  unfold acd
  by_cases H:k=1
  ·subst H;simp
  have M:(k==1)=false:=by simp [H]
  simp only [M,Ae,if_neg H]
  by_cases k2:k=2
  ·grind
  grind
 rw [d];unfold adc;cases h1:ax8 k
 ·simp
 cases U:(aa7 v==k)
 ·grind
 have Z:(aa7 v != k)=false:=by simp [bne,U]
 have m:aa7 v=k:=by simpa using U
 rw [m];have o:(k != k)=false:=by simp
 simp only [o,Aq,Ae,Ao,Bool.true_and,Ad];by_cases h3:vLists v=0
 ·have z:decide ((vLists v:Int)>0)=false:=by simp;omega
  simp only [z,Ae,h3,decide_true,Bool.true_and];have hl:decide (((abl v).length:Int)>4096)=!decide ((abl v).length<=4096):=by grind
  cases h4:afp k
  ·simp only [Ae,A8,Bb,Aa];have k7:(k != 7)=true:=by
    grind
   all_goals grind
  ·simp only [Ad,Ba,Aa];have hr:acd k (aan v)=true:=by
    all_goals grind
   simp only [hr,hl];have O:k=7\/k=8:=by all_goals grind
   rcases O with rfl | rfl;all_goals grind
 grind
def aef (n:PV):Bo:=(n.fld 0).asStr
def nVal (n:PV):PV:=n.fld 1
noncomputable def abt (n:PV):Bool:=(aac (aef n) != 0)&&adc (aac (aef n)) (nVal n)
def acq (n:PV):Prop:=aee (nVal n)/\(aef n).length<=1048576
theorem a4v (n:PV) (m:acq n):F72 0 n=some (abt n):=by unfold F72;have e:(n.fld 0).asStr=aef n:=rfl;have d:n.fld 1=nVal n:=rfl;simp only [e,d,bb2,Aa,ah1 _ _ m.1,gb];grind [abt,aac,aef]
theorem a7c {k:Int}{v:PV} (h:(aa7 v==k)=false):adc k v=false:=by grind [adc]
noncomputable def chk1 (n:PV) (t:Int) (d:Bo) (ok:Bool):Int:=
 if aac (aef n)=0 then 8 else if bbg (aef n) t=false then 1 else if abt n=false then 12 else if ok&&Op.bytesLess (aef n) d then 11 else if ok&&(aef n==d) then 9 else 0
theorem blw (d:Bo):PV.mhas akc (.str d)=decide (d∈knownNames):=by
 by_cases h:d∈knownNames
 ·rw [Aj h];simp only [knownNames,Bl,List.not_mem_nil,or_false] at h;rcases h with rfl | rfl | rfl | rfl | rfl | rfl | rfl | rfl | rfl | rfl | rfl | rfl | rfl;all_goals (refine Eq.trans (b:=_) ?_ rfl;kernel_rfl)
 grind [decide_eq_false,PV.mhas,aox]
theorem bor (n:PV) (t:Int) (d:Bo) (ok:Bool) (o:acq n):F144 0 n t d ok=some (chk1 n t d ok):=by
 unfold F144 chk1;have e:(n.fld 0).asStr=aef n:=rfl;simp only [e,a4b,Aa,blw,a4v n o];by_cases h:aef n∈knownNames
 ·have m:=ajc h;have z:=bef h t;simp only [h,decide_true,Aq,Ae,if_neg m];rw [z];have H:imp (!(bif decide (t<(1:Int)) then true else decide (t>(6:Int)))) (decide (0<=t))=true:=by
   grind [imp]
  grind
 ·rw [adz h];grind
noncomputable def chkL (t:Int):List PV->Bo->Bool->Int
 | [],_,_=>0
 | n::r,last,ok=>if chk1 n t last ok=0 then chkL t r (aef n) true else chk1 n t last ok
noncomputable def aiu (l:List PV) (t:Int):Int:=if l.length>8 then 3 else chkL t l [] false
theorem a6k (l:List PV) (t:Int) (Z:l.length<=1048576) (X:∀ n,n∈l->acq n):∀ (m i:Nat) (d:Bo),l.length-i<=m->i<=l.length->
 aa9 (S70_6step 0) (t,d,l,(l.length:Int),(i:Int))=some (bif decide (chkL t (l.drop i) d (decide (0<i))=0) then .inr () else .inl (chkL t (l.drop i) d (decide (0<i)))):=by
 intro m
 induction m with
 | zero=>
  intro i d W V
  have o:¬i<l.length:=by omega
  rw [A2 (by omega)]
  exact aae (by simp only [S70_6step,S70_6,abm,o,decide_false,Ae];rfl)
 | succ m Y=>
  intro i d W V
  by_cases o:i<l.length
  ·rw [aa1 o .bad,chkL];have H:l.getD i .bad∈l:=by grind
   have O:decide ((i:Int)>0)=decide (0<i):=by grind
   have M:=bor (l.getD i .bad) t d (decide (0<i)) (X _ H);by_cases z:chk1 (l.getD i .bad) t d (decide (0<i))=0
   ·rw [if_pos z];rw [aba (x1:=(t,aef (l.getD i .bad),l,(l.length:Int),((i+1:Nat):Int)))]
    ·rw [Y (i+1) _ (by omega) (by omega),Aj (show 0<i+1 by omega)]
    ·rw [z] at M;simp only [S70_6step,S70_6,abm,aab,o,decide_true,Ad,Ah,O,M,Aa,bex (i:=i) (by omega)];rfl
   ·rw [if_neg z,Al z];refine aae ?_;have U:(chk1 (l.getD i .bad) t d (decide (0<i)) != (0:Int))=true:=bneI z;simp only [S70_6step,S70_6,abm,aab,o,decide_true,Ad,Ah,O,M,Aa,U];rfl
  grind
theorem bfj (l:List PV) (t:Int) (z:l.length<=1048576) (H:∀ n,n∈l->acq n):F70 0 l t=some (aiu l t):=by
 have h:=a6k l t z H l.length 0 [] (by omega) (by omega);unfold F70 aiu;have o:decide ((l.length:Int)>8)=decide (l.length>8):=by grind
 rw [o,aaq,show (0:Int)=((0:Nat):Int) from rfl,h];by_cases m:l.length>8
 ·simp [m]
 ·simp only [m,decide_false,Ae,Bb,A3,Nat.lt_irrefl];by_cases d:chkL t l [] false=0
  ·rw [d];rfl
  ·rw [Al d];rfl
end Go.Ab
namespace Go.Ab
open Go
set_option maxRecDepth 100000
def preD (u:Nat):Bo:=if u<10 then [] else Lib.decDigits (u / 10)
theorem bdd (u:Nat):preD u++[UInt8.ofNat (48+u%10)]=Lib.decDigits u:=by
 have e:=Lib.decDigits.eq_1 u;unfold preD;rw [e];by_cases h:u<10
 ·rw [if_pos h,dif_pos h,Nat.mod_eq_of_lt h];rfl
 ·rw [if_neg h,dif_neg h]
theorem bfp:∀ (f u:Nat),(decF f u).length<=f:=by
 intro f;induction f with
 | zero=>intro u;simp [decF]
 | succ f d=>
  intro u;unfold decF;cases Nat.ble u 9 with
  | true=>simp
  | false=>have:=d (u / 10);simp;omega
theorem agf (u:Nat):(decB u).length<=20:=bfp 20 u
theorem bb0 (n:Int):(amb n).length<=21:=by
 unfold amb;have d:=agf n.natAbs;have m:=agf n.toNat;cases decide (n<0) with
 | true=>simp;omega
 | false=>simp;omega
def am6 (v:PV):Bo:=
 bif adc (aa7 v) v then
  (bif aa7 v==1 then (bif aan v==1 then [116,114,117,101] else [102,97,108,115,101])
  else bif aa7 v==2 then amb (IntKind.wrap .i64 (aan v)) else bif aa7 v==3 then amb (IntKind.wrap .i64 (aan v)) else bif aa7 v==7 then abd (abl v) else decB (aan v).toNat)
 else []
theorem a4d (n:Int) (d:-9223372036854775808<=n) (m:n<=9223372036854775807):alt 0 n=some (amb n):=by unfold alt;rw [Aj d,Aj m];rfl
theorem wrapI (u:Nat) (d:u<18446744073709551616):-9223372036854775808<=IntKind.wrap .i64 (u:Int)/\IntKind.wrap .i64 (u:Int)<=9223372036854775807:=by rw [IntKind.wrap_i64];omega
theorem bek (v:PV) (Z:aee v) (W:aa7 v≠6) (X:aa7 v≠8):F73 0 v=some (am6 v):=by
 obtain ⟨_,M,d,o⟩:=Z;obtain ⟨u,hu⟩:∃ u:Nat,aan v=(u:Int):=⟨(aan v).toNat,(Int.toNat_of_nonneg d).symm⟩;have m:u<18446744073709551616:=by omega
 have H:=wrapI u m;have O:(v.fld 0).asInt=aa7 v:=rfl;have U:(v.fld 1).asInt=aan v:=rfl;have V:(v.fld 2).asStr=abl v:=rfl;have k6:(aa7 v==(6:Int))=false:=beqI W;have k8:(aa7 v==(8:Int))=false:=beqI X;have z:awz 0 (u:Int) (10:Int)=some (decB u):=by unfold awz;rw [Aj (by omega),Aj (by omega)];simp
 have Y:Lfmt 0 (u:Int) (10:Int)=some (decB u):=z;unfold F73 am6;simp only [O,U,V,ah1 _ _ ⟨by assumption,M,d,o⟩,Aa,k6,k8,Ae,agq _ M,hu,a4d _ H.1 H.2,F135,Y,Ah,F147,F251];generalize amb (IntKind.wrap .i64 (u:Int))=x1;generalize abd (abl v)=x2;generalize decB u=x3;generalize adc (aa7 v) v=q0;generalize (aa7 v==(1:Int))=q1;generalize (aa7 v==(2:Int))=q2;generalize (aa7 v==(3:Int))=q3;generalize (aa7 v==(7:Int))=q7;generalize ((u:Int)==(1:Int))=q;cases q0<;>cases q1<;>cases q2<;>cases q3<;>cases q7<;>cases q<;>rfl
theorem ash (v:PV) (z:(abl v).length<=1048576):(am6 v).length<=4194400:=by have d:=ad2 (abl v);have m:=agf (aan v).toNat;have o:=bb0 (IntKind.wrap .i64 (aan v));unfold am6;cases adc (aa7 v) v<;>cases (aa7 v==(1:Int))<;>cases (aa7 v==(2:Int))<;>cases (aa7 v==(3:Int))<;>cases (aa7 v==(7:Int))<;>cases (aan v==(1:Int))<;>simp only [Ad,Ae,Ak,Ap]<;>omega
end Go.Ab
namespace Go.Ab
open Go
set_option maxRecDepth 100000
theorem a7g:((List.range 16).all λd=>(([48,49,50,51,52,53,54,55,56,57,97,98,99,100,101,102,103,104,105,106,107,108,109,110,111,112,113,114,115,116,117,118,119,120,121,122]:Bo).getD d 0)==hexd d)=true:=by kernel_rfl
theorem bjk {d:Nat} (h:d<16):(([48,49,50,51,52,53,54,55,56,57,97,98,99,100,101,102,103,104,105,106,107,108,109,110,111,112,113,114,115,116,117,118,119,120,121,122]:Bo).getD d 0)=hexd d:=by have:=Bf.1 a7g d (List.mem_range.2 h);simpa using this
theorem ait (b:UInt8):aa4 (PV.int (b.toNat:Int))=b:=by show UInt8.ofNat ((b.toNat:Int)).toNat=b;rw [Ah,UInt8.ofNat_toNat]
theorem a5a {d:Type} (l:List d) (i:Nat) (x:d) (h:i<l.length):(l.set i x).drop i=x::l.drop (i+1):=by rw [List.drop_set,if_neg (Nat.lt_irrefl i),Nat.sub_self,List.drop_eq_getElem_cons h];rfl
theorem a99:∀ (k u i:Nat) (o:List PV),u<16^(k+1)->u<18446744073709551616->k+1<=i->i<=65->o.length=65->
 ∃ (V H:Nat) (m:List PV),aa9 (S315_12step 0) ([],(u:Int),false,false,[],([]:Bo),(),(i:Int),(4:Int),(16:Int),(15:Int),PV.agg o)=some ([],(V:Int),false,false,[],([]:Bo),(),(H:Int),PV.agg m)/\
  V<16/\1<=H/\H<=65/\m.length=65/\hexd V::(m.drop H).map aa4=hexF (k+1) u++(o.drop i).map aa4:=by
 intro k
 induction k with
 | zero=>
  intro u i o hu M hi z W
  have d:u<16:=by simpa using hu
  have O:decide ((u:Int)>=(16:Int))=false:=Al (by omega)
  refine ⟨u,i,o,aae ?_,d,hi,z,W,?_⟩
  ·simp only [S315_12step,S315_12,O,Ae]
  ·rw [hexF,if_pos d];rfl
 | succ k ih=>
  intro u i o hu M hi z W
  by_cases d:u<16
  ·have O:decide ((u:Int)>=(16:Int))=false:=Al (by omega);refine ⟨u,i,o,aae ?_,d,by omega,z,W,?_⟩
   ·simp only [S315_12step,S315_12,O,Ae]
   ·rw [hexF,if_pos d];rfl
  ·have O:decide ((u:Int)>=(16:Int))=true:=Aj (by omega);have hm:u%16<16:=Nat.mod_lt _ (by decide);obtain ⟨V,H,m,h1,h2,h3,h4,h5,h6⟩:=ih (u / 16) (i-1) (o.set (i-1) (PV.int ((hexd (u%16)).toNat:Int))) (by rw [Nat.pow_succ] at hu;omega) (by omega) (by omega) (by omega) (by simp [W]);refine ⟨V,H,m,?_,h2,h3,h4,h5,?_⟩
   ·rw [<-h1];refine aba ?_;have hw:IntKind.wrap .i64 ((i:Int)-(1:Int))=((i-1:Nat):Int):=by
     rw [show (i:Int)-1=((i-1:Nat):Int) by omega];exact ae0 (by omega)
    have hb:ae2 .and .u64 (u:Int) (15:Int)=((u%16:Nat):Int):=by have:=aly u 15 M (by decide);rw [show u &&& 15=u%16 from Nat.and_two_pow_sub_one_eq_mod u 4] at this;exact this
    have Y:aaa ((u%16:Nat):Int) (([48,49,50,51,52,53,54,55,56,57,97,98,99,100,101,102,103,104,105,106,107,108,109,110,111,112,113,114,115,116,117,118,119,120,121,122]:Bo).length)=true:=by rw [aab];exact Aj (A0 hm (by decide))
    have Z:aaa ((i-1:Nat):Int) 65=true:=by rw [aab];exact Aj (by omega)
    have X:decide ((0:Int)<=(4:Int))=true:=rfl;have U:(u:Int).fdiv (2^(min (4:Int).toNat (IntKind.bits .u64)))=((u / 16:Nat):Int):=by show (u:Int).fdiv 16=_;rw [Int.fdiv_eq_ediv_of_nonneg _ (by decide)];rfl
    simp only [S315_12step,S315_12,O,Ad,hw,hb,Y,Z,X,U,Ah,bjk hm];rfl
   ·rw [h6,show hexF (k+1+1) u=hexF (k+1) (u / 16)++[hexd (u%16)] by rw [hexF,if_neg d],An];congr 1;rw [a5a _ _ _ (by omega),show i-1+1=i by omega,Be,ait];rfl
def a9u (o:((List PV)×Int×Bool×Bool×(List PV)×Bo×Unit×Int×PV)):Option ((List PV)×Bo):=
 let d:=IntKind.wrap .i64 (o.2.2.2.2.2.2.2.1-(1:Int))
 let z:=o.2.1
 bif aaa z (([48,49,50,51,52,53,54,55,56,57,97,98,99,100,101,102,103,104,105,106,107,108,109,110,111,112,113,114,115,116,117,118,119,120,121,122]:Bo).length) then
 let H:=((([48,49,50,51,52,53,54,55,56,57,97,98,99,100,101,102,103,104,105,106,107,108,109,110,111,112,113,114,115,116,117,118,119,120,121,122]:Bo).getD z.toNat 0).toNat:Int)
 bif aaa d 65 then
 bif o.2.2.1 then
  let m:=IntKind.wrap .i64 (d-(1:Int))
  bif aaa m 65 then
  bif o.2.2.2.1 then
   bif decide (0<=m/\m<65/\m<=(65:Int)/\(65:Int)<=65) then
   none
   else none
  else
   bif decide (0<=m/\m<65/\m<=(65:Int)/\(65:Int)<=65) then
   let M:=(((PV.agg ((PV.agg (o.2.2.2.2.2.2.2.2.parts.set d.toNat (PV.int H))).parts.set m.toNat (PV.int (45:Int)))).parts.drop m.toNat).take ((65:Int).toNat-m.toNat)).map aa4
   some (o.2.2.2.2.1,M)
   else none
  else none
 else
  bif o.2.2.2.1 then
   bif decide (0<=d/\d<65/\d<=(65:Int)/\(65:Int)<=65) then
   none
   else none
  else
   bif decide (0<=d/\d<65/\d<=(65:Int)/\(65:Int)<=65) then
   let O:=(((PV.agg (o.2.2.2.2.2.2.2.2.parts.set d.toNat (PV.int H))).parts.drop d.toNat).take ((65:Int).toNat-d.toNat)).map aa4
   some (o.2.2.2.2.1,O)
   else none
 else none
 else none
theorem a98 (u:Int):F315 0 [] u 16 false false=(aa9 (S315_12step 0) ([],u,false,false,[],([]:Bo),(),(65:Int),(4:Int),(16:Int),(15:Int),PV.agg (List.replicate 65 (PV.int (0:Int))))).bind a9u:=by kernel_rfl
theorem fmt16 (u:Nat) (X:u<18446744073709551616):Lfmt 0 (u:Int) (16:Int)=some (hexF 16 u):=by
 obtain ⟨M,d,o,U,O,Z,h4,h5,V⟩:=a99 15 u 65 (List.replicate 65 (PV.int (0:Int))) (by omega) X (by omega) (by omega) (by simp);have e:Lfmt 0 (u:Int) (16:Int)=(F315 0 [] (u:Int) 16 false false).bind λy=>some y.2:=rfl;rw [e,a98,show (65:Int)=((65:Nat):Int) from rfl,U,Aa];have Y:IntKind.wrap .i64 ((d:Int)-(1:Int))=((d - 1:Nat):Int):=by rw [show (d:Int)-1=((d - 1:Nat):Int) by omega];exact ae0 (by omega)
 have z:aaa ((M:Nat):Int) (([48,49,50,51,52,53,54,55,56,57,97,98,99,100,101,102,103,104,105,106,107,108,109,110,111,112,113,114,115,116,117,118,119,120,121,122]:Bo).length)=true:=by rw [aab];exact Aj (A0 O (by decide))
 have H:aaa ((d - 1:Nat):Int) 65=true:=by rw [aab];exact Aj (by omega)
 have W:decide ((0:Int)<=((d - 1:Nat):Int)/\((d - 1:Nat):Int)<65/\((d - 1:Nat):Int)<=(65:Int)/\(65:Int)<=65)=true:=Aj (by omega);have m:(((PV.agg (o.set (d - 1) (PV.int ((hexd M).toNat:Int)))).parts.drop (d - 1)).take ((65:Int).toNat-(d - 1))).map aa4=hexF 16 u:=by show (((o.set (d - 1) (PV.int ((hexd M).toNat:Int))).drop (d - 1)).take (65-(d - 1))).map aa4=_;rw [List.take_of_length_le (by simp;omega),a5a _ _ _ (by omega),show d - 1+1=d by omega,Be,ait,V];simp
 unfold a9u;simp only [Y,z,H,W,Ad,Ae,Ah,bjk O,PV.parts] at m ⊢;rw [m];rfl
theorem axj (u:Nat) (z:u<18446744073709551616):F253 0 (u:Int)=some (ab9 u):=by
 have U:ae2 .and .u64 (u:Int) (9218868437227405312:Int)=((u / 4503599627370496%2048*4503599627370496:Nat):Int):=by have:=aly u 9218868437227405312 z (by decide);rw [be6] at this;exact this
 have V:ae2 .and .u64 (u:Int) (4503599627370495:Int)=((u%4503599627370496:Nat):Int):=by have:=aly u 4503599627370495 z (by decide);rw [be7] at this;exact this
 have H:(((u / 4503599627370496%2048*4503599627370496:Nat):Int)==(9218868437227405312:Int))=decide (u / 4503599627370496%2048=2047):=by refine (nbeq _ 9218868437227405312).trans ?_;rw [decide_eq_decide];omega
 have M:(((u / 4503599627370496%2048*4503599627370496:Nat):Int)==(0:Int))=decide (u / 4503599627370496%2048=0):=by refine (nbeq _ 0).trans ?_;rw [decide_eq_decide];omega
 have O:(((u%4503599627370496:Nat):Int)==(0:Int))=decide (u%4503599627370496=0):=nbeq _ 0;unfold F253 ab9;simp only [U,V,H,M,O,bne];by_cases o:u / 4503599627370496%2048=2047
 ·have m:¬u / 4503599627370496%2048=0:=by omega
  by_cases d:u%4503599627370496=0
  ·rw [if_neg (by omega),if_pos (by omega)];simp [o,d]
  ·rw [if_pos (by omega)];simp [o,d]
 ·by_cases m:u / 4503599627370496%2048=0
  ·by_cases d:u%4503599627370496=0
   ·rw [if_neg (by omega),if_neg (by omega),if_pos (by omega)];simp [m,d]
   ·rw [if_neg (by omega),if_neg (by omega),if_neg (by omega),if_pos (by omega)];simp [m,d]
  ·rw [if_neg (by omega),if_neg (by omega),if_neg (by omega),if_neg (by omega)];simp [o,m]
def ab2 (u:Nat):Bo:=
 bif ab9 u==0 then [110,97,110] else bif ab9 u==1 then (bif decide (9223372036854775808<=u) then [45,105,110,102] else [105,110,102]) else [48,120]++hexN 16 u
theorem a2a (n:Nat):Lib.repeatL ([48]:Bo) n=List.replicate n 48:=by
 induction n with
 | zero=>rfl
 | succ n d=>rw [List.replicate_succ,<-d];rfl
theorem aqy (u:Nat) (d:u<18446744073709551616):F149 0 (u:Int)=some (ab2 u):=by
 obtain ⟨V,H⟩:(hexF 16 u).length<=16/\List.replicate (16-(hexF 16 u).length) 48++hexF 16 u=hexN 16 u:=bge 15 u (by omega);have O:ae2 .and .u64 (u:Int) (9223372036854775808:Int)=((u / 9223372036854775808*9223372036854775808:Nat):Int):=by have:=aly u 9223372036854775808 d (by decide);rw [be8 u d] at this;exact this
 have m:(((u / 9223372036854775808*9223372036854775808:Nat):Int) != (0:Int))=decide (9223372036854775808<=u):=by rw [show (((u / 9223372036854775808*9223372036854775808:Nat):Int) != (0:Int))=!(((u / 9223372036854775808*9223372036854775808:Nat):Int)==((0:Nat):Int)) from rfl,nbeq,<-decide_not,decide_eq_decide];omega
 have U:IntKind.wrap .i64 ((16:Int)-((hexF 16 u).length:Int))=((16-(hexF 16 u).length:Nat):Int):=by rw [show (16:Int)-((hexF 16 u).length:Int)=((16-(hexF 16 u).length:Nat):Int) by omega];exact ae0 (by omega)
 have M:aim 0 ([48]:Bo) ((16-(hexF 16 u).length:Nat):Int)=some (List.replicate (16-(hexF 16 u).length) 48):=by unfold aim;rw [Aj (by omega),Aj (by omega),Ah,show Nat.ble (([48]:Bo).length*(16-(hexF 16 u).length)) 140737488355328=true by rw [Nat.ble_eq];simp;omega,a2a];rfl
 have o:decide (([48,120]:Bo).length+(List.replicate (16-(hexF 16 u).length) (48:UInt8)).length<=aaf)=true:=aq9 (by simp;omega);have z:decide ((([48,120]:Bo)++List.replicate (16-(hexF 16 u).length) (48:UInt8)).length+(hexF 16 u).length<=aaf)=true:=aq9 (by simp;omega);unfold F149 ab2;simp only [axj u d,Aa,O,m,F135,fmt16 u d,U,M,o,z,An,H];cases ab9 u==0<;>cases ab9 u==1<;>cases decide (9223372036854775808<=u)<;>rfl
theorem bl1:((List.range 256).all λb=>(((b:Int).fdiv (2^(min (4:Int).toNat (IntKind.bits .u8))))==((b / 16:Nat):Int))&&(ae2 .and .u8 (b:Int) (15:Int)==((b%16:Nat):Int)))=true:=by kernel_rfl
theorem nib {b:Nat} (h:b<256):(b:Int).fdiv (2^(min (4:Int).toNat (IntKind.bits .u8)))=((b / 16:Nat):Int)/\ae2 .and .u8 (b:Int) (15:Int)=((b%16:Nat):Int):=by have:=Bf.1 bl1 b (List.mem_range.2 h);simp only [Ag,Bh] at this;exact this
theorem bn0 (s:Bo) (Z:s.length<=1048576):F150 0 s=some (s.flatMap λb=>hex2 b.toNat):=by
 have h:=abf (step:=S150_4step 0) (λi (b:List PV)=>(s,b,(s.length:Int),(i:Int))) (λb=>b) s 0 (λd b=>d++[PV.int ((hexd (b.toNat / 16)).toNat:Int),PV.int ((hexd (b.toNat%16)).toNat:Int)]) (λi b=>b.length=2*i) (λi b H Y=>by
  have m:=(s.getD i 0).toNat_lt;obtain ⟨U,V⟩:=nib m;have W:aaa (((s.getD i 0).toNat / 16:Nat):Int) (([48,49,50,51,52,53,54,55,56,57,97,98,99,100,101,102]:Bo).length)=true:=by rw [aab];exact Aj (by show _<16;omega)
  have X:aaa (((s.getD i 0).toNat%16:Nat):Int) (([48,49,50,51,52,53,54,55,56,57,97,98,99,100,101,102]:Bo).length)=true:=by rw [aab];exact Aj (by show _<16;omega)
  have z:∀ x y:PV,decide (b.length+[x,y].length<=aak)=true:=λx y=>Aj (by unfold aak;simp;omega);refine ⟨?_,by simp;omega⟩;simp only [S150_4step,S150_4,abm,aab,H,decide_true,Ad,Ah,U,V,W,X,z,bex (i:=i) (by omega)];rfl) (λb _=>by
  simp only [S150_4step,S150_4,abm,Nat.lt_irrefl,decide_false,Ae]) s.length 0 [] (by omega) rfl
 have e:∀ (l:Bo) (d:List PV),(l.foldl (λd b=>d++[PV.int ((hexd (b.toNat / 16)).toNat:Int),PV.int ((hexd (b.toNat%16)).toNat:Int)]) d).map aa4=d.map aa4++l.flatMap λb=>hex2 b.toNat:=by
  intro l;induction l with
  | nil=>intro d;simp
  | cons b r O=>intro d;rw [List.foldl_cons,O];simp [ait,hex2]
 unfold F150;have M:IntKind.wrap .i64 ((2:Int)*(s.length:Int))=((2*s.length:Nat):Int):=by rw [show (2:Int)*(s.length:Int)=((2*s.length:Nat):Int) by omega];exact ae0 (by omega)
 have o:decide ((0:Int)<=((2*s.length:Nat):Int)/\((2*s.length:Nat):Int)<=aak)=true:=Aj (by unfold aak;omega);rw [A3] at h;simp only [M,o,Ad,aaq];rw [show (0:Int)=((0:Nat):Int) from rfl,h.1,Aa,e];rfl
theorem aj8 (s:Bo):(s.flatMap λb=>hex2 b.toNat).length=2*s.length:=by
 induction s with
 | nil=>rfl
 | cons b r d=>rw [List.flatMap_cons,Am,d];simp [hex2];omega
def agb (v:PV):Bo:=
 bif adc (aa7 v) v then
  (bif aa7 v==6 then ab2 (aan v).toNat else bif aa7 v==8 then [120]++abd ((abl v).flatMap λb=>hex2 b.toNat) else am6 v)
 else []
theorem text6 {v:PV} (h:adc (aa7 v) v=false):am6 v=[]:=by unfold am6;rw [h];rfl
theorem ani {v:PV} (h:adc (aa7 v) v=true) (d:aa7 v=8):(abl v).length<=4096:=by unfold adc at h;rw [d] at h;simp only [Ag,afp] at h;have:=h.2;simp at this;exact this.2
theorem bir (v:PV) (Y:aee v):F73 0 v=some (agb v):=by
 obtain ⟨U,z,d,m⟩:=Y;by_cases M:aa7 v=6
 ·obtain ⟨u,Z⟩:∃ u:Nat,aan v=(u:Int):=⟨(aan v).toNat,(Int.toNat_of_nonneg d).symm⟩;have H:(v.fld 0).asInt=aa7 v:=rfl;have V:(v.fld 1).asInt=aan v:=rfl;unfold F73 agb;simp only [H,V,ah1 _ _ ⟨U,z,d,m⟩,Aa,Z,aqy u (by omega),M,Ah];cases adc 6 v<;>rfl
 ·by_cases o:aa7 v=8
  ·have H:(v.fld 0).asInt=aa7 v:=rfl;have W:(v.fld 2).asStr=abl v:=rfl;unfold F73 agb;simp only [H,W,ah1 _ _ ⟨U,z,d,m⟩,Aa];cases O:adc (aa7 v) v with
   | false=>rfl
   | true=>have h4:=ani O o;have X:=ad2 ((abl v).flatMap λb=>hex2 b.toNat);rw [aj8] at X;have g:decide (([120]:Bo).length+(abd ((abl v).flatMap λb=>hex2 b.toNat)).length<=aaf)=true:=aq9 (by simp;omega);simp only [o,bn0 _ z,agq _ (show ((abl v).flatMap λb=>hex2 b.toNat).length<=1048576 by rw [aj8];omega),Aa,g];rfl
  ·rw [bek v ⟨U,z,d,m⟩ M o];unfold agb;cases O:adc (aa7 v) v with
   | false=>rw [text6 O];rfl
   | true=>have k6:(aa7 v==(6:Int))=false:=beqI M;have k8:(aa7 v==(8:Int))=false:=beqI o;rw [k6,k8];rfl
theorem bej (v:PV) (H:(abl v).length<=1048576):(agb v).length<=4194400:=by
 have d:=ash v H;have M:(ab2 (aan v).toNat).length<=20:=by unfold ab2;have:=al6 16 (aan v).toNat;cases ab9 (aan v).toNat==0<;>cases ab9 (aan v).toNat==1<;>cases decide (9223372036854775808<=(aan v).toNat)<;>simp [this]
 unfold agb;cases o:adc (aa7 v) v with
 | false=>simp
 | true=>
  simp only [Ad];cases aa7 v==6 with
  | true=>simp only [Ad];omega
  | false=>
   simp only [Ae];cases m:aa7 v==8 with
   | false=>simp only [Ae];exact d
   | true=>have O:=ani o (by simpa using m);have z:=ad2 ((abl v).flatMap λb=>hex2 b.toNat);rw [aj8] at z;simp only [Ad,Am,Ak,Ap];omega
end Go.Ab
namespace Go.Ab
open Go
set_option maxRecDepth 100000
theorem evG (l:List PV) (p:PV->Bool) (d:PV->Option (Bool×Unit)) (step:(List PV×Unit×Int×Int×Unit)->Option ((List PV×Unit×Int×Int×Unit)⊕((Int×Unit)⊕Unit))) (V:l.length<=1048576) (h:∀ x,x∈l->d x=some (!p x,()))
 (O:∀ a:Int,step (l,(),(l.length:Int),a,())=bif decide (a<(l.length:Int)) then (bif aaa a l.length then (d (l.getD a.toNat .bad)).bind λy=>bif y.1 then some (.inr (.inl (a,()))) else some (.inl (l,(),(l.length:Int),(IntKind.wrap .i64 (a+(1:Int))),())) else none) else some (.inr (.inr ()))):
 ((((aa9 step (l,(),(l.length:Int),(0:Int),())).bind λz=>sumE (λy=>some (y.1,())) (λ_=>some ((-1:Int),())) z).bind λy=>some (decide (y.1>=(0:Int)),())).bind λy=>some (!y.1))=some (l.all p):=by
 obtain ⟨r,U,m,o⟩:=ah6 (step:=step) (λi=>(l,(),(l.length:Int),(i:Int),())) l.length (λi=>p (l.getD i .bad)) (λi=>(Sum.inl ((i:Int),()):(Int×Unit)⊕Unit)) (Sum.inr ()) (λi M=>by simp only [O,acr,aab,M,decide_true,Ad,Ah,h _ (ab8 M .bad),Aa,abv (i:=i) (by omega)];cases p (l.getD i .bad)<;>rfl) (by simp only [O,acr,Nat.lt_irrefl,decide_false,Ae]) l.length 0 (by omega)
 rw [aqf] at m o
 rw [show (0:Int)=((0:Nat):Int) from rfl,U]
 cases H:l.all p with
 | true=>rw [m H];rfl
 | false=>
  obtain ⟨j,_,_,rfl⟩:=o H
  simp [sumE]
theorem ev_nf (l:List PV) (p:PV->Bool) (d:l.length<=1048576) (h:∀ x,x∈l->F164 0 x=some (p x)):F163 0 l ()=some (l.all p):=
 evG l p (λx=>F265 0 x () ()) (S327_3step 0) d (λx m=>by show (F164 0 x).bind _=_;rw [h x m];rfl) (λ_=>rfl)
theorem ev_nm (l:List PV) (p:PV->Bool) (d:l.length<=1048576) (h:∀ x,x∈l->F162 0 x=some (p x)):F161 0 l ()=some (l.all p):=
 evG l p (λx=>F263 0 x () ()) (S326_3step 0) d (λx m=>by show (F162 0 x).bind _=_;rw [h x m];rfl) (λ_=>rfl)
theorem ev_ni (l:List PV) (p:PV->Bool) (d:l.length<=1048576) (h:∀ x,x∈l->F170 0 x=some (p x)):F169 0 l ()=some (l.all p):=
 evG l p (λx=>F270 0 x () ()) (S329_3step 0) d (λx m=>by show (F170 0 x).bind _=_;rw [h x m];rfl) (λ_=>rfl)
theorem ev_ne (l:List PV) (p:PV->Bool) (d:l.length<=1048576) (h:∀ x,x∈l->F168 0 x=some (p x)):F167 0 l ()=some (l.all p):=
 evG l p (λx=>F268 0 x () ()) (S328_3step 0) d (λx m=>by show (F168 0 x).bind _=_;rw [h x m];rfl) (λ_=>rfl)
theorem ev_nd (l:List PV) (p:PV->Bool) (d:l.length<=1048576) (h:∀ x,x∈l->F174 0 x=some (p x)):F173 0 l ()=some (l.all p):=
 evG l p (λx=>F274 0 x () ()) (S331_3step 0) d (λx m=>by show (F174 0 x).bind _=_;rw [h x m];rfl) (λ_=>rfl)
theorem ev_ns (l:List PV) (p:PV->Bool) (d:l.length<=1048576) (h:∀ x,x∈l->F172 0 x=some (p x)):F171 0 l ()=some (l.all p):=
 evG l p (λx=>F272 0 x () ()) (S330_3step 0) d (λx m=>by show (F172 0 x).bind _=_;rw [h x m];rfl) (λ_=>rfl)
theorem ev_af (l:List PV) (p:PV->Bool) (d:l.length<=1048576) (h:∀ x,x∈l->F177 0 x=some (p x)):F163_v1 0 l ()=some (l.all p):=
 evG l p (λx=>F265_v1 0 x () ()) (S327_v1_3step 0) d (λx m=>by show (F177 0 x).bind _=_;rw [h x m];rfl) (λ_=>rfl)
theorem ev_am (l:List PV) (p:PV->Bool) (d:l.length<=1048576) (h:∀ x,x∈l->F176 0 x=some (p x)):F161_v1 0 l ()=some (l.all p):=
 evG l p (λx=>F263_v1 0 x () ()) (S326_v1_3step 0) d (λx m=>by show (F176 0 x).bind _=_;rw [h x m];rfl) (λ_=>rfl)
theorem ev_ai (l:List PV) (p:PV->Bool) (d:l.length<=1048576) (h:∀ x,x∈l->F181 0 x=some (p x)):F169_v1 0 l ()=some (l.all p):=
 evG l p (λx=>F270_v1 0 x () ()) (S329_v1_3step 0) d (λx m=>by show (F181 0 x).bind _=_;rw [h x m];rfl) (λ_=>rfl)
theorem ev_ae (l:List PV) (p:PV->Bool) (d:l.length<=1048576) (h:∀ x,x∈l->F180 0 x=some (p x)):F167_v1 0 l ()=some (l.all p):=
 evG l p (λx=>F268_v1 0 x () ()) (S328_v1_3step 0) d (λx m=>by show (F180 0 x).bind _=_;rw [h x m];rfl) (λ_=>rfl)
theorem ev_ad (l:List PV) (p:PV->Bool) (d:l.length<=1048576) (h:∀ x,x∈l->F183 0 x=some (p x)):F173_v1 0 l ()=some (l.all p):=
 evG l p (λx=>F274_v1 0 x () ()) (S331_v1_3step 0) d (λx m=>by show (F183 0 x).bind _=_;rw [h x m];rfl) (λ_=>rfl)
theorem ev_as (l:List PV) (p:PV->Bool) (d:l.length<=1048576) (h:∀ x,x∈l->F182 0 x=some (p x)):F171_v1 0 l ()=some (l.all p):=
 evG l p (λx=>F272_v1 0 x () ()) (S330_v1_3step 0) d (λx m=>by show (F182 0 x).bind _=_;rw [h x m];rfl) (λ_=>rfl)
theorem ev_tx (l:List PV) (p:PV->Bool) (d:l.length<=1048576) (h:∀ x,x∈l->F185 0 x.asStr=some (p x)):F184 0 l ()=some (l.all p):=
 evG l p (λx=>F279 0 x.asStr () ()) (S325_v1_3step 0) d (λx m=>by show (F185 0 x.asStr).bind _=_;rw [h x m];rfl) (λ_=>rfl)
theorem ev_tm (l:List PV) (p:PV->Bool) (d:l.length<=1048576) (h:∀ x,x∈l->F186 0 x=some (p x)):F161_v2 0 l ()=some (l.all p):=
 evG l p (λx=>F263_v2 0 x () ()) (S326_v2_3step 0) d (λx m=>by show (F186 0 x).bind _=_;rw [h x m];rfl) (λ_=>rfl)
theorem ev_cm (l:List PV) (p:PV->Bool) (d:l.length<=1048576) (h:∀ x,x∈l->F187 0 x=some (p x)):F161_v3 0 l ()=some (l.all p):=
 evG l p (λx=>F263_v3 0 x () ()) (S326_v3_3step 0) d (λx m=>by show (F187 0 x).bind _=_;rw [h x m];rfl) (λ_=>rfl)
theorem ev_ce (l:List PV) (p:PV->Bool) (d:l.length<=1048576) (h:∀ x,x∈l->F188 0 x=some (p x)):F167_v2 0 l ()=some (l.all p):=
 evG l p (λx=>F268_v2 0 x () ()) (S328_v2_3step 0) d (λx m=>by show (F188 0 x).bind _=_;rw [h x m];rfl) (λ_=>rfl)
theorem ev_cs (l:List PV) (p:PV->Bool) (d:l.length<=1048576) (h:∀ x,x∈l->F189 0 x=some (p x)):F171_v2 0 l ()=some (l.all p):=
 evG l p (λx=>F272_v2 0 x () ()) (S330_v2_3step 0) d (λx m=>by show (F189 0 x).bind _=_;rw [h x m];rfl) (λ_=>rfl)
end Go.Ab
namespace Go.Ab
open Go
set_option maxRecDepth 100000
noncomputable def kw (k:Int):Bo:=(F20 0 k).getD []
theorem blg {k:Int} (h:1<=k) (d:k<=8):k=1\/k=2\/k=3\/k=4\/k=5\/k=6\/k=7\/k=8:=by omega
theorem blj {k:Int} (h:k<1\/8<k):(bif (decide (k<(1:Int))) then true else (decide (k>(8:Int))))=true:=by
 rcases h with h | h
 ·rw [Aj h];rfl
 ·rw [Al (by omega),Aj (by omega)];rfl
theorem bjp {k:Int} (h:k<1\/8<k):F20 0 k=some []:=by unfold F20;rw [blj h];rfl
theorem bn9 (k:Int):F20 0 k=some (kw k):=by
 unfold kw;by_cases h:k<1\/8<k
 ·rw [bjp h];rfl
 ·rcases blg (k:=k) (by omega) (by omega) with rfl | rfl | rfl | rfl | rfl | rfl | rfl | rfl<;>kernel_rfl
theorem bli:((List.range 8).all λi=>Nat.ble (kw ((i:Int)+1)).length 10&&!(kw ((i:Int)+1)==[]))=true:=by kernel_rfl
theorem bn7 {k:Int} (h:¬(k<1\/8<k)):(kw k).length<=10/\kw k≠[]:=by obtain ⟨i,d,rfl⟩:∃ i:Nat,i<8/\k=(i:Int)+1:=⟨(k-1).toNat,by omega,by omega⟩;have:=Bf.1 bli i (List.mem_range.2 d);simp only [Ag,Nat.ble_eq,Bool.not_eq_true',At] at this;exact this
theorem bb7 (k:Int):(kw k).length<=10:=by
 by_cases h:k<1\/8<k
 ·unfold kw;rw [bjp h];simp
 ·exact (bn7 h).1
def ad1 (k:Int):Bool:=decide (1<=k)&&decide (k<=8)
theorem av7 (k:Int):F266 0 k=some (ad1 k):=by unfold F266 ad1;have:decide (k>=(1:Int))=decide (1<=k):=rfl;rw [this];cases decide (1<=k)<;>rfl
noncomputable def noKw (s:Bo):Bool:=allF (λi=>!(kw ((i:Int)+1)==s)) 0 8
theorem bjb:((List.range 8).all λi=>(((F49 0).getD .bad).fld i).asStr==kw ((i:Int)+1))=true:=by kernel_rfl
theorem bm1 {i:Nat} (h:i<8):(((F49 0).getD .bad).fld i).asStr=kw ((i:Int)+1):=by have:=Bf.1 bjb i (List.mem_range.2 h);simpa using this
theorem bgu (s:Bo):∃ k,F18 0 s=some k/\(k==(0:Int))=noKw s:=by
 have V:F49 0=some ((F49 0).getD .bad):=rfl;obtain ⟨r,z,H,M⟩:=ah6 (step:=S18_3step 0) (λi=>(s,(F49 0).getD .bad,(i:Int))) 8 (λi=>!(kw ((i:Int)+1)==s)) (λi=>(Sum.inl ((i:Int)+1):Int⊕Unit)) (Sum.inr ()) (λi o=>by
  have O:decide ((i:Int)<(8:Int))=true:=Aj (by omega);have d:IntKind.wrap .i64 ((i:Int)+(1:Int))=(i:Int)+1:=acs (by omega) (by omega);have U:aaa (i:Int) 8=true:=by rw [aab];exact Aj o
  simp only [S18_3step,S18_3,O,U,Ad,Ah,bm1 o,d];cases (kw ((i:Int)+1)==s)<;>rfl) rfl 8 0 (by omega)
 unfold F18;rw [V,Aa,aaq,show (0:Int)=((0:Nat):Int) from rfl,z];unfold noKw;cases m:allF (λi=>!(kw ((i:Int)+1)==s)) 0 8 with
 | true=>exact ⟨0,by rw [H m];rfl,rfl⟩
 | false=>obtain ⟨j,_,_,rfl⟩:=M m;exact ⟨(j:Int)+1,rfl,by show (((j:Int)+1)==0)=false;rw [At];omega⟩
theorem alq (s:Bo) (O:s.length<=1048576):((F141 0 s ([46]:Bo)).bind λV=>(F140 0 V).bind λW=>some W)=some (ack s):=by
 have U:F141 0 s ([46]:Bo)=some (match s with | []=>[] | c::r=>bif c==46 then r else c::r):=by
  unfold F141 F245 F297;cases s with
  | nil=>rfl
  | cons c r=>
   have d:decide (((c::r).length:Int)>=(([46]:Bo).length:Int))=true:=Aj (by simp only [Ak,Ap];omega);have m:decide ((0:Int)<=(0:Int)/\(0:Int)<=(([46]:Bo).length:Int)/\(([46]:Bo).length:Int)<=((c::r).length:Int))=true:=Aj (by simp only [Ak,Ap];omega);have o:decide ((0:Int)<=(([46]:Bo).length:Int)/\(([46]:Bo).length:Int)<=((c::r).length:Int)/\((c::r).length:Int)<=((c::r).length:Int))=true:=Aj (by simp only [Ak,Ap];omega);have z:(((c::r).take (([46]:Bo).length:Int).toNat).drop (0:Int).toNat==([46]:Bo))=(c==46):=by show ([c]==([46]:Bo))=_;simp
   have H:(((c::r).take ((c::r).length:Int).toNat).drop (([46]:Bo).length:Int).toNat)=r:=by show ((c::r).take (c::r).length).drop 1=r;rw [List.take_length];rfl
   simp only [d,m,o,z,H,imp,Ad,Aa];cases (c==46)<;>rfl
 rw [U,Aa];cases s with
 | nil=>rw [ajb _ (by simp)];rfl
 | cons c r=>
  have M:(bif c==46 then r else c::r).length<=1048576:=by
   simp only [Ak] at O;cases (c==46)
   ·simp only [Ae,Ak];omega
   ·simp only [Ad];omega
  simp only [ajb _ M,Aa,ack];cases (c==46)<;>rfl
theorem al9 (s:Bo) (d:s.length<=1048576):F175 0 s=some (ack s):=alq s d
noncomputable def tnP (t:PV):Bool:=bif ad1 (t.fld 0).asInt then (t.fld 1).asStr==[] else ack (t.fld 1).asStr&&noKw (t.fld 1).asStr
theorem a2v (t:PV) (o:(t.fld 1).asStr.length<=1048576):F166 0 t=some (tnP t):=by
 obtain ⟨k,d,m⟩:=bgu (t.fld 1).asStr;unfold F166 tnP;simp only [av7,Aa,al9 _ o,d];cases ad1 (t.fld 0).asInt with
 | true=>rfl
 | false=>
  cases ack (t.fld 1).asStr with
  | false=>rfl
  | true=>simp only [Ad,Ae,Aa,m,Bool.true_and]
structure OkFld (x:PV):Prop where
 name:(x.fld 1).asStr.length<=1048576
 type:((x.fld 4).fld 1).asStr.length<=1048576
 union:(x.fld 5).asStr.length<=1048576
 dflt:aee (x.fld 7)
 notes:(x.fld 8).asList.length<=1048576
 note:∀ n,n∈(x.fld 8).asList->acq n
structure OkMsg (m:PV):Prop where
 name:(m.fld 0).asStr.length<=1048576
 fields:(m.fld 1).asList.length<=1048576
 field:∀ x,x∈(m.fld 1).asList->OkFld x
 spans:(m.fld 2).asList.length<=1048576
 gone:(m.fld 3).asList.length<=1048576
 goneS:∀ x,x∈(m.fld 3).asList->x.asStr.length<=1048576
 notes:(m.fld 4).asList.length<=1048576
 note:∀ n,n∈(m.fld 4).asList->acq n
structure OkItem (x:PV):Prop where
 name:(x.fld 0).asStr.length<=1048576
 notes:(x.fld 2).asList.length<=1048576
 note:∀ n,n∈(x.fld 2).asList->acq n
structure OkEnum (m:PV):Prop where
 name:(m.fld 0).asStr.length<=1048576
 items:(m.fld 2).asList.length<=1048576
 item:∀ x,x∈(m.fld 2).asList->OkItem x
 spans:(m.fld 3).asList.length<=1048576
 notes:(m.fld 4).asList.length<=1048576
 note:∀ n,n∈(m.fld 4).asList->acq n
structure OkMeth (x:PV):Prop where
 name:(x.fld 0).asStr.length<=1048576
 inn:(x.fld 1).asStr.length<=1048576
 out:(x.fld 2).asStr.length<=1048576
 notes:(x.fld 4).asList.length<=1048576
 note:∀ n,n∈(x.fld 4).asList->acq n
structure OkSvc (m:PV):Prop where
 name:(m.fld 0).asStr.length<=1048576
 meths:(m.fld 1).asList.length<=1048576
 meth:∀ x,x∈(m.fld 1).asList->OkMeth x
 notes:(m.fld 2).asList.length<=1048576
 note:∀ n,n∈(m.fld 2).asList->acq n
def aen (l:List PV) (i:Nat):Nat:=(l.map λm=>(m.fld i).asList.length+1).sum
structure OkFile (f:PV):Prop where
 space:(f.fld 1).asStr.length<=1048576
 imports:(f.fld 2).asList.length<=1048576
 importS:∀ x,x∈(f.fld 2).asList->x.asStr.length<=1048576
 msgs:(f.fld 3).asList.length<=1048576
 msg:∀ x,x∈(f.fld 3).asList->OkMsg x
 enums:(f.fld 4).asList.length<=1048576
 enum:∀ x,x∈(f.fld 4).asList->OkEnum x
 svcs:(f.fld 5).asList.length<=1048576
 svc:∀ x,x∈(f.fld 5).asList->OkSvc x
 many:aen (f.fld 3).asList 1+aen (f.fld 4).asList 2+aen (f.fld 5).asList 1<=7000000
noncomputable def avv (x:PV):Bool:=afc (x.fld 1).asStr&&((x.fld 5).asStr==[]||afc (x.fld 5).asStr)&&tnP (x.fld 4)
noncomputable def a8b (m:PV):Bool:=defP (m.fld 0).asStr&&(m.fld 1).asList.all avv
noncomputable def a4l (x:PV):Bool:=afc (x.fld 0).asStr
noncomputable def atw (m:PV):Bool:=defP (m.fld 0).asStr&&(m.fld 2).asList.all a4l
def strm:Bo:=[115,116,114,101,97,109]
noncomputable def atx (x:PV):Bool:=afc (x.fld 0).asStr&&ack (x.fld 1).asStr&&ack (x.fld 2).asStr&&!((x.fld 1).asStr==strm)&&!((x.fld 2).asStr==strm)
noncomputable def a8c (m:PV):Bool:=defP (m.fld 0).asStr&&(m.fld 1).asList.all atx
noncomputable def amo (f:PV):Bool:=((f.fld 1).asStr==[]||defP (f.fld 1).asStr)&&(f.fld 3).asList.all a8b&&(f.fld 4).asList.all atw&&(f.fld 5).asList.all a8c
theorem bg8 (x:PV) (h:OkFld x):F164 0 x=some (avv x):=by unfold F164 avv;simp only [aj9,Aa,a2v _ h.type];generalize afc (x.fld 1).asStr=a;generalize afc (x.fld 5).asStr=b;generalize ((x.fld 5).asStr==([]:Bo))=c;generalize tnP (x.fld 4)=d;cases a<;>cases b<;>cases c<;>cases d<;>rfl
theorem bhb (m:PV) (h:OkMsg m):F162 0 m=some (a8b m):=by unfold F162 a8b;simp only [apv _ h.name,Aa,ev_nf _ avv h.fields λx d=>bg8 x (h.field x d)];cases defP (m.fld 0).asStr<;>rfl
theorem bct (x:PV):F170 0 x=some (a4l x):=by unfold F170 a4l;simp only [aj9,Aa]
theorem bcs (m:PV) (h:OkEnum m):F168 0 m=some (atw m):=by unfold F168 atw;simp only [apv _ h.name,Aa,ev_ni _ a4l h.items λx d=>bct x];cases defP (m.fld 0).asStr<;>rfl
theorem bcu (x:PV) (h:OkMeth x):F174 0 x=some (atx x):=by unfold F174 atx strm;simp only [aj9,Aa,al9 _ h.inn,al9 _ h.out];generalize afc (x.fld 0).asStr=a;generalize ack (x.fld 1).asStr=b;generalize ack (x.fld 2).asStr=c;generalize ((x.fld 1).asStr==([115,116,114,101,97,109]:Bo))=d;generalize ((x.fld 2).asStr==([115,116,114,101,97,109]:Bo))=e;cases a<;>cases b<;>cases c<;>cases d<;>cases e<;>rfl
theorem bhc (m:PV) (h:OkSvc m):F172 0 m=some (a8c m):=by unfold F172 a8c;simp only [apv _ h.name,Aa,ev_nd _ atx h.meths λx d=>bcu x (h.meth x d)];cases defP (m.fld 0).asStr<;>rfl
theorem bg6 (f:PV) (h:OkFile f):F80 0 f=some (amo f):=by unfold F80 amo;simp only [apv _ h.space,Aa,ev_nm _ a8b h.msgs λx m=>bhb x (h.msg x m),ev_ne _ atw h.enums λx m=>bcs x (h.enum x m),ev_ns _ a8c h.svcs λx m=>bhc x (h.svc x m)];generalize ((f.fld 1).asStr==([]:Bo))=a;generalize defP (f.fld 1).asStr=b;generalize (f.fld 3).asList.all a8b=c;generalize (f.fld 4).asList.all atw=d;generalize (f.fld 5).asList.all a8c=e;cases a<;>cases b<;>cases c<;>cases d<;>cases e<;>rfl
end Go.Ab
namespace Go.Ab
open Go
set_option maxRecDepth 100000
theorem ayf (v:PV) (d:vLists v<=1048576):IntKind.wrap .i64 ((IntKind.wrap .i64 ((IntKind.wrap .i64 ((((v.fld 3).asList).length:Int)+(((v.fld 4).asList).length:Int)))+(((v.fld 5).asList).length:Int)))+(((v.fld 6).asList).length:Int))=((vLists v:Nat):Int):=by unfold vLists at d ⊢;have m:IntKind.wrap .i64 (((v.fld 3).asList.length:Int)+((v.fld 4).asList.length:Int))=(((v.fld 3).asList.length+(v.fld 4).asList.length:Nat):Int):=wadd (by omega);have o:IntKind.wrap .i64 ((((v.fld 3).asList.length+(v.fld 4).asList.length:Nat):Int)+((v.fld 5).asList.length:Int))=(((v.fld 3).asList.length+(v.fld 4).asList.length+(v.fld 5).asList.length:Nat):Int):=wadd (by omega);have z:IntKind.wrap .i64 ((((v.fld 3).asList.length+(v.fld 4).asList.length+(v.fld 5).asList.length:Nat):Int)+((v.fld 6).asList.length:Int))=(((v.fld 3).asList.length+(v.fld 4).asList.length+(v.fld 5).asList.length+(v.fld 6).asList.length:Nat):Int):=wadd (by omega);rw [m,o,z]
def isV (k b:Int) (s:Bo) (v:PV):Bool:=(aa7 v==k)&&(aan v==b)&&(abl v==s)&&decide (vLists v=0)
theorem bbx (v:PV) (d:aee v):F332 0 v=some (isV 0 0 [] v):=by have e:(((vLists v:Nat):Int)==(0:Int))=decide (vLists v=0):=nbeq _ 0;unfold F332 isV;rw [ayf v d.1,e];have m:(v.fld 0).asInt=aa7 v:=rfl;have o:(v.fld 1).asInt=aan v:=rfl;have z:(v.fld 2).asStr=abl v:=rfl;grind
noncomputable def apd (v:PV):Bool:=(aa7 v==9)&&afc (abl v)&&(aan v==0)&&decide (vLists v=0)
theorem a4j (v:PV) (z:aee v):F333 0 v=some (apd v):=by have e:(((vLists v:Nat):Int)==(0:Int))=decide (vLists v=0):=nbeq _ 0;have d:(v.fld 0).asInt=aa7 v:=rfl;have m:(v.fld 1).asInt=aan v:=rfl;have o:(v.fld 2).asStr=abl v:=rfl;unfold F333 apd;simp only [ayf v z.1,e,d,m,o,aj9];grind
def a8d (v:PV):Int:=bif (aa7 v==6)&&(ab9 (aan v).toNat==0) then 9221120237041090560 else aan v
theorem bfe {v:PV} (m:aee v):∃ u:Nat,aan v=(u:Int)/\u<18446744073709551616:=by obtain ⟨_,_,d,o⟩:=m;exact ⟨(aan v).toNat,(Int.toNat_of_nonneg d).symm,by omega⟩
theorem bl2 (v:PV) (z:aee v):∃ w,F334 0 v=some w/\(w.fld 1).asInt=a8d v:=by
 obtain ⟨u,H,d⟩:=bfe z;have m:(v.fld 0).asInt=aa7 v:=rfl;have o:(v.fld 1).asInt=aan v:=rfl;unfold F334 a8d;simp only [m,o,H,axj u d,Ah];cases (aa7 v==(6:Int)) with
 | false=>grind
 | true=>
  cases h:ab9 u==(0:Int) with
  | false=>grind
  | true=>exact ⟨_,by simp [h];rfl,rfl⟩
noncomputable def am1 (x:PV):Bool:=
 bif !(x.fld 6).asBool then isV 0 0 [] (x.fld 7) else bif (x.fld 2).asInt==5 then false else bif ((x.fld 4).fld 0).asInt==0 then apd (x.fld 7) else adc ((x.fld 4).fld 0).asInt (x.fld 7)&&(a8d (x.fld 7)==aan (x.fld 7))
theorem bdr (x:PV) (h:OkFld x):F276 0 x=some (am1 x):=by obtain ⟨w,m,o⟩:=bl2 _ h.dflt;have d:((x.fld 7).fld 1).asInt=aan (x.fld 7):=rfl;unfold F276 am1;simp only [bbx _ h.dflt,a4j _ h.dflt,m,ah1 _ _ h.dflt,Aa,o,d];grind
def keyF (c k:Int):Bool:=bif c != 5 then k==0 else (decide (1<=k/\k<=5)||k==7)
theorem blf (c k:Int):F275 0 c k=some (keyF c k):=by
 unfold F275 keyF;cases (c != (5:Int)) with
 | true=>rfl
 | false=>
  have e:(bif (bif (decide (k>=(1:Int))) then (decide (k<=(7:Int))) else false) then (k != (6:Int)) else false)=(decide (1<=k/\k<=5)||k==7):=by grind
  grind
def a4t (x:PV):Bool:=decide (0<=(x.fld 0).asInt/\(x.fld 0).asInt<=65535/\1<=(x.fld 2).asInt/\(x.fld 2).asInt<=5/\0<=((x.fld 4).fld 0).asInt/\((x.fld 4).fld 0).asInt<=8)
def a5n (x:PV):Bool:=((x.fld 5).asStr==[])||(((x.fld 2).asInt==2)&&!(x.fld 6).asBool)
noncomputable def agw (x:PV):Bool:=a4t x&&keyF (x.fld 2).asInt (x.fld 3).asInt&&a5n x&&am1 x
theorem ba8 (x:PV) (h:OkFld x):F177 0 x=some (agw x):=by
 have e:(bif (bif (bif (decide ((x.fld 0).asInt>=(0:Int))) then (decide ((x.fld 0).asInt<=(65535:Int))) else false) then (decide ((x.fld 2).asInt>=(1:Int))) else false) then (decide ((x.fld 2).asInt<=(5:Int))) else false)=decide (0<=(x.fld 0).asInt/\(x.fld 0).asInt<=65535/\1<=(x.fld 2).asInt/\(x.fld 2).asInt<=5):=by grind
 have d:((((x.fld 4).fld 0).asInt==(0:Int))||ad1 ((x.fld 4).fld 0).asInt)=decide (0<=((x.fld 4).fld 0).asInt/\((x.fld 4).fld 0).asInt<=8):=by unfold ad1;grind
 unfold F177 agw a4t;simp only [e,blf,av7,bdr x h];rw [show decide (0<=(x.fld 0).asInt/\(x.fld 0).asInt<=65535/\1<=(x.fld 2).asInt/\(x.fld 2).asInt<=5/\0<=((x.fld 4).fld 0).asInt/\((x.fld 4).fld 0).asInt<=8)=(decide (0<=(x.fld 0).asInt/\(x.fld 0).asInt<=65535/\1<=(x.fld 2).asInt/\(x.fld 2).asInt<=5)&&decide (0<=((x.fld 4).fld 0).asInt/\((x.fld 4).fld 0).asInt<=8)) by grind,<-d];unfold a5n;generalize decide (0<=(x.fld 0).asInt/\(x.fld 0).asInt<=65535/\1<=(x.fld 2).asInt/\(x.fld 2).asInt<=5)=m;generalize keyF (x.fld 2).asInt (x.fld 3).asInt=o;generalize (((x.fld 4).fld 0).asInt==(0:Int))=z;generalize ad1 ((x.fld 4).fld 0).asInt=H;generalize ((x.fld 5).asStr==([]:Bo))=M;generalize ((x.fld 2).asInt==(2:Int))=O;generalize (x.fld 6).asBool=U;generalize am1 x=V;cases m<;>cases o<;>cases z<;>cases H<;>cases M<;>cases O<;>cases U<;>cases V<;>rfl
def un (l:List PV) (i:Nat):Bo:=((l.getD i .bad).fld 5).asStr
def apart (l:List PV) (i k:Nat):Bool:=(un l k==un l i)&&!(un l i==[])&&!(un l (i-1)==un l i)
def adjP (l:List PV):Bool:=allF (λi=>allF (λk=>!apart l i k) 0 i) 0 l.length
theorem bnb (l:List PV) (V:l.length<=1048576) (i:Nat) (o:i<l.length):aa9 (S178_6step 0) (l,(i:Int),(l.length:Int),(i:Int),(i:Int),(0:Int))=some (bif allF (λk=>!apart l i k) 0 i then .inr (l,(l.length:Int),(i:Int)) else .inl false):=
 ajf (step:=S178_6step 0) (λk=>(l,(i:Int),(l.length:Int),(i:Int),(i:Int),(k:Int))) i (λk=>!apart l i k) (Sum.inl false:Bool⊕(List PV×Int×Int)) (Sum.inr (l,(l.length:Int),(i:Int))) (λk z=>by
  have m:k<l.length:=by omega
  have H:IntKind.wrap .i64 ((i:Int)-(1:Int))=((i-1:Nat):Int):=by grind [ae0]
  have d:i-1<l.length:=by omega
  have M:((l.getD k .bad).fld 5).asStr=un l k:=rfl;have O:((l.getD i .bad).fld 5).asStr=un l i:=rfl;have U:((l.getD (i-1) .bad).fld 5).asStr=un l (i-1):=rfl;simp only [S178_6step,S178_6,abm,z,aab,m,o,d,H,decide_true,Ad,Ah,M,O,U,abv (i:=k) (by omega)];grind [apart,imp,un]) (by
  simp only [S178_6step,S178_6,abm,Nat.lt_irrefl,decide_false,Ae]) i 0 (by omega)
theorem az3 (l:List PV) (m:l.length<=1048576):F178 0 l=some (adjP l):=by
 have h:=ajf (step:=S178_3step 0) (λi=>(l,(l.length:Int),(i:Int))) l.length (λi=>allF (λk=>!apart l i k) 0 i) (Sum.inl false:Bool⊕Unit) (Sum.inr ()) (λi d=>by
  simp only [S178_3step,S178_3,abm,d,decide_true,Ad,aaq,bnb l m i d,Aa];cases allF (λk=>!apart l i k) 0 i with
  | false=>rfl
  | true=>simp only [Ad,abg,abv (i:=i) (by omega)]) (by
  simp only [S178_3step,S178_3,abm,Nat.lt_irrefl,decide_false,Ae]) l.length 0 (by omega)
 unfold F178 adjP;rw [aaq,show (0:Int)=((0:Nat):Int) from rfl,h];cases allF (λi=>allF (λk=>!apart l i k) 0 i) 0 l.length<;>rfl
def afe (most:Int) (x:PV):Bool:=decide (0<=(x.fld 0).asInt/\(x.fld 0).asInt<=most/\0<=(x.fld 1).asInt/\(x.fld 1).asInt<=most)
theorem a5e (l:List PV) (O:l.length<=1048576) (most:Int):F179 0 l most=some (l.all (afe most)):=by
 have H:∀ i,F336 0 (l.getD i .bad) () () most=some (!(afe most (l.getD i .bad)),(),most):=λi=>by
  unfold F336 F278 afe;generalize ((l.getD i .bad).fld 0).asInt=a;generalize ((l.getD i .bad).fld 1).asInt=b;have e:(bif (decide ((if b<a then b else a)>=(0:Int))) then (decide ((if b>a then b else a)<=most)) else false)=decide (0<=a/\a<=most/\0<=b/\b<=most):=by grind
  grind
 obtain ⟨r,z,d,m⟩:=ah6 (step:=S369_3step 0) (λi=>(l,(),(l.length:Int),(i:Int),(),most)) l.length (λi=>afe most (l.getD i .bad)) (λi=>(Sum.inl ((i:Int),(),most):(Int×Unit×Int)⊕(Unit×Int))) (Sum.inr ((),most)) (λi M=>by
  simp only [S369_3step,S369_3,acr,aab,M,decide_true,Ad,Ah,H i,Aa,abv (i:=i) (by omega)];grind) (by
  simp only [S369_3step,S369_3,acr,Nat.lt_irrefl,decide_false,Ae]) l.length 0 (by omega)
 rw [aqf] at d m;unfold F179 F277 F335 F369;rw [aaq,show (0:Int)=((0:Nat):Int) from rfl,z];cases o:l.all (afe most) with
 | true=>rw [d o];rfl
 | false=>obtain ⟨j,_,_,rfl⟩:=m o;simp [sumE]
noncomputable def aqi (m:PV):Bool:=(m.fld 1).asList.all agw&&adjP (m.fld 1).asList&&(m.fld 2).asList.all (afe 65535)
def auu (x:PV):Bool:=decide ((x.fld 1).asInt>=0)&&decide ((x.fld 1).asInt<=2147483647)
def aqh (m:PV):Bool:=(m.fld 3).asList.all (afe 2147483647)&&(m.fld 2).asList.all auu
def auv (x:PV):Bool:=decide ((x.fld 3).asInt>=1)&&decide ((x.fld 3).asInt<=4)
def aw8 (m:PV):Bool:=(m.fld 1).asList.all auv
noncomputable def aew (f:PV):Bool:=(f.fld 3).asList.all aqi&&(f.fld 4).asList.all aqh&&(f.fld 5).asList.all aw8
theorem a9z (m:PV) (h:OkMsg m):F176 0 m=some (aqi m):=by unfold F176 aqi;simp only [ev_af _ agw h.fields λx d=>ba8 x (h.field x d),az3 _ h.fields,a5e _ h.spans,Aa];grind
theorem a5z (m:PV) (h:OkEnum m):F180 0 m=some (aqh m):=by unfold F180 aqh;simp only [ev_ai _ auu h.items λx d=>by unfold F181 auu;rw [aex],a5e _ h.spans,Aa];grind
theorem a90 (m:PV) (h:OkSvc m):F182 0 m=some (aw8 m):=by unfold F182 aw8;simp only [ev_ad _ auv h.meths λx d=>by unfold F183 auv;rw [aex],Aa]
theorem a8i (f:PV) (h:OkFile f):F81 0 f=some (aew f):=by unfold F81 aew;simp only [Aa,ev_am _ aqi h.msgs λx d=>a9z x (h.msg x d),ev_ae _ aqh h.enums λx d=>a5z x (h.enum x d),ev_as _ aw8 h.svcs λx d=>a90 x (h.svc x d)];grind
end Go.Ab
namespace Go.Ab
open Go
set_option maxRecDepth 100000
def txL (l:List PV):Bool:=l.all λx=>valid x.asStr
def bpi (m:PV):Bool:=txL (m.fld 3).asList
def asi (f:PV):Bool:=txL (f.fld 2).asList&&(f.fld 3).asList.all bpi
theorem bj2 (l:List PV) (d:l.length<=1048576):F184 0 l ()=some (txL l):=
 ev_tx l (λx=>valid x.asStr) d λx m=>ap9 _
theorem bis (f:PV) (h:OkFile f):F82 0 f=some (asi f):=by unfold F82 asi;simp only [bj2 _ h.imports,Aa,ev_tm _ bpi h.msgs λx d=>by unfold F186;rw [bj2 _ (h.msg x d).gone];rfl];grind
def atg (m:PV):Bool:=decide ((m.fld 1).asList.length<=64)&&decide ((m.fld 2).asList.length<=16)&&decide ((m.fld 3).asList.length<=16)
def ane (m:PV):Bool:=decide ((m.fld 2).asList.length<=64)&&decide ((m.fld 3).asList.length<=16)
def axk (m:PV):Bool:=decide ((m.fld 1).asList.length<=64)
def axl (f:PV):Bool:=decide ((f.fld 2).asList.length<=16)&&decide ((f.fld 3).asList.length<=64)&&decide ((f.fld 4).asList.length<=64)&&decide ((f.fld 5).asList.length<=64)
def aiv (f:PV):Bool:=axl f&&(f.fld 3).asList.all atg&&(f.fld 4).asList.all ane&&(f.fld 5).asList.all axk
theorem le64 (n:Nat):decide ((n:Int)<=(64:Int))=decide (n<=64):=leI n 64
theorem le16 (n:Nat):decide ((n:Int)<=(16:Int))=decide (n<=16):=leI n 16
theorem bai (m:PV):F187 0 m=some (atg m):=by
 unfold F187 atg;have e:decide ((if (((m.fld 3).asList.length:Int))>((m.fld 2).asList.length:Int) then ((m.fld 3).asList.length:Int) else ((m.fld 2).asList.length:Int))<=(16:Int))=(decide ((m.fld 2).asList.length<=16)&&decide ((m.fld 3).asList.length<=16)):=by grind
 grind
theorem a6m (m:PV):F188 0 m=some (ane m):=by grind [F188,ane,le64,le16,aex]
theorem baj (m:PV):F189 0 m=some (axk m):=by grind [F189,axk,le64]
theorem ban (f:PV) (h:OkFile f):F84 0 f=some (aiv f):=by
 have e:(bif (decide (((f.fld 2).asList.length:Int)>(16:Int))) then true else (decide ((if ((f.fld 5).asList.length:Int)>(if ((f.fld 4).asList.length:Int)>((f.fld 3).asList.length:Int) then ((f.fld 4).asList.length:Int) else ((f.fld 3).asList.length:Int)) then ((f.fld 5).asList.length:Int) else (if ((f.fld 4).asList.length:Int)>((f.fld 3).asList.length:Int) then ((f.fld 4).asList.length:Int) else ((f.fld 3).asList.length:Int)))>(64:Int))))=!axl f:=by unfold axl;grind
 unfold F84 aiv;simp only [e,ev_cm _ atg h.msgs λx d=>bai x,ev_ce _ ane h.enums λx d=>a6m x,ev_cs _ axk h.svcs λx d=>baj x,Aa];cases axl f<;>cases (f.fld 3).asList.all atg<;>cases (f.fld 4).asList.all ane<;>rfl
noncomputable def errN (e:Int) (l:List PV) (t:Int):Int:=bif e != 0 then e else aiu l t
noncomputable def bhd (e:Int) (m:PV):Int:=(m.fld 1).asList.foldl (λe x=>errN e (x.fld 8).asList 2) (errN e (m.fld 4).asList 1)
noncomputable def a4o (e:Int) (m:PV):Int:=(m.fld 2).asList.foldl (λe x=>errN e (x.fld 2).asList 4) (errN e (m.fld 4).asList 3)
noncomputable def bhe (e:Int) (m:PV):Int:=(m.fld 1).asList.foldl (λe x=>errN e (x.fld 4).asList 6) (errN e (m.fld 2).asList 5)
noncomputable def ahb (f:PV):Int:=(f.fld 5).asList.foldl bhe ((f.fld 4).asList.foldl a4o ((f.fld 3).asList.foldl bhd 0))
def nv (l:List PV) (t:Int):PV:=PV.agg [(PV.slice l),(PV.int t)]
def anv (m:PV):List PV:=nv (m.fld 4).asList 1::(m.fld 1).asList.map λx=>nv (x.fld 8).asList 2
def ajj (m:PV):List PV:=nv (m.fld 4).asList 3::(m.fld 2).asList.map λx=>nv (x.fld 2).asList 4
def avt (m:PV):List PV:=nv (m.fld 2).asList 5::(m.fld 1).asList.map λx=>nv (x.fld 4).asList 6
def ac8 (f:PV):List PV:=(f.fld 3).asList.flatMap anv++(f.fld 4).asList.flatMap ajj++(f.fld 5).asList.flatMap avt
theorem aq4 {m:Type} (g:m->List PV):∀ (l:List m) (d:List PV),l.foldl (λd x=>d++g x) d=d++l.flatMap g:=by
 intro l;induction l with
 | nil=>intro d;simp
 | cons x r o=>grind
theorem ai7 {m:Type} (g:m->PV):∀ (l:List m) (d:List PV),l.foldl (λd x=>d++[g x]) d=d++l.map g:=by
 intro l;induction l with
 | nil=>intro d;simp
 | cons x r o=>grind
theorem alk {l:List PV}{k i:Nat} (d:k<l.length):aen (l.drop k) i=((l.getD k .bad).fld i).asList.length+1+aen (l.drop (k+1)) i:=by rw [aa1 d .bad];rfl
theorem az2 {b:List PV}{x:PV} (h:b.length<=100000000):decide (b.length+[x].length<=aak)=true:=Aj (by grind [aak])
theorem bon (f m:PV) (ms:List PV) (n i:Int) (xs:List PV) (M:xs.length<=1048576) (d:List PV) (H:d.length+xs.length<=100000000):
 aa9 (S83_8step 0) ((),d,ms,n,i,xs,(xs.length:Int),(0:Int),f,m)=some ((),d++xs.map (λx=>nv (x.fld 8).asList 2),ms,n,i,f,m):=by
 have q:=abf (step:=S83_8step 0) (λk (d:List PV)=>((),d,ms,n,i,xs,(xs.length:Int),(k:Int),f,m)) (λd=>((),d,ms,n,i,f,m)) xs .bad (λd x=>d++[nv (x.fld 8).asList 2]) (λk d=>d.length+(xs.length-k)<=100000000) (λk d o z=>by
  refine ⟨?_,by simp;omega⟩;simp only [S83_8step,S83_8,abm,aab,o,decide_true,Ad,Ah,az2 (show d.length<=100000000 by omega),abv (i:=k) (by omega)];rfl) (λd _=>by
  simp only [S83_8step,S83_8,abm,Nat.lt_irrefl,decide_false,Ae]) xs.length 0 d (by omega) (by omega)
 grind [ai7]
theorem bom (f m:PV) (ms:List PV) (n i:Int) (xs:List PV) (M:xs.length<=1048576) (d:List PV) (H:d.length+xs.length<=100000000):
 aa9 (S83_18step 0) ((),d,ms,n,i,xs,(xs.length:Int),(0:Int),f,m)=some ((),d++xs.map (λx=>nv (x.fld 2).asList 4),ms,n,i,f,m):=by
 have q:=abf (step:=S83_18step 0) (λk (d:List PV)=>((),d,ms,n,i,xs,(xs.length:Int),(k:Int),f,m)) (λd=>((),d,ms,n,i,f,m)) xs .bad (λd x=>d++[nv (x.fld 2).asList 4]) (λk d=>d.length+(xs.length-k)<=100000000) (λk d o z=>by
  refine ⟨?_,by simp;omega⟩;simp only [S83_18step,S83_18,abm,aab,o,decide_true,Ad,Ah,az2 (show d.length<=100000000 by omega),abv (i:=k) (by omega)];rfl) (λd _=>by
  simp only [S83_18step,S83_18,abm,Nat.lt_irrefl,decide_false,Ae]) xs.length 0 d (by omega) (by omega)
 grind [ai7]
theorem boo (f m:PV) (ms:List PV) (n i:Int) (xs:List PV) (M:xs.length<=1048576) (d:List PV) (H:d.length+xs.length<=100000000):
 aa9 (S83_28step 0) (d,ms,n,i,xs,(xs.length:Int),(0:Int),f,m)=some (d++xs.map (λx=>nv (x.fld 4).asList 6),ms,n,i,f,m):=by
 have q:=abf (step:=S83_28step 0) (λk (d:List PV)=>(d,ms,n,i,xs,(xs.length:Int),(k:Int),f,m)) (λd=>(d,ms,n,i,f,m)) xs .bad (λd x=>d++[nv (x.fld 4).asList 6]) (λk d=>d.length+(xs.length-k)<=100000000) (λk d o z=>by
  refine ⟨?_,by simp;omega⟩;simp only [S83_28step,S83_28,abm,aab,o,decide_true,Ad,Ah,az2 (show d.length<=100000000 by omega),abv (i:=k) (by omega)];rfl) (λd _=>by
  simp only [S83_28step,S83_28,abm,Nat.lt_irrefl,decide_false,Ae]) xs.length 0 d (by omega) (by omega)
 grind [ai7]
theorem nl_eq (f:PV) (h:OkFile f):F83 0 f=some (ac8 f):=by
 have M:=h.many;have W:=abf (step:=S83_4step 0) (λk (d:List PV)=>((),d,(f.fld 3).asList,((f.fld 3).asList.length:Int),(k:Int),f)) (λd=>((),d,f)) (f.fld 3).asList .bad (λd m=>d++anv m) (λk d=>d.length+aen ((f.fld 3).asList.drop k) 1<=7000000-aen (f.fld 4).asList 2-aen (f.fld 5).asList 1) (λk d o O=>by
  have H:=h.msg _ (ab8 o .bad);have U:=h.msgs;have V:=alk (i:=1) o;have z:=H.fields;refine ⟨?_,by grind [List.length_append,anv,List.length_cons,List.length_map]⟩;simp only [S83_4step,S83_4,abm,aab,o,decide_true,Ad,Ah,az2 (show d.length<=100000000 by omega),aaq,bon f _ _ _ _ _ z _ (show (d++[PV.agg [(PV.slice (((f.fld 3).asList.getD k .bad).fld 4).asList),(PV.int (1:Int))]]).length+_<=100000000 by grind),Aa,abv (i:=k) (by omega)];rw [An];rfl) (λd _=>by
  simp only [S83_4step,S83_4,abm,Nat.lt_irrefl,decide_false,Ae]) (f.fld 3).asList.length 0 [] (by omega) (by grind)
 rw [A3,aq4,Au,List.drop_length] at W;have Z:((f.fld 3).asList.flatMap anv).length+0<=7000000-aen (f.fld 4).asList 2-aen (f.fld 5).asList 1:=W.2;have X:=abf (step:=S83_14step 0) (λk (d:List PV)=>((),d,(f.fld 4).asList,((f.fld 4).asList.length:Int),(k:Int),f)) (λd=>((),d,f)) (f.fld 4).asList .bad (λd m=>d++ajj m) (λk d=>d.length+aen ((f.fld 4).asList.drop k) 2<=7000000+aen (f.fld 4).asList 2) (λk d o O=>by
  have H:=h.enum _ (ab8 o .bad);have U:=h.enums;have V:=alk (i:=2) o;have z:=H.items;refine ⟨?_,by grind [List.length_append,ajj,List.length_cons,List.length_map]⟩;simp only [S83_14step,S83_14,abm,aab,o,decide_true,Ad,Ah,az2 (show d.length<=100000000 by omega),aaq,bom f _ _ _ _ _ z _ (show (d++[PV.agg [(PV.slice (((f.fld 4).asList.getD k .bad).fld 4).asList),(PV.int (3:Int))]]).length+_<=100000000 by grind),Aa,abv (i:=k) (by omega)];rw [An];rfl) (λd _=>by
  simp only [S83_14step,S83_14,abm,Nat.lt_irrefl,decide_false,Ae]) (f.fld 4).asList.length 0 ((f.fld 3).asList.flatMap anv) (by omega) (by grind)
 rw [A3,aq4,List.drop_length] at X;have b2:((f.fld 3).asList.flatMap anv++(f.fld 4).asList.flatMap ajj).length+0<=7000000+aen (f.fld 4).asList 2:=X.2;have Y:=abf (step:=S83_24step 0) (λk (d:List PV)=>(d,(f.fld 5).asList,((f.fld 5).asList.length:Int),(k:Int),f)) (λd=>(d,f)) (f.fld 5).asList .bad (λd m=>d++avt m) (λk d=>d.length+aen ((f.fld 5).asList.drop k) 1<=7000000+aen (f.fld 4).asList 2+aen (f.fld 5).asList 1) (λk d o O=>by
  have H:=h.svc _ (ab8 o .bad);have U:=h.svcs;have V:=alk (i:=1) o;have z:=H.meths;refine ⟨?_,by grind [List.length_append,avt,List.length_cons,List.length_map]⟩;simp only [S83_24step,S83_24,abm,aab,o,decide_true,Ad,Ah,az2 (show d.length<=100000000 by omega),aaq,boo f _ _ _ _ _ z _ (show (d++[PV.agg [(PV.slice (((f.fld 5).asList.getD k .bad).fld 2).asList),(PV.int (5:Int))]]).length+_<=100000000 by grind),Aa,abv (i:=k) (by omega)];rw [An];rfl) (λd _=>by
  simp only [S83_24step,S83_24,abm,Nat.lt_irrefl,decide_false,Ae]) (f.fld 5).asList.length 0 ((f.fld 3).asList.flatMap anv++(f.fld 4).asList.flatMap ajj) (by omega) (by grind)
 rw [A3,aq4] at Y;unfold F83 ac8;rw [show (0:Int)=((0:Nat):Int) from rfl];grind [aaq]
noncomputable def errL (l:List PV) (e:Int):Int:=l.foldl (λe n=>errN e (n.fld 0).asList (n.fld 1).asInt) e
theorem ba3:∀ (l:List PV) (e:Int),e≠0->errL l e=e:=by
 intro l;induction l with
 | nil=>intro e _;rfl
 | cons n r o=>
  intro e m;have d:errN e (n.fld 0).asList (n.fld 1).asInt=e:=by unfold errN;grind
  show errL r (errN e (n.fld 0).asList (n.fld 1).asInt)=e;grind
theorem a3r (a b:List PV) (e:Int):errL (a++b) e=errL b (errL a e):=List.foldl_append
theorem bf1 (m:PV) (e:Int):errL (anv m) e=bhd e m:=by unfold errL anv bhd;rw [List.foldl_cons,List.foldl_map];rfl
theorem ba1 (m:PV) (e:Int):errL (ajj m) e=a4o e m:=by unfold errL ajj a4o;rw [List.foldl_cons,List.foldl_map];rfl
theorem bf2 (m:PV) (e:Int):errL (avt m) e=bhe e m:=by unfold errL avt bhe;rw [List.foldl_cons,List.foldl_map];rfl
theorem ba2 (g:PV->List PV) (k:Int->PV->Int) (h:∀ m e,errL (g m) e=k e m):∀ (l:List PV) (e:Int),errL (l.flatMap g) e=l.foldl k e:=by
 intro l;induction l with
 | nil=>intro e;rfl
 | cons m r d=>grind [a3r]
theorem aq2 (f:PV):errL (ac8 f) 0=ahb f:=by unfold ac8 ahb;grind [a3r,ba2,anv,bhd,bf1,ajj,a4o,ba1,avt,bhe,bf2]
def NvOk (n:PV):Prop:=(n.fld 0).asList.length<=1048576/\∀ x,x∈(n.fld 0).asList->acq x
theorem bcr (f:PV) (h:OkFile f):∀ n,n∈ac8 f->NvOk n:=by
 intro n d;unfold ac8 at d;rcases Bm.1 d with d | d
 ·rcases Bm.1 d with d | d
  ·obtain ⟨m,H,d⟩:=List.mem_flatMap.1 d;have o:=h.msg m H;rcases Bl.1 d with rfl | d
   ·exact ⟨o.notes,o.note⟩
   ·obtain ⟨x,z,rfl⟩:=List.mem_map.1 d;exact ⟨(o.field x z).notes,(o.field x z).note⟩
  ·obtain ⟨m,H,d⟩:=List.mem_flatMap.1 d;have o:=h.enum m H;rcases Bl.1 d with rfl | d
   ·exact ⟨o.notes,o.note⟩
   ·obtain ⟨x,z,rfl⟩:=List.mem_map.1 d;exact ⟨(o.item x z).notes,(o.item x z).note⟩
 ·obtain ⟨m,H,d⟩:=List.mem_flatMap.1 d;have o:=h.svc m H;rcases Bl.1 d with rfl | d
  ·exact ⟨o.notes,o.note⟩
  ·obtain ⟨x,z,rfl⟩:=List.mem_map.1 d;exact ⟨(o.meth x z).notes,(o.meth x z).note⟩
theorem auy (f:PV) (l:List PV) (V:l.length<=100000000) (O:∀ n,n∈l->NvOk n):∀ (k i:Nat),i+k=l.length->aa9 (S39_9step 0) ((),l,(l.length:Int),(i:Int),f)=some (bif errL (l.drop i) 0==0 then .inr ((),f) else .inl (errL (l.drop i) 0,f)):=by
 intro k;induction k with
 | zero=>
  intro i M;have:i=l.length:=by omega
  subst this;rw [List.drop_length];exact aae (by simp only [S39_9step,S39_9,abm,Nat.lt_irrefl,decide_false,Ae];rfl)
 | succ k U=>
  intro i M;have d:i<l.length:=by omega
  have z:=O _ (ab8 d .bad);have o:=bfj (((l.getD i .bad).fld 0).asList) ((l.getD i .bad).fld 1).asInt z.1 z.2;have H:errL (l.drop i) 0=errL (l.drop (i+1)) (aiu ((l.getD i .bad).fld 0).asList ((l.getD i .bad).fld 1).asInt):=by rw [aa1 d .bad];rfl
  rw [H];by_cases m:aiu ((l.getD i .bad).fld 0).asList ((l.getD i .bad).fld 1).asInt=0
  ·rw [m] at o ⊢;rw [<-U (i+1) (by omega)];refine aba ?_;simp only [S39_9step,S39_9,abm,aab,d,decide_true,Ad,Ah,o,Aa,abv (i:=i) (by omega)];rfl
  ·rw [ba3 _ _ m,beqI m];refine aae ?_;simp only [S39_9step,S39_9,abm,aab,d,decide_true,Ad,Ah,o,Aa,bneI m];rfl
end Go.Ab
namespace Go.Ab
open Go
set_option maxRecDepth 100000
theorem bb5 {d:Bo} (h:aac d≠0):d.length<=10/\aac d≠6/\aac d≠8:=by
 by_cases m:d∈knownNames
 ·simp only [knownNames,Bl,List.not_mem_nil,or_false] at m;have e:∀ k:Int,k≠6/\k≠8->d.length<=10->some (aac d)=some k->d.length<=10/\aac d≠6/\aac d≠8:=λk m z o=>by cases o;exact ⟨z,m⟩
  rcases m with rfl | rfl | rfl | rfl | rfl | rfl | rfl | rfl | rfl | rfl | rfl | rfl | rfl
  ·exact e 1 (by decide) (by decide) (by kernel_rfl)
  ·exact e 1 (by decide) (by decide) (by kernel_rfl)
  ·exact e 1 (by decide) (by decide) (by kernel_rfl)
  ·exact e 7 (by decide) (by decide) (by kernel_rfl)
  ·exact e 7 (by decide) (by decide) (by kernel_rfl)
  ·exact e 7 (by decide) (by decide) (by kernel_rfl)
  ·exact e 7 (by decide) (by decide) (by kernel_rfl)
  ·exact e 4 (by decide) (by decide) (by kernel_rfl)
  ·exact e 4 (by decide) (by decide) (by kernel_rfl)
  ·exact e 4 (by decide) (by decide) (by kernel_rfl)
  ·exact e 4 (by decide) (by decide) (by kernel_rfl)
  ·exact e 3 (by decide) (by decide) (by kernel_rfl)
  ·exact e 3 (by decide) (by decide) (by kernel_rfl)
 ·exact absurd (adz m) h
theorem ar4 {n:PV} (h:abt n=true):(aef n).length<=10/\aa7 (nVal n)≠6/\aa7 (nVal n)≠8:=by
 unfold abt at h;simp only [Ag] at h;obtain ⟨o,d⟩:=h;have z:aac (aef n)≠0:=by simpa using o
 have H:aa7 (nVal n)=aac (aef n):=by
  cases m:(aa7 (nVal n)==aac (aef n)) with
  | true=>simpa using m
  | false=>rw [a7c m] at d;cases d
 rw [H];exact bb5 z
def afq (n:PV):Bo:=(aef n++[32,61,32])++am6 (nVal n)
theorem asg {n:PV} (d:acq n) (h:abt n=true):(afq n).length<=5000000:=by have m:=(ar4 h).1;have o:=ash (nVal n) d.1.2.1;simp [afq];omega
theorem bcx (l:List PV) (hl:l.length<=40) (hs:∀ n,n∈l->acq n):∀ (m i:Nat) (d:List PV),l.length-i<=m->i<=l.length->d.length+(l.length-i)<=1000->
 aa9 (S34_4step 0) (d,l,(l.length:Int),(i:Int))=some (bif (l.drop i).all abt then .inr (d++(l.drop i).map λn=>PV.str (afq n)) else .inl []):=by
 intro m
 induction m with
 | zero=>
  intro i d hm Z Y
  have o:¬i<l.length:=by omega
  rw [A2 (by omega)]
  exact aae (by simp only [S34_4step,S34_4,abm,o,decide_false,Ae,List.all_nil,Ad,List.map_nil,List.append_nil])
 | succ m ih=>
  intro i d hm Z Y
  by_cases o:i<l.length
  ·have H:l.getD i .bad∈l:=by rw [ag2 o];exact List.getElem_mem _
   have z:=hs _ H;rw [aa1 o .bad,A9,Be];have M:=a4v (l.getD i .bad) z;cases O:abt (l.getD i .bad) with
   | false=>rw [O] at M;refine aae ?_;simp only [S34_4step,S34_4,abm,aab,o,decide_true,Ad,Ah,M,Aa,Ao,Bool.false_and,Ae]
   | true=>
    rw [O] at M;obtain ⟨hn,W,X⟩:=ar4 O;have ht:=bek _ z.1 W X;have aa:=ash (nVal (l.getD i .bad)) z.1.2.1;have U:((l.getD i .bad).fld 0).asStr=aef (l.getD i .bad):=rfl;have V:(l.getD i .bad).fld 1=nVal (l.getD i .bad):=rfl;have l1:decide ((aef (l.getD i .bad)).length+([32,61,32]:Bo).length<=aaf)=true:=aq9 (by simp only [Am,Ak,Ap];omega);have l2:decide ((aef (l.getD i .bad)++([32,61,32]:Bo)).length+(am6 (nVal (l.getD i .bad))).length<=aaf)=true:=aq9 (by simp only [Am,Ak,Ap];omega);have l3:∀ x:PV,decide (d.length+[x].length<=aak)=true:=λx=>Aj (by unfold aak;simp;omega);rw [Bool.true_and,aba (x1:=(d++[PV.str (afq (l.getD i .bad))],l,(l.length:Int),((i+1:Nat):Int))),ih (i+1) _ (by omega) (by omega) (by simp;omega),An]
    ·rfl
    ·simp only [S34_4step,S34_4,abm,aab,o,decide_true,Ad,Ah,M,Aa,Aq,Ae,U,V,ht,l1,l2,l3,bex (i:=i) (by omega),afq]
  ·rw [A2 (by omega)];exact aae (by simp only [S34_4step,S34_4,abm,o,decide_false,Ae,List.all_nil,Ad,List.map_nil,List.append_nil])
def ahg:List PV->Bo
 | []=>[]
 | n::r=>[44,32]++afq n++ahg r
theorem ay6 (l:List PV) (m:∀ n,n∈l->acq n) (d:l.all abt=true):(ahg l).length<=5000002*l.length:=by
 induction l with
 | nil=>simp [ahg]
 | cons n r z=>simp only [A9,Ag] at d;have H:=asg (m n (by simp)) d.1;have M:=z (λx o=>m x (by simp [o])) d.2;simp [ahg];omega
theorem bgp (n:PV) (r:List PV):([44,32]:Bo).intercalate ((n::r).map afq)=afq n++ahg r:=by
 induction r generalizing n with
 | nil=>simp [List.intercalate,ahg]
 | cons x r d=>have:=d x;rw [ahg,Be,Be];rw [Be] at this;simp only [List.intercalate,List.intersperse_cons_cons,List.flatten_cons] at this ⊢;rw [this];simp
noncomputable def a2r:List PV->Bo
 | []=>[]
 | n::r=>bif (n::r).all abt then [91]++(afq n++ahg r)++[93] else []
theorem a1r (l:List PV) (z:l.length<=40) (o:∀ n,n∈l->acq n):F34 0 l=some (a2r l):=by
 have h:=bcx l z o l.length 0 [] (by omega) (by omega) (by simp;omega);unfold F34;rw [show ((0:Nat):Int)=(0:Int) from rfl] at h;rw [aaq,h,A3,Au];cases l with
 | nil=>rfl
 | cons n r=>
  rw [show a2r (n::r)=bif (n::r).all abt then [91]++(afq n++ahg r)++[93] else [] from rfl];cases m:(n::r).all abt with
  | false=>rfl
  | true=>
   have d:=m;simp only [A9,Ag] at d;have h1:=asg (o n (by simp)) d.1;have h2:=ay6 r (λx Y=>o x (by simp [Y])) d.2;have H:r.length<=39:=by simp at z;omega
   have X:((n::r).map λn=>PV.str (afq n)).map PV.asStr=(n::r).map afq:=by rw [List.map_map];rfl
   have W:aqe 0 ((n::r).map λn=>PV.str (afq n)) ([44,32]:Bo)=some (afq n++ahg r):=by
    unfold aqe;rw [X,bgp];have M:Nat.ble ((n::r).map λn=>PV.str (afq n)).length 140737488355328=true:=by rw [Nat.ble_eq];simp;omega
    have O:Nat.ble (afq n++ahg r).length 140737488355328=true:=by rw [Nat.ble_eq];simp;omega
    rw [M,O];rfl
   have Z:((((n::r).map λn=>PV.str (afq n)).length:Int)==(0:Int))=false:=by simp;omega
   have U:decide (([91]:Bo).length+(afq n++ahg r).length<=aaf)=true:=aq9 (by simp only [Am,Ak,Ap];omega);have V:decide ((([91]:Bo)++(afq n++ahg r)).length+([93]:Bo).length<=aaf)=true:=aq9 (by simp only [Am,Ak,Ap];omega);simp only [Ad,Aa,abg,Z,Ae,W,U,V]
end Go.Ab
namespace Go.Ab
open Go
set_option maxRecDepth 100000
theorem aks {d:Type}{a b:Bo}{X:Option d} (h:a.length+b.length<=1000000000000000):(bif decide (a.length+b.length<=aaf) then X else none)=X:=by grind [decide_eq_true,aaf]
theorem bje {d:Type}{a:List PV}{x:PV}{X:Option d} (h:a.length<=10000000):(bif decide (a.length+[x].length<=aak) then X else none)=X:=by grind [az2]
theorem wrOk {s bs:Bo} (h:bs.length+s.length<=100000000000000):aa2 0 s bs=some ((s.length:Int),.nilIface,bs++s):=by grind [aa2,Nat.ble,Nat.ble_eq]
theorem a1d (k:Int) (d s bs:Bo) (m:aim 0 ([32,32]:Bo) k=some d) (o:d.length<=10) (h:bs.length+s.length<=90000000000000):F190 0 () k s bs=some (bs++(d++s++[10])):=by unfold F190;simp (disch:=(first | omega | (simp only [Am,Ak,Ap];omega))) only [m,aks,wrOk,Aa]
theorem a1b {s bs:Bo} (h:bs.length+s.length<=90000000000000):F190 0 () (0:Int) s bs=some (bs++(s++[10])):=a1d 0 [] s bs rfl (by simp) h
theorem a1c {s bs:Bo} (h:bs.length+s.length<=90000000000000):F190 0 () (1:Int) s bs=some (bs++([32,32]++s++[10])):=a1d 1 [32,32] s bs rfl (by simp) h
theorem line2 {s bs:Bo} (h:bs.length+s.length<=90000000000000):F190 0 () (2:Int) s bs=some (bs++([32,32,32,32]++s++[10])):=a1d 2 [32,32,32,32] s bs rfl (by simp) h
def numT (n:Int):Bo:=decB n.toNat
theorem agp (n:Int):(numT n).length<=20:=agf _
theorem apx {n:Int} (d:0<=n) (m:n<=2147483647):alt 0 n=some (numT n):=by grind [a4d,amb,numT,decide_eq_false]
noncomputable def afh (t:PV):Bo:=
 bif ad1 (t.fld 0).asInt&&((t.fld 1).asStr==[]) then kw (t.fld 0).asInt else
 bif (((t.fld 0).asInt==0)||((t.fld 0).asInt==9)||((t.fld 0).asInt==10))&&ack (t.fld 1).asStr then (t.fld 1).asStr else []
theorem bmu (t:PV) (d:(t.fld 1).asStr.length<=1048576):F337 0 t=some (afh t):=by grind [F337,afh,av7,bn9,al9,ad1,asInt,ack]
theorem azs (t:PV) (d:(t.fld 1).asStr.length<=1048576):(afh t).length<=1048576:=by have:=bb7 (t.fld 0).asInt;unfold afh;grind
noncomputable def litT (v:PV):Bo:=
 bif apd v then abl v else bif !adc (aa7 v) v then [] else bif (aa7 v==6)||(aa7 v==8) then abd (agb v) else agb v
theorem a2s {v:PV} (H:aee v) (h:adc (aa7 v) v=true) (d:((aa7 v==6)||(aa7 v==8))=true):(agb v).length<=100000:=by
 unfold agb;rw [h];simp only [Ad];cases m:aa7 v==6 with
 | true=>simp only [Ad];grind [ab2,al6,aan,ab9,decide]
 | false=>rw [m,Bool.false_or] at d;have z:=ani h (by simpa using d);have o:=ad2 ((abl v).flatMap λb=>hex2 b.toNat);rw [aj8] at o;grind
theorem boc (v:PV) (d:aee v):F338 0 v=some (litT v):=by
 have m:(v.fld 0).asInt=aa7 v:=rfl;have o:(v.fld 2).asStr=abl v:=rfl;unfold F338 litT;simp only [m,o,a4j _ d,ah1 _ _ d,bir _ d,Aa];cases apd v with
 | true=>rfl
 | false=>
  cases H:adc (aa7 v) v with
  | false=>rfl
  | true=>
   rw [bjh];cases z:((aa7 v==6)||(aa7 v==8)) with
   | false=>rfl
   | true=>have:=a2s d H z;simp only [Ad,Ae,Aq,agq _ (show (agb v).length<=1048576 by omega),Aa]
theorem a4c (v:PV) (d:aee v):(litT v).length<=5000000:=by
 have z:=bej v d.2.1;have m:=d.2.1;unfold litT;cases apd v with
 | true=>grind
 | false=>
  simp only [Ae];cases o:adc (aa7 v) v with
  | false=>simp
  | true=>
   simp only [Aq,Ae];cases m:((aa7 v==6)||(aa7 v==8)) with
   | false=>grind
   | true=>have H:=a2s d o m;have M:=ad2 (agb v);grind
noncomputable def aca (l:List PV):Bo:=bif (l.length:Int)==0 then [] else [32]++a2r l
theorem azm (l:List PV) (O:l.length<=40) (o:∀ n,n∈l->acq n):(a2r l).length<=200000200:=by
 cases l with
 | nil=>simp [a2r]
 | cons n r=>
  rw [show a2r (n::r)=bif (n::r).all abt then [91]++(afq n++ahg r)++[93] else [] from rfl];cases m:(n::r).all abt with
  | false=>simp
  | true=>have d:=m;simp only [A9,Ag] at d;have H:=asg (o n (by simp)) d.1;have M:=ay6 r (λx z=>o x (by simp [z])) d.2;grind
theorem ado (l:List PV) (d:l.length<=40) (m:∀ n,n∈l->acq n):(aca l).length<=200000201:=by have:=azm l d m;unfold aca;grind
theorem agx (l:List PV) (d:l.length<=40) (m:∀ n,n∈l->acq n):F281 0 l=some (aca l):=by have:=azm l d m;unfold F281 aca;simp (disch:=(first | omega | (simp only [Am,Ak,Ap];omega))) only [a1r l d m,Aa,aks];grind
structure RowOk (x:PV):Prop where
 ok:OkFld x
 num0:0<=(x.fld 0).asInt
 num1:(x.fld 0).asInt<=65535
 card1:1<=(x.fld 2).asInt
 card5:(x.fld 2).asInt<=5
 few:(x.fld 8).asList.length<=40
def a0e (c:Int):Bo:=bif c==1 then [114,101,113,117,105,114,101,100,32] else bif c==2 then [111,112,116,105,111,110,97,108,32] else bif c==3 then [112,108,97,105,110,32] else [108,105,115,116,32]
theorem axh (c:Int):(a0e c).length<=9:=by unfold a0e;cases c==1<;>cases c==2<;>cases c==3<;>simp
noncomputable def bbl (x:PV):Bo:=
 bif (x.fld 2).asInt==5 then [109,97,112,60]++(kw (x.fld 3).asInt++([44,32]++(afh (x.fld 4)++[62]))) else bif (x.fld 5).asStr==[] then a0e (x.fld 2).asInt++afh (x.fld 4) else afh (x.fld 4)
noncomputable def rowT (x:PV):Bo:=
 bbl x++([32]++((x.fld 1).asStr++([32,61,32]++(numT (x.fld 0).asInt++((bif (x.fld 6).asBool then [32,100,101,102,97,117,108,116,32]++litT (x.fld 7) else [])++(aca (x.fld 8).asList++[59]))))))
theorem a4w (x:PV) (h:RowOk x):(rowT x).length<=300000000:=by have d:=azs _ h.ok.type;have m:=ado _ h.few h.ok.note;have o:=a4c _ h.ok.dflt;have z:=bb7 (x.fld 3).asInt;have H:=axh (x.fld 2).asInt;have M:=agp (x.fld 0).asInt;have O:=h.ok.name;unfold rowT bbl;cases ((x.fld 2).asInt==5)<;>cases ((x.fld 5).asStr==([]:Bo))<;>cases (x.fld 6).asBool<;>simp only [Ad,Ae,Am,Ak,Ap]<;>omega
theorem bo1 (x:PV) (h:RowOk x):F282 0 x=some (rowT x):=by
 have U:=azs _ h.ok.type;have V:=ado _ h.few h.ok.note;have W:=a4c _ h.ok.dflt;have X:=bb7 (x.fld 3).asInt;have Y:=axh (x.fld 2).asInt;have Z:=agp (x.fld 0).asInt;have h7:=h.ok.name;have O:aaa (x.fld 2).asInt 5=(bif (x.fld 2).asInt==5 then false else true):=by
  have a:=h.card1;have b:=h.card5;have:(x.fld 2).asInt=1\/(x.fld 2).asInt=2\/(x.fld 2).asInt=3\/(x.fld 2).asInt=4\/(x.fld 2).asInt=5:=by omega
  rcases this with e | e | e | e | e<;>rw [e]<;>rfl
 have d:(bif (x.fld 2).asInt==5 then ([]:Bo) else ((PV.agg [(PV.str ([]:Bo)),(PV.str ([114,101,113,117,105,114,101,100,32]:Bo)),(PV.str ([111,112,116,105,111,110,97,108,32]:Bo)),(PV.str ([112,108,97,105,110,32]:Bo)),(PV.str ([108,105,115,116,32]:Bo))]).fld (x.fld 2).asInt.toNat).asStr)=(bif (x.fld 2).asInt==5 then [] else a0e (x.fld 2).asInt):=by
  have a:=h.card1;have b:=h.card5;have:(x.fld 2).asInt=1\/(x.fld 2).asInt=2\/(x.fld 2).asInt=3\/(x.fld 2).asInt=4\/(x.fld 2).asInt=5:=by omega
  rcases this with e | e | e | e | e<;>rw [e]<;>rfl
 have m:=bmu _ h.ok.type;have o:=agx _ h.few h.ok.note;have z:=boc _ h.ok.dflt;have H:=apx h.num0 (by have:=h.num1;omega);unfold F282 rowT bbl;simp only [m,o,z,H,bn9,Aa,O];generalize afh (x.fld 4)=t1 at*;generalize aca (x.fld 8).asList=t2 at*;generalize litT (x.fld 7)=t3 at*;generalize kw (x.fld 3).asInt=t4 at*;generalize a0e (x.fld 2).asInt=t5 at*;generalize numT (x.fld 0).asInt=t6 at*;generalize (x.fld 1).asStr=t7 at*;cases M:((x.fld 2).asInt==5) with
 | true=>cases (x.fld 6).asBool<;>simp (disch:=(first | omega | (simp only [Am,Ak,Ap];omega))) only [Ad,Ae,aks,An];rfl
 | false=>rw [M] at d;simp only [Ae] at d;simp only [d];cases ((x.fld 5).asStr==([]:Bo))<;>cases (x.fld 6).asBool<;>simp (disch:=(first | omega | (simp only [Am,Ak,Ap];omega))) only [Ad,Ae,aks,An,Au]
end Go.Ab
namespace Go.Ab
open Go
set_option maxRecDepth 100000
def apj (g:PV->Bo):List PV->Bo
 | []=>[]
 | x::r=>[44,32]++(g x++apj g r)
def arb (g:PV->Bo):List PV->Bo
 | []=>[]
 | x::r=>g x++apj g r
theorem bg1 (g:PV->Bo) (l:List PV):([44,32]:Bo).intercalate (l.map g)=arb g l:=by
 cases l with
 | nil=>rfl
 | cons x r=>
  induction r generalizing x with
  | nil=>simp [List.intercalate,arb,apj]
  | cons y r d=>grind [arb,apj,List.intercalate,List.intersperse_cons_cons,List.flatten_cons]
theorem bdn (g:PV->Bo) (B:Nat):∀ l:List PV,(∀ x,x∈l->(g x).length<=B)->(apj g l).length<=(B+2)*l.length:=by
 intro l;induction l with
 | nil=>grind [apj]
 | cons x r d=>grind [apj,List.length_append,List.length_cons,List.length_nil,Nat.mul_add]
theorem amg (g:PV->Bo) (B:Nat) (l:List PV) (h:∀ x,x∈l->(g x).length<=B):(arb g l).length<=(B+2)*l.length:=by
 cases l with
 | nil=>simp [arb]
 | cons x r=>have m:=h x (by simp);have o:=bdn g B r λy d=>h y (by simp [d]);grind [arb,List.length_append,List.length_cons,Nat.mul_add]
def resT (g:PV->Bo) (l:List PV):Bo:=bif (l.length:Int)==0 then [] else [32,32,114,101,115,101,114,118,101,100,32]++(arb g l++[59,10])
theorem av9 (g:PV->Bo) (B:Nat) (l:List PV) (h:∀ x,x∈l->(g x).length<=B):(resT g l).length<=(B+2)*l.length+20:=by
 have:=amg g B l h;unfold resT;cases ((l.length:Int)==0) with
 | true=>simp
 | false=>simp only [Ae,Am,Ak,Ap];omega
theorem gt0 (l:List PV):decide ((l.length:Int)>(0:Int))=!((l.length:Int)==0):=by grind
theorem a4e (g:PV->Bo) (B:Nat) (l:List PV) (hB:B<=10000000) (m:l.length<=100) (h:∀ x,x∈l->(g x).length<=B):aqe 0 (l.map λx=>PV.str (g x)) ([44,32]:Bo)=some (arb g l):=by
 have d:=amg g B l h;have z:(l.map λx=>PV.str (g x)).map PV.asStr=l.map g:=by rw [List.map_map];rfl
 have o:(B+2)*l.length<=10000002*100:=Nat.mul_le_mul (by omega) m;grind [aqe,bg1,Nat.ble,Nat.ble_eq,List.length_map,arb]
def spT (x:PV):Bo:=numT (x.fld 0).asInt++(bif (x.fld 0).asInt==(x.fld 1).asInt then [] else [32,45,32]++numT (x.fld 1).asInt)
theorem awi (x:PV):(spT x).length<=43:=by have d:=agp (x.fld 0).asInt;have m:=agp (x.fld 1).asInt;unfold spT;grind
theorem ay1 (l:List PV) (V:l.length<=16) (W:∀ x,x∈l->afe 2147483647 x=true) (bs:Bo) (hb:bs.length<=50000000000000):F283 0 () l bs=some (bs++resT spT l):=by
 have q:=abf (step:=S283_3step 0) (λk (d:List PV)=>((),d,l,(l.length:Int),(k:Int),bs)) (λd=>((),d,bs)) l .bad (λd x=>d++[PV.str (spT x)]) (λk d=>d.length+(l.length-k)<=10000000) (λk d z Z=>by
  have m:=W _ (ab8 z .bad);unfold afe at m;simp only [Aw] at m;obtain ⟨M,o,O,U⟩:=m;have X:=agp ((l.getD k .bad).fld 0).asInt;have Y:=agp ((l.getD k .bad).fld 1).asInt;refine ⟨?_,by simp;omega⟩;simp only [S283_3step,S283_3,abm,aab,z,decide_true,Ad,Ah,apx M o,apx O U,Aa,abv (i:=k) (by omega),bne];unfold spT;cases (((l.getD k .bad).fld 0).asInt==((l.getD k .bad).fld 1).asInt)<;>simp (disch:=(first | omega | (simp only [Am,Ak,Ap];omega))) only [Ad,Ae,Aq,Ao,aks,bje,List.append_nil]) (λd _=>by
  simp only [S283_3step,S283_3,abm,Nat.lt_irrefl,decide_false,Ae]) l.length 0 [] (by omega) (by simp;omega)
 rw [A3,ai7,Au] at q;have H:=amg spT 43 l λx _=>awi x;have o:(43+2)*l.length<=45*16:=Nat.mul_le_mul (by omega) V;unfold F283 resT;rw [aaq,show (0:Int)=((0:Nat):Int) from rfl,q.1,Aa];have e:((l.map λx=>PV.str (spT x)).length:Int)=(l.length:Int):=by grind
 simp (disch:=(first | omega | (simp only [Am,Ak,Ap];omega))) only [e,gt0,a4e spT 43 l (by omega) (by omega) λx _=>awi x,Aa,aks,a1c];grind
def goT (x:PV):Bo:=abd x.asStr
theorem a0v (x:PV) (h:x.asStr.length<=1048576):(goT x).length<=4194306:=by grind [ad2,goT]
theorem bbk (m:PV) (l:List PV) (U:l.length<=16) (H:∀ x,x∈l->x.asStr.length<=1048576) (bs:Bo):aa9 (S192_21step 0) ((),[],l,(l.length:Int),(0:Int),bs,m)=some ((),l.map (λx=>PV.str (goT x)),bs,m):=by
 have q:=abf (step:=S192_21step 0) (λk (d:List PV)=>((),d,l,(l.length:Int),(k:Int),bs,m)) (λd=>((),d,bs,m)) l .bad (λd x=>d++[PV.str (goT x)]) (λk d=>d.length+(l.length-k)<=10000000) (λk d o O=>by
  have M:=H _ (ab8 o .bad);have z:F134 0 (l.getD k .bad).asStr=some (goT (l.getD k .bad)):=agq _ M;refine ⟨?_,by simp;omega⟩;simp (disch:=(first | omega | (simp only [Am,Ak,Ap];omega))) only [S192_21step,S192_21,abm,aab,o,decide_true,Ad,Ah,z,Aa,bje];grind [abv]) (λd _=>by
  simp only [S192_21step,S192_21,abm,Nat.lt_irrefl,decide_false,Ae]) l.length 0 [] (by omega) (by simp;omega)
 grind [ai7]
structure MsgOk (m:PV):Prop where
 ok:OkMsg m
 rows:∀ x,x∈(m.fld 1).asList->RowOk x
 fields:(m.fld 1).asList.length<=64
 spans:(m.fld 2).asList.length<=16
 span:∀ x,x∈(m.fld 2).asList->afe 2147483647 x=true
 gone:(m.fld 3).asList.length<=16
 few:(m.fld 4).asList.length<=40
def uT (x:PV):Bo:=(x.fld 5).asStr
def bhi (u v:Bo):Bo:=
 (bif !(u==[])&&!(v==u) then [32,32,125,10] else [])++((bif !(v==[])&&!(v==u) then [32,32,117,110,105,111,110,32]++(v++[32,123,10]) else [])++(bif v==[] then [32,32] else [32,32,32,32]))
noncomputable def azh (u:Bo) (x:PV):Bo:=bhi u (uT x)++(rowT x++[10])
theorem azi (u:Bo) (x:PV) (h:RowOk x):(azh u x).length<=302000000:=by have d:=a4w x h;have m:(uT x).length<=1048576:=h.ok.union;unfold azh bhi;cases !(u==[])&&!(uT x==u)<;>cases !(uT x==[])&&!(uT x==u)<;>cases uT x==[]<;>simp only [Ad,Ae,Am,Ak,Ap]<;>omega
noncomputable def aey:Bo->List PV->Bo
 | _,[]=>[]
 | u,x::r=>azh u x++aey (uT x) r
def ad6:Bo->List PV->Bo
 | u,[]=>u
 | _,x::r=>ad6 (uT x) r
theorem ax0:∀ (l:List PV) (b u:Bo),l.foldl (λ(p:Bo×Bo) x=>(p.1++azh p.2 x,uT x)) (b,u)=(b++aey u l,ad6 u l):=by
 intro l;induction l with
 | nil=>grind [aey,ad6]
 | cons x r d=>grind [aey,ad6]
theorem a0o:∀ (l:List PV) (u:Bo),(∀ x,x∈l->RowOk x)->(aey u l).length<=302000000*l.length:=by
 intro l;induction l with
 | nil=>grind [aey]
 | cons x r d=>grind [azi,uT,aey,List.length_append,List.length_cons,Nat.mul_add]
theorem a0p (m:PV) (l:List PV) (Z:l.length<=64) (M:∀ x,x∈l->RowOk x) (b:Bo) (Y:b.length<=20000000000000):
 aa9 (S192_5step 0) ((),(),([]:Bo),l,(l.length:Int),(0:Int),b,m)=some ((),(),ad6 [] l,b++aey [] l,m):=by
 have q:=abf (step:=S192_5step 0) (λk (p:Bo×Bo)=>((),(),p.2,l,(l.length:Int),(k:Int),p.1,m)) (λp=>((),(),p.2,p.1,m)) l .bad (λ(p:Bo×Bo) x=>(p.1++azh p.2 x,uT x)) (λk p=>p.1.length<=20000000000000+302000000*k) (λk p o X=>by
  have d:=M _ (ab8 o .bad);have O:=a4w _ d;have U:(uT (l.getD k .bad)).length<=1048576:=d.ok.union;have V:=azi p.2 _ d;have z:((l.getD k .bad).fld 5).asStr=uT (l.getD k .bad):=rfl;have H:=bo1 _ d;have W:302000000*k<=302000000*64:=Nat.mul_le_mul (by omega) (by omega);refine ⟨?_,by grind⟩;simp only [S192_5step,S192_5,abm,aab,o,decide_true,Ad,Ah,z,H,Aa,abv (i:=k) (by omega)];unfold azh bhi;generalize rowT (l.getD k .bad)=t at*;generalize uT (l.getD k .bad)=v at*;generalize p.2=u at*;generalize p.1=c at*;cases (u==([]:Bo))<;>cases (v==u)<;>cases (v==([]:Bo))<;>simp (disch:=(first | omega | (simp only [Am,Ak,Ap];omega))) only [Aq,Ao,Bool.and_true,Bool.and_false,Bool.true_and,Bool.false_and,Ad,Ae,aks,a1c,line2,Aa,An,Au,As]) (λp _=>by
  simp only [S192_5step,S192_5,abm,Nat.lt_irrefl,decide_false,Ae]) l.length 0 (b,[]) (by omega) (by simp;omega)
 grind [ax0]
noncomputable def msgT (m:PV):Bo:=
 [109,101,115,115,97,103,101,32]++((m.fld 0).asStr++(aca (m.fld 4).asList++([32,123,10]++(aey [] (m.fld 1).asList++((bif ad6 [] (m.fld 1).asList==[] then [] else [32,32,125,10])++(resT spT (m.fld 2).asList++(resT goT (m.fld 3).asList++[125,10])))))))
theorem atu (m:PV) (h:MsgOk m):(aca (m.fld 4).asList).length<=200000201/\(aey [] (m.fld 1).asList).length<=19328000000/\(resT spT (m.fld 2).asList).length<=1000/\(resT goT (m.fld 3).asList).length<=70000000:=by have o:=ado _ h.few h.ok.note;have z:=a0o _ [] h.rows;have H:=av9 spT 43 (m.fld 2).asList λx _=>awi x;have M:=av9 goT 4194306 (m.fld 3).asList λx d=>a0v x (h.ok.goneS x d);have O:302000000*(m.fld 1).asList.length<=302000000*64:=Nat.mul_le_mul (by omega) h.fields;have U:(43+2)*(m.fld 2).asList.length<=45*16:=Nat.mul_le_mul (by omega) h.spans;have V:(4194306+2)*(m.fld 3).asList.length<=4194308*16:=Nat.mul_le_mul (by omega) h.gone;grind
theorem a4i (m:PV) (h:MsgOk m):(msgT m).length<=20000000000:=by obtain ⟨d,o,z,H⟩:=atu m h;have M:=h.ok.name;unfold msgT;cases ad6 [] (m.fld 1).asList==[]<;>simp only [Ad,Ae,Am,Ak,Ap]<;>omega
theorem boi (m:PV) (h:MsgOk m) (bs:Bo) (hb:bs.length<=10000000000000):F192 0 () m bs=some (bs++msgT m):=by
 obtain ⟨Y,Z,h3,h4⟩:=atu m h;have h5:=h.ok.name;have U:=agx _ h.few h.ok.note;have V:∀ c:Bo,c.length<=20000000000000->_:=λc d=>a0p m _ h.fields h.rows c d;have z:∀ c:Bo,c.length<=50000000000000->_:=λc d=>ay1 _ h.spans h.span c d;have H:=bbk m _ h.gone h.ok.goneS;have M:=a4e goT 4194306 (m.fld 3).asList (by omega) (by have:=h.gone;omega) λx o=>a0v x (h.ok.goneS x o);have W:=amg goT 4194306 (m.fld 3).asList λx o=>a0v x (h.ok.goneS x o);have X:(4194306+2)*(m.fld 3).asList.length<=4194308*16:=Nat.mul_le_mul (by omega) h.gone;have e:(((m.fld 3).asList.map λx=>PV.str (goT x)).length:Int)=((m.fld 3).asList.length:Int):=by grind
 have O:resT goT (m.fld 3).asList=bif ((m.fld 3).asList.length:Int)==0 then [] else [32,32,114,101,115,101,114,118,101,100,32]++(arb goT (m.fld 3).asList++[59,10]):=rfl;unfold F192 msgT;simp (disch:=(first | omega | (simp only [Am,Ak,Ap];omega))) only [U,aks,Aa,a1b,aaq,V];cases ad6 [] (m.fld 1).asList==([]:Bo) with
 | true=>simp (disch:=(first | omega | (simp only [Am,Ak,Ap];omega))) only [Aq,Ae,Ad,z,H,Aa,aaq,e,gt0];rw [O];cases (((m.fld 3).asList.length:Int)==(0:Int))<;>simp (disch:=(first | omega | (simp only [Am,Ak,Ap];omega))) only [Aq,Ao,Ae,Ad,M,aks,a1b,a1c,Aa,An,Au,As]
 | false=>simp (disch:=(first | omega | (simp only [Am,Ak,Ap];omega))) only [Ao,Ae,Ad,a1c,z,H,Aa,aaq,e,gt0];rw [O];cases (((m.fld 3).asList.length:Int)==(0:Int))<;>simp (disch:=(first | omega | (simp only [Am,Ak,Ap];omega))) only [Aq,Ao,Ae,Ad,M,aks,a1b,a1c,Aa,An,Au,As]
end Go.Ab
namespace Go.Ab
open Go
set_option maxRecDepth 100000
theorem avf (g:PV->Bo):∀ (l:List PV) (b:Bo),l.foldl (λb x=>b++g x) b=b++l.flatMap g:=by
 intro l;induction l with
 | nil=>intro b;simp
 | cons x r d=>grind
theorem avd (g:PV->Bo) (B:Nat):∀ l:List PV,(∀ x,x∈l->(g x).length<=B)->(l.flatMap g).length<=B*l.length:=by
 intro l;induction l with
 | nil=>intro _;simp
 | cons x r d=>grind [List.length_append,List.length_cons,Nat.mul_add]
structure EnumOk (m:PV):Prop where
 ok:OkEnum m
 items:(m.fld 2).asList.length<=64
 num:∀ x,x∈(m.fld 2).asList->0<=(x.fld 1).asInt/\(x.fld 1).asInt<=2147483647
 ifew:∀ x,x∈(m.fld 2).asList->(x.fld 2).asList.length<=40
 spans:(m.fld 3).asList.length<=16
 span:∀ x,x∈(m.fld 3).asList->afe 2147483647 x=true
 few:(m.fld 4).asList.length<=40
noncomputable def ano (x:PV):Bo:=[32,32]++((x.fld 0).asStr++([32,61,32]++(numT (x.fld 1).asInt++(aca (x.fld 2).asList++[59,10]))))
theorem ayb (x:PV) (h:OkItem x) (d:(x.fld 2).asList.length<=40):(ano x).length<=202000000:=by have m:=ado _ d h.note;have o:=agp (x.fld 1).asInt;have z:=h.name;grind [ano,List.length_append,List.length_cons,List.length_nil]
noncomputable def agz (m:PV):Bo:=
 (bif (m.fld 1).asBool then [111,112,101,110,32] else [])++([101,110,117,109,32]++((m.fld 0).asStr++(aca (m.fld 4).asList++([32,123,10]++((m.fld 2).asList.flatMap ano++(resT spT (m.fld 3).asList++[125,10]))))))
theorem aq1 (m:PV) (h:EnumOk m):(aca (m.fld 4).asList).length<=200000201/\((m.fld 2).asList.flatMap ano).length<=12928000000/\(resT spT (m.fld 3).asList).length<=1000:=by have o:=ado _ h.few h.ok.note;have z:=avd ano 202000000 (m.fld 2).asList λx d=>ayb x (h.ok.item x d) (h.ifew x d);have H:=av9 spT 43 (m.fld 3).asList λx _=>awi x;have M:202000000*(m.fld 2).asList.length<=202000000*64:=Nat.mul_le_mul (by omega) h.items;have O:(43+2)*(m.fld 3).asList.length<=45*16:=Nat.mul_le_mul (by omega) h.spans;grind
theorem axw (m:PV) (h:EnumOk m):(agz m).length<=20000000000:=by obtain ⟨d,o,z⟩:=aq1 m h;have H:=h.ok.name;unfold agz;cases (m.fld 1).asBool<;>simp only [Ad,Ae,Am,Ak,Ap]<;>omega
theorem a7o (m:PV) (h:EnumOk m) (b:Bo) (hb:b.length<=20000000000000):
 aa9 (S194_7step 0) ((),(),(m.fld 2).asList,((m.fld 2).asList.length:Int),(0:Int),b,m)=some ((),(),b++(m.fld 2).asList.flatMap ano,m):=by
 have hl:=h.items
 have q:=abf (step:=S194_7step 0) (λk (b:Bo)=>((),(),(m.fld 2).asList,((m.fld 2).asList.length:Int),(k:Int),b,m)) (λb=>((),(),b,m)) (m.fld 2).asList .bad (λb x=>b++ano x) (λk b=>b.length<=20000000000000+202000000*k) (λk b H Z=>by
  have z:=ab8 H .bad;have d:=h.ok.item _ z;have o:=h.ifew _ z;have M:=h.num _ z;have U:=ayb _ d o;have V:=d.name;have W:=ado _ o d.note;have X:=agp (((m.fld 2).asList.getD k .bad).fld 1).asInt;have O:=agx _ o d.note;have Y:202000000*k<=202000000*64:=Nat.mul_le_mul (by omega) (by omega);refine ⟨?_,by grind⟩;simp only [S194_7step,S194_7,abm,aab,H,decide_true,Ad,Ah,O,apx M.1 M.2,Aa,abv (i:=k) (by omega)];simp (disch:=(first | omega | (simp only [Am,Ak,Ap];omega))) only [aks,a1c,Aa];simp only [ano,An,As,Au]) (λb _=>by
  simp only [S194_7step,S194_7,abm,Nat.lt_irrefl,decide_false,Ae]) (m.fld 2).asList.length 0 b (by omega) (by omega)
 grind [avf]
theorem bkp (m:PV) (h:EnumOk m) (bs:Bo) (W:bs.length<=10000000000000):F194 0 () m bs=some (bs++agz m):=by obtain ⟨M,O,U⟩:=aq1 m h;have V:=h.ok.name;have o:=agx _ h.few h.ok.note;have z:∀ c:Bo,c.length<=20000000000000->_:=λc d=>a7o m h c d;have H:∀ c:Bo,c.length<=50000000000000->_:=λc d=>ay1 _ h.spans h.span c d;unfold F194 agz;simp only [o,Aa,aaq];cases (m.fld 1).asBool<;>simp (disch:=(first | omega | (simp only [Am,Ak,Ap];omega))) only [Ad,Ae,aks,a1b,z,H,Aa,An,Au,As]
structure SvcOk (m:PV):Prop where
 ok:OkSvc m
 meths:(m.fld 1).asList.length<=64
 mfew:∀ x,x∈(m.fld 1).asList->(x.fld 4).asList.length<=40
 few:(m.fld 2).asList.length<=40
def azb (b:Bool) (s:Bo):Bo:=bif b then [115,116,114,101,97,109,32]++s else s
noncomputable def apf (x:PV):Bo:=
 [32,32,114,112,99,32]++((x.fld 0).asStr++([40]++(azb (((x.fld 3).asInt==3)||((x.fld 3).asInt==4)) (x.fld 1).asStr++([41,32,114,101,116,117,114,110,115,32,40]++(azb (((x.fld 3).asInt==2)||((x.fld 3).asInt==4)) (x.fld 2).asStr++([41]++(aca (x.fld 4).asList++[59,10])))))))
theorem ayl (x:PV) (h:OkMeth x) (d:(x.fld 4).asList.length<=40):(apf x).length<=205000000:=by have m:=ado _ d h.note;have o:=h.inn;have z:=h.out;have H:=h.name;unfold apf azb;cases (((x.fld 3).asInt==3)||((x.fld 3).asInt==4))<;>cases (((x.fld 3).asInt==2)||((x.fld 3).asInt==4))<;>simp only [Ad,Ae,Am,Ak,Ap]<;>omega
noncomputable def svcT (m:PV):Bo:=
 [115,101,114,118,105,99,101,32]++((m.fld 0).asStr++(aca (m.fld 2).asList++([32,123,10]++((m.fld 1).asList.flatMap apf++[125,10]))))
theorem auf (m:PV) (h:SvcOk m):(aca (m.fld 2).asList).length<=200000201/\((m.fld 1).asList.flatMap apf).length<=13120000000:=by have o:=ado _ h.few h.ok.note;have z:=avd apf 205000000 (m.fld 1).asList λx d=>ayl x (h.ok.meth x d) (h.mfew x d);have H:205000000*(m.fld 1).asList.length<=205000000*64:=Nat.mul_le_mul (by omega) h.meths;grind
theorem bio (m:PV) (h:SvcOk m):(svcT m).length<=20000000000:=by obtain ⟨d,o⟩:=auf m h;have z:=h.ok.name;grind [svcT,List.length_append,List.length_cons,List.length_nil]
theorem a7z (m:PV) (h:SvcOk m) (b:Bo) (hb:b.length<=20000000000000):
 aa9 (S196_4step 0) ((),(m.fld 1).asList,((m.fld 1).asList.length:Int),(0:Int),b,m)=some ((),b++(m.fld 1).asList.flatMap apf,m):=by
 have hl:=h.meths
 have q:=abf (step:=S196_4step 0) (λk (b:Bo)=>((),(m.fld 1).asList,((m.fld 1).asList.length:Int),(k:Int),b,m)) (λb=>((),b,m)) (m.fld 1).asList .bad (λb x=>b++apf x) (λk b=>b.length<=20000000000000+205000000*k) (λk b z Z=>by
  have H:=ab8 z .bad;have d:=h.ok.meth _ H;have o:=h.mfew _ H;have O:=ayl _ d o;have U:=d.name;have V:=ado _ o d.note;have W:=d.inn;have Y:=d.out;have M:=agx _ o d.note;have X:205000000*k<=205000000*64:=Nat.mul_le_mul (by omega) (by omega);refine ⟨?_,by grind⟩;simp only [S196_4step,S196_4,abm,aab,z,decide_true,Ad,Ah,M,Aa,abv (i:=k) (by omega),bjh];unfold apf azb;cases (((((m.fld 1).asList.getD k .bad).fld 3).asInt==(3:Int))||((((m.fld 1).asList.getD k .bad).fld 3).asInt==(4:Int)))<;>cases (((((m.fld 1).asList.getD k .bad).fld 3).asInt==(2:Int))||((((m.fld 1).asList.getD k .bad).fld 3).asInt==(4:Int)))<;>simp (disch:=(first | omega | (simp only [Am,Ak,Ap];omega))) only [Ad,Ae,aks,a1c,Aa,An,As,Au]) (λb _=>by
  simp only [S196_4step,S196_4,abm,Nat.lt_irrefl,decide_false,Ae]) (m.fld 1).asList.length 0 b (by omega) (by omega)
 grind [avf]
theorem bpd (m:PV) (h:SvcOk m) (bs:Bo) (U:bs.length<=10000000000000):F196 0 () m bs=some (bs++svcT m):=by obtain ⟨H,M⟩:=auf m h;have O:=h.ok.name;have d:=agx _ h.few h.ok.note;have o:∀ c:Bo,c.length<=20000000000000->_:=λc z=>a7z m h c z;unfold F196 svcT;simp only [d,Aa,aaq];simp (disch:=(first | omega | (simp only [Am,Ak,Ap];omega))) only [aks,a1b,o,Aa,An,Au,As]
def defG (g:PV->Bo) (b:Bo) (x:PV):Bo:=(bif b==[] then b else b++[10])++g x
theorem a3o (g:PV->Bo):∀ (l:List PV) (b:Bo),(∀ x,x∈l->(g x).length<=20000000000)->(l.foldl (defG g) b).length<=b.length+20000000001*l.length:=by
 intro l;induction l with
 | nil=>intro b _;simp
 | cons x r m=>
  intro b h;have o:=h x (by simp);have z:=m (defG g b x) λy d=>h y (by simp [d]);have H:(defG g b x).length<=b.length+20000000001:=by unfold defG;grind
  grind
theorem lenB (b:Bo):decide ((b.length:Int)>(0:Int))=!(b==([]:Bo)):=by
 cases b with
 | nil=>rfl
 | cons x r=>grind
theorem bft (l:List PV) (V:l.length<=64) (h:∀ x,x∈l->MsgOk x) (b:Bo) (U:b.length<=3000000000000):F191 0 () l () b=some (l.foldl (defG msgT) b):=by
 have q:=abf (step:=S191_2step 0) (λk (b:Bo)=>((),(),l,(l.length:Int),(k:Int),b)) (λb=>b) l .bad (defG msgT) (λk b=>b.length<=3000000000000+20000000001*k) (λk b d O=>by
  have m:=h _ (ab8 d .bad);have H:=a4i _ m;have o:∀ c:Bo,c.length<=10000000000000->_:=λc z=>boi _ m c z;have M:20000000001*k<=20000000001*64:=Nat.mul_le_mul (by omega) (by omega);refine ⟨?_,?_⟩
  ·simp only [S191_2step,S191_2,abm,aab,d,decide_true,Ad,Ah,azz,Aa,abv (i:=k) (by omega),lenB];unfold defG;cases W:(b==([]:Bo))<;>simp (disch:=(first | omega | (simp only [Am,Ak,Ap];omega))) only [Aq,Ao,Ad,Ae,wrOk,o,Aa]
  ·unfold defG;grind) (λb _=>by
  simp only [S191_2step,S191_2,abm,Nat.lt_irrefl,decide_false,Ae]) l.length 0 b (by omega) (by omega)
 rw [A3] at q;unfold F191;rw [aaq,show (0:Int)=((0:Nat):Int) from rfl,q.1];rfl
theorem bas (l:List PV) (V:l.length<=64) (h:∀ x,x∈l->EnumOk x) (b:Bo) (U:b.length<=3000000000000):F193 0 () l () b=some (l.foldl (defG agz) b):=by
 have q:=abf (step:=S193_2step 0) (λk (b:Bo)=>((),(),l,(l.length:Int),(k:Int),b)) (λb=>b) l .bad (defG agz) (λk b=>b.length<=3000000000000+20000000001*k) (λk b d O=>by
  have m:=h _ (ab8 d .bad);have H:=axw _ m;have o:∀ c:Bo,c.length<=10000000000000->_:=λc z=>bkp _ m c z;have M:20000000001*k<=20000000001*64:=Nat.mul_le_mul (by omega) (by omega);refine ⟨?_,?_⟩
  ·simp only [S193_2step,S193_2,abm,aab,d,decide_true,Ad,Ah,azz,Aa,abv (i:=k) (by omega),lenB];unfold defG;cases W:(b==([]:Bo))<;>simp (disch:=(first | omega | (simp only [Am,Ak,Ap];omega))) only [Aq,Ao,Ad,Ae,wrOk,o,Aa]
  ·unfold defG;grind) (λb _=>by
  simp only [S193_2step,S193_2,abm,Nat.lt_irrefl,decide_false,Ae]) l.length 0 b (by omega) (by omega)
 rw [A3] at q;unfold F193;rw [aaq,show (0:Int)=((0:Nat):Int) from rfl,q.1];rfl
theorem bfv (l:List PV) (V:l.length<=64) (h:∀ x,x∈l->SvcOk x) (b:Bo) (U:b.length<=3000000000000):F195 0 () l () b=some (l.foldl (defG svcT) b):=by
 have q:=abf (step:=S195_2step 0) (λk (b:Bo)=>((),(),l,(l.length:Int),(k:Int),b)) (λb=>b) l .bad (defG svcT) (λk b=>b.length<=3000000000000+20000000001*k) (λk b d O=>by
  have m:=h _ (ab8 d .bad);have H:=bio _ m;have o:∀ c:Bo,c.length<=10000000000000->_:=λc z=>bpd _ m c z;have M:20000000001*k<=20000000001*64:=Nat.mul_le_mul (by omega) (by omega);refine ⟨?_,?_⟩
  ·simp only [S195_2step,S195_2,abm,aab,d,decide_true,Ad,Ah,azz,Aa,abv (i:=k) (by omega),lenB];unfold defG;cases W:(b==([]:Bo))<;>simp (disch:=(first | omega | (simp only [Am,Ak,Ap];omega))) only [Aq,Ao,Ad,Ae,wrOk,o,Aa]
  ·unfold defG;grind) (λb _=>by
  simp only [S195_2step,S195_2,abm,Nat.lt_irrefl,decide_false,Ae]) l.length 0 b (by omega) (by omega)
 rw [A3] at q;unfold F195;rw [aaq,show (0:Int)=((0:Nat):Int) from rfl,q.1];rfl
structure FileOk (f:PV):Prop where
 ok:OkFile f
 imports:(f.fld 2).asList.length<=16
 msgs:(f.fld 3).asList.length<=64
 msg:∀ x,x∈(f.fld 3).asList->MsgOk x
 enums:(f.fld 4).asList.length<=64
 enum:∀ x,x∈(f.fld 4).asList->EnumOk x
 svcs:(f.fld 5).asList.length<=64
 svc:∀ x,x∈(f.fld 5).asList->SvcOk x
def impT (x:PV):Bo:=[105,109,112,111,114,116,32]++(abd x.asStr++[59,10])
theorem a3x (x:PV) (h:x.asStr.length<=1048576):(impT x).length<=4194400:=by grind [ad2,impT,List.length_append,List.length_cons,List.length_nil]
theorem ax7 (f:PV) (h:FileOk f) (b:Bo) (O:b.length<=10000000):
 aa9 (S85_6step 0) ((),(),(f.fld 2).asList,((f.fld 2).asList.length:Int),(0:Int),f,b)=some ((),(),f,b++(f.fld 2).asList.flatMap impT):=by
 have U:=h.imports
 have q:=abf (step:=S85_6step 0) (λk (b:Bo)=>((),(),(f.fld 2).asList,((f.fld 2).asList.length:Int),(k:Int),f,b)) (λb=>((),(),f,b)) (f.fld 2).asList .bad (λb x=>b++impT x) (λk b=>b.length<=10000000+4194400*k) (λk b d M=>by
  have m:=h.ok.importS _ (ab8 d .bad);have o:=a3x _ m;have z:=ad2 ((f.fld 2).asList.getD k .bad).asStr;have H:4194400*k<=4194400*16:=Nat.mul_le_mul (by omega) (by omega);refine ⟨?_,by grind⟩;simp only [S85_6step,S85_6,abm,aab,d,decide_true,Ad,Ah,agq _ m,Aa,abv (i:=k) (by omega)];simp (disch:=(first | omega | (simp only [Am,Ak,Ap];omega))) only [aks,a1b,Aa];simp only [impT,An,As,Au]) (λb _=>by
  simp only [S85_6step,S85_6,abm,Nat.lt_irrefl,decide_false,Ae]) (f.fld 2).asList.length 0 b (by omega) (by omega)
 grind [avf]
def topT (f:PV):Bo:=(bif (f.fld 1).asStr==[] then [] else [115,112,97,99,101,32]++((f.fld 1).asStr++[59,10]))++(f.fld 2).asList.flatMap impT
theorem biv (f:PV) (h:FileOk f):(topT f).length<=100000000:=by have m:=avd impT 4194400 (f.fld 2).asList λx d=>a3x x (h.ok.importS x d);have o:=h.ok.space;have z:4194400*(f.fld 2).asList.length<=4194400*16:=Nat.mul_le_mul (by omega) h.imports;unfold topT;cases ((f.fld 1).asStr==([]:Bo))<;>simp only [Ad,Ae,Am,Ak,Ap]<;>omega
noncomputable def ald (f:PV):Bo:=(f.fld 5).asList.foldl (defG svcT) ((f.fld 4).asList.foldl (defG agz) ((f.fld 3).asList.foldl (defG msgT) (topT f)))
theorem a0r (f:PV) (h:FileOk f):(topT f).length<=100000000/\((f.fld 3).asList.foldl (defG msgT) (topT f)).length<=1300000000000/\((f.fld 4).asList.foldl (defG agz) ((f.fld 3).asList.foldl (defG msgT) (topT f))).length<=2600000000000:=by have m:=biv f h;have o:=a3o msgT (f.fld 3).asList (topT f) λx d=>a4i x (h.msg x d);have z:=a3o agz (f.fld 4).asList ((f.fld 3).asList.foldl (defG msgT) (topT f)) λx d=>axw x (h.enum x d);have H:20000000001*(f.fld 3).asList.length<=20000000001*64:=Nat.mul_le_mul (by omega) h.msgs;have M:20000000001*(f.fld 4).asList.length<=20000000001*64:=Nat.mul_le_mul (by omega) h.enums;grind
theorem a5i (f:PV) (h:FileOk f):F85 0 f=some (ald f):=by
 obtain ⟨U,V,W⟩:=a0r f h;have X:=h.ok.space;have m:∀ c:Bo,c.length<=10000000->_:=λc O=>ax7 f h c O;have o:F191 0 () (f.fld 3).asList () (topT f)=_:=bft _ h.msgs h.msg (topT f) (by omega);have z:=bas _ h.enums h.enum ((f.fld 3).asList.foldl (defG msgT) (topT f)) (by omega);have H:=bfv _ h.svcs h.svc ((f.fld 4).asList.foldl (defG agz) ((f.fld 3).asList.foldl (defG msgT) (topT f))) (by omega);have d:topT f=(bif (f.fld 1).asStr==[] then [] else [115,112,97,99,101,32]++((f.fld 1).asStr++[59,10]))++(f.fld 2).asList.flatMap impT:=rfl;unfold F85 ald;cases M:((f.fld 1).asStr==([]:Bo)) with
 | true=>rw [M] at d;simp only [Ad,Au] at d;simp (disch:=(first | omega | (simp only [Am,Ak,Ap];omega))) only [Aq,Ae,aaq,m,Au,Aa,<-d,o,z,H,ain]
 | false=>rw [M] at d;simp only [Ae,An,As,Au] at d;simp (disch:=(first | omega | (simp only [Am,Ak,Ap];omega))) only [Ao,Ad,aks,a1b,aaq,m,Aa,An,As,Au,<-d,o,z,H,ain]
end Go.Ab
namespace Go.Ab
open Go
set_option maxRecDepth 100000
theorem ba4 {e:Int}{l:List PV}{t:Int} (h:errN e l t=0):e=0/\aiu l t=0:=by unfold errN at h;grind
theorem axy:∀ (l:List PV) (e:Int),errL l e=0->e=0/\∀ n,n∈l->aiu (n.fld 0).asList (n.fld 1).asInt=0:=by
 intro l;induction l with
 | nil=>intro e h;exact ⟨h,λn m=>by cases m⟩
 | cons n r o=>intro e h;obtain ⟨d,z⟩:=o _ h;obtain ⟨H,M⟩:=ba4 d;grind
theorem a6j {l:List PV}{t:Int} (h:aiu l t=0):l.length<=40:=by grind [aiu]
theorem at0 {f:PV} (h:ahb f=0) {n:PV} (d:n∈ac8 f):(n.fld 0).asList.length<=40:=by grind [aq2,a6j,axy]
theorem bml {a b:Int} (d:a<=b) {x:PV} (h:afe a x=true):afe b x=true:=by unfold afe at*;grind
theorem bo3 {x:PV} (h:OkFld x) (d:agw x=true) (M:(x.fld 8).asList.length<=40):RowOk x:=by unfold agw a4t at d;simp only [Ag,Aw] at d;obtain ⟨⟨⟨⟨m,o,z,H,_⟩,_⟩,_⟩,_⟩:=d;exact ⟨h,m,o,z,H,M⟩
theorem bbe {f:PV} (h:OkFile f) (V:aew f=true) (O:ahb f=0) (W:aiv f=true):FileOk f:=by
 unfold aew at V;unfold aiv axl at W;simp only [Ag,Aw,Bf] at V W;obtain ⟨⟨X,Y⟩,a3⟩:=V;obtain ⟨⟨⟨⟨⟨⟨Z,c2⟩,c3⟩,c4⟩,c5⟩,c6⟩,c7⟩:=W;refine ⟨h,Z,c2,λm M=>?_,c3,λm M=>?_,c4,λm M=>?_⟩
 ·have U:=h.msg m M;have o:=X m M;have d:=c5 m M;unfold aqi at o;unfold atg at d;simp only [Ag,Aw,Bf] at o d;have z:∀ n,n∈anv m->n∈ac8 f:=λn O=>by
   grind [ac8,List.mem_append_left]
  refine ⟨U,λx H=>bo3 (U.field x H) (o.1.1 x H) ?_,d.1.1,d.1.2,λx H=>bml (by decide) (o.2 x H),d.2,?_⟩
  ·exact at0 (n:=nv (x.fld 8).asList 2) O (z _ (List.mem_cons_of_mem _ (List.mem_map.2 ⟨x,H,rfl⟩)))
  ·exact at0 (n:=nv (m.fld 4).asList 1) O (z _ (List.mem_cons_self ..))
 ·have U:=h.enum m M;have o:=Y m M;have d:=c6 m M;unfold aqh at o;unfold ane at d;simp only [Ag,Aw,Bf] at o d;have z:∀ n,n∈ajj m->n∈ac8 f:=λn O=>by
   grind [ac8,List.mem_append_left,List.mem_append_right]
  refine ⟨U,d.1,λx H=>?_,λx H=>?_,d.2,o.1,?_⟩
  ·have:=o.2 x H;unfold auu at this;grind
  ·exact at0 (n:=nv (x.fld 2).asList 4) O (z _ (List.mem_cons_of_mem _ (List.mem_map.2 ⟨x,H,rfl⟩)))
  ·exact at0 (n:=nv (m.fld 4).asList 3) O (z _ (List.mem_cons_self ..))
 ·have U:=h.svc m M;have d:=c7 m M;unfold axk at d;simp only [Aw] at d;have z:∀ n,n∈avt m->n∈ac8 f:=λn O=>by
   grind [ac8,List.mem_append_right]
  refine ⟨U,d,λx H=>?_,?_⟩
  ·exact at0 (n:=nv (x.fld 4).asList 6) O (z _ (List.mem_cons_of_mem _ (List.mem_map.2 ⟨x,H,rfl⟩)))
  ·exact at0 (n:=nv (m.fld 2).asList 5) O (z _ (List.mem_cons_self ..))
noncomputable def chkF (f:PV):Int:=
 bif !amo f then 8 else bif !aew f then 1 else bif !asi f then 7 else bif ahb f != 0 then ahb f else bif !aiv f then 3 else bif decide (((ald f).length:Int)>16384) then 3 else 0
theorem a8a (f:PV) (h:OkFile f):(ac8 f).length<=100000000:=by
 have z:=h.many;have e:∀ (g:PV->List PV) (i:Nat),(∀ m,(g m).length=(m.fld i).asList.length+1)->∀ l:List PV,(l.flatMap g).length=aen l i:=by
  intro g i d l;induction l with
  | nil=>rfl
  | cons m r o=>rw [List.flatMap_cons,Am,o,d];rfl
 grind [ac8,List.length_append,anv,ajj,avt]
theorem bjg (f:PV) (h:OkFile f):F39 0 f=some (chkF f):=by
 have q:=auy f (ac8 f) (a8a f h) (bcr f h) (ac8 f).length 0 (by omega);rw [A3,aq2] at q;unfold F39 chkF;simp only [bg6 f h,Aa,a8i f h,bis f h,nl_eq f h,aaq];rw [show (0:Int)=((0:Nat):Int) from rfl,q];cases amo f with
 | false=>rfl
 | true=>
  cases z:aew f with
  | false=>rfl
  | true=>
   cases asi f with
   | false=>rfl
   | true=>
    by_cases d:ahb f=0
    ·simp only [d,Aq,Ae,Bk,Ad,Aa,abg,ban f h];cases H:aiv f with
     | false=>rfl
     | true=>simp only [Aq,Ao,Ad,Ae,a5i f (bbe h z d H),Aa];grind
    ·have m:(ahb f==(0:Int))=false:=beqI d;have o:(ahb f != (0:Int))=true:=bneI d;simp only [Aq,Ae,m,o,Aa,ab3];grind
theorem a3k {f:PV} (h:OkFile f) (d:chkF f=0):FileOk f:=by
 unfold chkF at d;cases m:amo f<;>rw [m] at d
 ·cases d
 cases o:aew f<;>rw [o] at d
 ·cases d
 cases z:asi f<;>rw [z] at d
 ·cases d
 simp only [Aq,Ae] at d;by_cases H:ahb f=0
 ·grind [aiv,bbe]
 grind
theorem bhn (f:PV) (h:OkFile f):F41 0 f=some (bif chkF f != 0 then [] else ald f):=by
 unfold F41;rw [bjg f h,Aa];by_cases d:chkF f=0
 ·grind [a5i,a3k]
 grind
end Go.Ab
namespace Go.Ab
open Go
set_option maxRecDepth 100000
theorem atf (v:PV):aah v.asList<=aaj v:=by cases v<;>simp [PV.asList,aah,aaj]
theorem axf (v:PV) (i:Nat):aaj (v.fld i)<=aaj v:=by
 unfold PV.fld;cases v with
 | agg xs=>
  show aaj (xs.getD i .bad)<=aah xs+1;by_cases h:i<xs.length
  ·have:xs.getD i .bad∈xs:=by rw [ag2 h];exact List.getElem_mem h
   have:=ak8 this;omega
  ·have:xs.getD i .bad=.bad:=by simp [List.getD,Bj (Nat.le_of_not_lt h)]
   rw [this];simp [aaj]
 | _=>simp [PV.parts,aaj]
theorem bmem {xs:List PV}{n i:Nat} (d:aah xs<=n) (h:i<xs.length):aaj (xs.getD i .bad)<=n:=by
 have:xs.getD i .bad∈xs:=by rw [ag2 h];exact List.getElem_mem h
 have:=ak8 this;omega
theorem bsub {v:PV}{n:Nat} (d:aaj v<=n) (i:Nat):aah (v.fld i).asList<=n:=by have:=axf v i;have:=atf (v.fld i);omega
theorem blen {v:PV}{n:Nat} (d:aaj v<=n) (i:Nat):(v.fld i).asList.length<=n:=by have:=bsub d i;have:=adx (v.fld i).asList;omega
end Go.Ab
namespace Go.Ab
open Go
set_option maxRecDepth 100000
def aod (x y:PV):Bool:=((x.asStr==y.asStr))
theorem aue (x:PV):aod x x=true:=by simp [aod]
def ahi (x y:PV):Bool:=(((x.fld 0).asInt==(y.fld 0).asInt))&&(((x.fld 1).asInt==(y.fld 1).asInt))
theorem ar9 (x:PV):ahi x x=true:=by simp [ahi]
def vEq (x y:PV):Bool:=(((x.fld 0).asInt==(y.fld 0).asInt))&&(((x.fld 1).asInt==(y.fld 1).asInt))&&(((x.fld 2).asStr==(y.fld 2).asStr))
theorem a5o (x:PV):vEq x x=true:=by simp [vEq]
def tEq (x y:PV):Bool:=(((x.fld 0).asInt==(y.fld 0).asInt))&&(((x.fld 1).asStr==(y.fld 1).asStr))
theorem bip (x:PV):tEq x x=true:=by simp [tEq]
def acy (x y:PV):Bool:=(((x.fld 0).asStr==(y.fld 0).asStr))&&(vEq (x.fld 1) (y.fld 1))
theorem a1q (x:PV):acy x x=true:=by simp [acy,a5o]
def ast (x y:PV):Bool:=(((x.fld 0).asInt==(y.fld 0).asInt))&&(((x.fld 1).asStr==(y.fld 1).asStr))&&(((x.fld 2).asInt==(y.fld 2).asInt))&&(((x.fld 3).asInt==(y.fld 3).asInt))&&(tEq (x.fld 4) (y.fld 4))&&(((x.fld 5).asStr==(y.fld 5).asStr))&&(((x.fld 6).asBool==(y.fld 6).asBool))&&(vEq (x.fld 7) (y.fld 7))&&(eqL acy (x.fld 8).asList (y.fld 8).asList)
def arl (x y:PV):Bool:=(((x.fld 0).asStr==(y.fld 0).asStr))&&(eqL ast (x.fld 1).asList (y.fld 1).asList)&&(eqL ahi (x.fld 2).asList (y.fld 2).asList)&&(eqL aod (x.fld 3).asList (y.fld 3).asList)&&(eqL acy (x.fld 4).asList (y.fld 4).asList)
def ama (x y:PV):Bool:=(((x.fld 0).asStr==(y.fld 0).asStr))&&(((x.fld 1).asInt==(y.fld 1).asInt))&&(eqL acy (x.fld 2).asList (y.fld 2).asList)
def ai1 (x y:PV):Bool:=(((x.fld 0).asStr==(y.fld 0).asStr))&&(((x.fld 1).asBool==(y.fld 1).asBool))&&(eqL ahi (x.fld 3).asList (y.fld 3).asList)&&(eqL acy (x.fld 4).asList (y.fld 4).asList)&&(eqL ama (x.fld 2).asList (y.fld 2).asList)
def amm (x y:PV):Bool:=(((x.fld 0).asStr==(y.fld 0).asStr))&&(((x.fld 1).asStr==(y.fld 1).asStr))&&(((x.fld 2).asStr==(y.fld 2).asStr))&&(((x.fld 3).asInt==(y.fld 3).asInt))&&(eqL acy (x.fld 4).asList (y.fld 4).asList)
def as5 (x y:PV):Bool:=(((x.fld 0).asStr==(y.fld 0).asStr))&&(eqL acy (x.fld 2).asList (y.fld 2).asList)&&(eqL amm (x.fld 1).asList (y.fld 1).asList)
def a3t (x y:PV):Bool:=(((x.fld 1).asStr==(y.fld 1).asStr))&&(eqL aod (x.fld 2).asList (y.fld 2).asList)&&(eqL arl (x.fld 3).asList (y.fld 3).asList)&&(eqL ai1 (x.fld 4).asList (y.fld 4).asList)&&(eqL as5 (x.fld 5).asList (y.fld 5).asList)
theorem a7r {f:PV->PV->Bool} (a b:List PV):decide (a.length=b.length)=true\/eqL f a b=false:=by grind [decide_eq_true,au6]
theorem ahh (xs m:List PV) (H:aah xs<=1048576):F37 0 xs m=some (eqL acy xs m):=by
 have O:=adx xs;unfold F37;rw [neLen];by_cases h:xs.length=m.length
 ·have M:decide (xs.length=m.length)=true:=Aj h;have d:aa9 (S37_5step 0) (xs,m,((0:Nat):Int))=some (bif allF (λi=>acy (xs.getD i .bad) (m.getD i .bad)) 0 xs.length then .inr () else .inl false):=
   ajf (λi=>(xs,m,(i:Int))) xs.length (λi=>acy (xs.getD i .bad) (m.getD i .bad)) (Sum.inl false:Bool⊕Unit) (Sum.inr ()) (λi z=>by
    have U:aaj (xs.getD i .bad)<=1048576:=bmem H z;have o:i<m.length:=by omega
    simp only [S37_5step,S37_5,acr,aab,z,o,decide_true,Ad,Ah,imp,awu i (by omega)];grind [acy,vEq,aex,bne,asInt]) (by
    simp only [S37_5step,S37_5,acr,Nat.lt_irrefl,decide_false,Ae]) xs.length 0 (by omega)
  rw [al3 .bad h] at d;simp only [M,Aq,Ae];show (aa9 (S37_5step 0) (xs,m,((0:Nat):Int))).bind _=_;rw [d];cases eqL acy xs m<;>rfl
 grind [au6]
theorem azj (xs m:List PV) (H:aah xs<=1048576):F86 0 xs m=some (eqL aod xs m):=by
 have M:=adx xs;unfold F86;rw [a6w];by_cases h:xs.length=m.length
 ·have d:=aec (step:=S86_4step 0) (λb i=>(xs,m,b,(i:Int))) xs.length (λi=>aod (xs.getD i .bad) (m.getD i .bad)) (λb=>b) (λi z=>by
   have o:i<m.length:=by omega
   simp only [S86_4step,S86_4,acr,aab,z,o,decide_true,Ad,Ah,awu i (by omega)];simp only [aod,aex,Bool.and_true]) (λi=>by
   simp only [S86_4step,S86_4,Ae]) (by
   simp only [S86_4step,S86_4,acr,Nat.lt_irrefl,decide_false,Ad,Ae]) xs.length 0 true (by omega)
  rw [al3 .bad h,Bool.true_and] at d;rw [Aj h];show (aa9 (S86_4step 0) (xs,m,true,((0:Nat):Int))).bind _=_;rw [d];rfl
 ·rw [Al h,au6 h];show (aa9 (S86_4step 0) (xs,m,false,((0:Nat):Int))).bind _=_;have e:S86_4step 0 (xs,m,false,((0:Nat):Int))=some (.inr false):=by simp only [S86_4step,S86_4,Ae]
  rw [aae e];rfl
theorem at9 (xs m:List PV) (H:aah xs<=1048576):F197 0 xs m=some (eqL ahi xs m):=by
 have M:=adx xs;unfold F197;rw [a6w];by_cases h:xs.length=m.length
 ·have d:=aec (step:=S197_4step 0) (λb i=>(xs,m,b,(i:Int))) xs.length (λi=>ahi (xs.getD i .bad) (m.getD i .bad)) (λb=>b) (λi z=>by
   have o:i<m.length:=by omega
   simp only [S197_4step,S197_4,acr,aab,z,o,decide_true,Ad,Ah,awu i (by omega)];simp only [ahi,aex,Bool.and_true]) (λi=>by
   simp only [S197_4step,S197_4,Ae]) (by
   simp only [S197_4step,S197_4,acr,Nat.lt_irrefl,decide_false,Ad,Ae]) xs.length 0 true (by omega)
  rw [al3 .bad h,Bool.true_and] at d;rw [Aj h];show (aa9 (S197_4step 0) (xs,m,true,((0:Nat):Int))).bind _=_;rw [d];rfl
 ·rw [Al h,au6 h];show (aa9 (S197_4step 0) (xs,m,false,((0:Nat):Int))).bind _=_;have e:S197_4step 0 (xs,m,false,((0:Nat):Int))=some (.inr false):=by simp only [S197_4step,S197_4,Ae]
  rw [aae e];rfl
theorem bdq (x y:PV) (d:aaj x<=1048576):F198 0 x y=some (ast x y):=by unfold F198;simp only [aex,agd,Aa,ast,tEq,vEq,ahh _ _ (bsub d 8)];generalize ((x.fld 0).asInt==(y.fld 0).asInt)=m;generalize ((x.fld 1).asStr==(y.fld 1).asStr)=o;generalize ((x.fld 2).asInt==(y.fld 2).asInt)=z;generalize ((x.fld 3).asInt==(y.fld 3).asInt)=H;grind
theorem bce (a c:PV) (o:aaj a<=1048576) (b:Bool) (h:b=true->(a.fld 1).asList.length=(c.fld 1).asList.length):
 aaw 0 (S87_4step 0) ((),(),b,(0:Int),a,c)=some (b&&eqL ast (a.fld 1).asList (c.fld 1).asList,a,c):=by
 have M:=blen o 1
 show aa9 (S87_4step 0) ((),(),b,((0:Nat):Int),a,c)=_
 cases b with
 | true=>
  have h:=h rfl
  have d:=aec (step:=S87_4step 0) (λb i=>((),(),b,(i:Int),a,c)) (a.fld 1).asList.length (λi=>ast ((a.fld 1).asList.getD i .bad) ((c.fld 1).asList.getD i .bad)) (λb=>(b,a,c)) (λi z=>by
   have H:aaj ((a.fld 1).asList.getD i .bad)<=1048576:=bmem (bsub o 1) z;have m:i<(c.fld 1).asList.length:=by omega
   simp only [S87_4step,S87_4,acr,aab,z,m,decide_true,Ad,Ah,awu i (by omega),bdq _ _ H,Aa]) (λi=>by
   simp only [S87_4step,S87_4,Ae]) (by
   simp only [S87_4step,S87_4,acr,Nat.lt_irrefl,decide_false,Ad,Ae]) (a.fld 1).asList.length 0 true (by omega)
  rw [al3 .bad h] at d
  exact d
 | false=>
  rw [Bool.false_and]
  exact aae (by simp only [S87_4step,S87_4,Ae])
theorem bmb (x y:PV) (d:aaj x<=1048576):F87 0 x y=some (arl x y):=by unfold F87;simp only [aex,agd,Aa,a6w,at9 _ _ (bsub d 2),azj _ _ (bsub d 3),ahh _ _ (bsub d 4)];rw [bce x y d _ (by grind)];grind [arl,a7r,ast,decide,eqL,ahi,aod,acy]
theorem bgz (a c:PV) (o:aaj a<=1048576) (b:Bool) (h:b=true->(a.fld 2).asList.length=(c.fld 2).asList.length):
 aaw 0 (S88_4step 0) ((),(),b,(0:Int),a,c)=some (b&&eqL ama (a.fld 2).asList (c.fld 2).asList,a,c):=by
 have M:=blen o 2
 show aa9 (S88_4step 0) ((),(),b,((0:Nat):Int),a,c)=_
 cases b with
 | true=>
  have h:=h rfl
  have d:=aec (step:=S88_4step 0) (λb i=>((),(),b,(i:Int),a,c)) (a.fld 2).asList.length (λi=>ama ((a.fld 2).asList.getD i .bad) ((c.fld 2).asList.getD i .bad)) (λb=>(b,a,c)) (λi z=>by
   have H:aaj ((a.fld 2).asList.getD i .bad)<=1048576:=bmem (bsub o 2) z;have m:i<(c.fld 2).asList.length:=by omega
   simp only [S88_4step,S88_4,acr,aab,z,m,decide_true,Ad,Ah,awu i (by omega),ahh _ _ (bsub H 2),aex,agd,Aa];grind [ama,asInt,eqL,acy]) (λi=>by
   simp only [S88_4step,S88_4,Ae]) (by
   simp only [S88_4step,S88_4,acr,Nat.lt_irrefl,decide_false,Ad,Ae]) (a.fld 2).asList.length 0 true (by omega)
  rw [al3 .bad h] at d
  exact d
 | false=>
  rw [Bool.false_and]
  exact aae (by simp only [S88_4step,S88_4,Ae])
theorem bhr (x y:PV) (d:aaj x<=1048576):F88 0 x y=some (ai1 x y):=by unfold F88;simp only [aex,agd,Aa,a6w,at9 _ _ (bsub d 3),ahh _ _ (bsub d 4)];rw [bgz x y d _ (by grind)];grind [ai1,a7r,ama,decide,asBool,eqL,ahi,acy]
theorem bg0 (a c:PV) (o:aaj a<=1048576) (b:Bool) (h:b=true->(a.fld 1).asList.length=(c.fld 1).asList.length):
 aaw 0 (S89_4step 0) ((),(),b,(0:Int),a,c)=some (b&&eqL amm (a.fld 1).asList (c.fld 1).asList,a,c):=by
 have M:=blen o 1
 show aa9 (S89_4step 0) ((),(),b,((0:Nat):Int),a,c)=_
 cases b with
 | true=>
  have h:=h rfl
  have d:=aec (step:=S89_4step 0) (λb i=>((),(),b,(i:Int),a,c)) (a.fld 1).asList.length (λi=>amm ((a.fld 1).asList.getD i .bad) ((c.fld 1).asList.getD i .bad)) (λb=>(b,a,c)) (λi z=>by
   have H:aaj ((a.fld 1).asList.getD i .bad)<=1048576:=bmem (bsub o 1) z;have m:i<(c.fld 1).asList.length:=by omega
   simp only [S89_4step,S89_4,acr,aab,z,m,decide_true,Ad,Ah,awu i (by omega),ahh _ _ (bsub H 4),aex,agd,Aa];grind [amm,asInt,eqL,acy]) (λi=>by
   simp only [S89_4step,S89_4,Ae]) (by
   simp only [S89_4step,S89_4,acr,Nat.lt_irrefl,decide_false,Ad,Ae]) (a.fld 1).asList.length 0 true (by omega)
  rw [al3 .bad h] at d
  exact d
 | false=>
  rw [Bool.false_and]
  exact aae (by simp only [S89_4step,S89_4,Ae])
theorem bmf (x y:PV) (d:aaj x<=1048576):F89 0 x y=some (as5 x y):=by unfold F89;simp only [aex,agd,Aa,a6w,ahh _ _ (bsub d 2)];rw [bg0 x y d _ (by grind)];grind [as5,a7r,amm,decide,eqL,acy]
theorem bln (a c:PV) (o:aaj a<=1048576) (b:Bool) (h:b=true->(a.fld 3).asList.length=(c.fld 3).asList.length):
 aaw 0 (S42_4step 0) ((),(),b,(0:Int),a,c)=some ((),(),b&&eqL arl (a.fld 3).asList (c.fld 3).asList,a,c):=by
 have M:=blen o 3
 show aa9 (S42_4step 0) ((),(),b,((0:Nat):Int),a,c)=_
 cases b with
 | true=>
  have h:=h rfl
  have d:=aec (step:=S42_4step 0) (λb i=>((),(),b,(i:Int),a,c)) (a.fld 3).asList.length (λi=>arl ((a.fld 3).asList.getD i .bad) ((c.fld 3).asList.getD i .bad)) (λb=>((),(),b,a,c)) (λi z=>by
   have H:aaj ((a.fld 3).asList.getD i .bad)<=1048576:=bmem (bsub o 3) z;have m:i<(c.fld 3).asList.length:=by omega
   simp only [S42_4step,S42_4,acr,aab,z,m,decide_true,Ad,Ah,awu i (by omega),bmb _ _ H,Aa]) (λi=>by
   simp only [S42_4step,S42_4,Ae]) (by
   simp only [S42_4step,S42_4,acr,Nat.lt_irrefl,decide_false,Ad,Ae]) (a.fld 3).asList.length 0 true (by omega)
  rw [al3 .bad h] at d
  exact d
 | false=>
  rw [Bool.false_and]
  exact aae (by simp only [S42_4step,S42_4,Ae])
theorem bgy (a c:PV) (o:aaj a<=1048576) (b:Bool) (h:b=true->(a.fld 4).asList.length=(c.fld 4).asList.length):
 aaw 0 (S42_8step 0) ((),(),b,(0:Int),a,c)=some ((),(),b&&eqL ai1 (a.fld 4).asList (c.fld 4).asList,a,c):=by
 have M:=blen o 4
 show aa9 (S42_8step 0) ((),(),b,((0:Nat):Int),a,c)=_
 cases b with
 | true=>
  have h:=h rfl
  have d:=aec (step:=S42_8step 0) (λb i=>((),(),b,(i:Int),a,c)) (a.fld 4).asList.length (λi=>ai1 ((a.fld 4).asList.getD i .bad) ((c.fld 4).asList.getD i .bad)) (λb=>((),(),b,a,c)) (λi z=>by
   have H:aaj ((a.fld 4).asList.getD i .bad)<=1048576:=bmem (bsub o 4) z;have m:i<(c.fld 4).asList.length:=by omega
   simp only [S42_8step,S42_8,acr,aab,z,m,decide_true,Ad,Ah,awu i (by omega),bhr _ _ H,Aa]) (λi=>by
   simp only [S42_8step,S42_8,Ae]) (by
   simp only [S42_8step,S42_8,acr,Nat.lt_irrefl,decide_false,Ad,Ae]) (a.fld 4).asList.length 0 true (by omega)
  rw [al3 .bad h] at d
  exact d
 | false=>
  rw [Bool.false_and]
  exact aae (by simp only [S42_8step,S42_8,Ae])
theorem blo (a c:PV) (o:aaj a<=1048576) (b:Bool) (h:b=true->(a.fld 5).asList.length=(c.fld 5).asList.length):
 aaw 0 (S42_12step 0) ((),(),b,(0:Int),a,c)=some (b&&eqL as5 (a.fld 5).asList (c.fld 5).asList,a,c):=by
 have M:=blen o 5
 show aa9 (S42_12step 0) ((),(),b,((0:Nat):Int),a,c)=_
 cases b with
 | true=>
  have h:=h rfl
  have d:=aec (step:=S42_12step 0) (λb i=>((),(),b,(i:Int),a,c)) (a.fld 5).asList.length (λi=>as5 ((a.fld 5).asList.getD i .bad) ((c.fld 5).asList.getD i .bad)) (λb=>(b,a,c)) (λi z=>by
   have H:aaj ((a.fld 5).asList.getD i .bad)<=1048576:=bmem (bsub o 5) z;have m:i<(c.fld 5).asList.length:=by omega
   simp only [S42_12step,S42_12,acr,aab,z,m,decide_true,Ad,Ah,awu i (by omega),bmf _ _ H,Aa]) (λi=>by
   simp only [S42_12step,S42_12,Ae]) (by
   simp only [S42_12step,S42_12,acr,Nat.lt_irrefl,decide_false,Ad,Ae]) (a.fld 5).asList.length 0 true (by omega)
  rw [al3 .bad h] at d
  exact d
 | false=>
  rw [Bool.false_and]
  exact aae (by simp only [S42_12step,S42_12,Ae])
theorem bhu (x y:PV) (d:aaj x<=1048576):F42 0 x y=some (a3t x y):=by unfold F42;simp only [aex,agd,Aa,a6w,azj _ _ (bsub d 2)];rw [bln x y d _ (by grind)];simp only [Aa];rw [bgy x y d _ (by grind)];simp only [Aa];rw [blo x y d _ (by grind)];simp only [Aa];simp only [a3t];have m:=a7r (f:=arl) (x.fld 3).asList (y.fld 3).asList;generalize decide ((x.fld 3).asList.length=(y.fld 3).asList.length)=z at m ⊢;have o:=a7r (f:=ai1) (x.fld 4).asList (y.fld 4).asList;generalize decide ((x.fld 4).asList.length=(y.fld 4).asList.length)=H at o ⊢;grind [a7r,as5,decide,eqL,aod,arl,ai1]
end Go.Ab
namespace Go.Ab
open Go
set_option maxRecDepth 100000
def bpb (p:UInt8->Bool) (s:Bo):Prop:=∀ c r,s=c::r->p c=false
theorem bgm:((List.range 256).all λb=>(List.range 256).all λd=>!(hex2 b==hex2 d)||b==d)=true:=by kernel_rfl
theorem bgd {b d:Nat} (m:b<256) (o:d<256) (h:hex2 b=hex2 d):b=d:=by have:=Bf.1 bgm b (List.mem_range.2 m);grind
def bak (b:UInt8) (c:Bo):Prop:=(c=[b]/\b≠34/\b≠92)\/(b=34/\c=[92,34])\/(b=92/\c=[92,92])\/(b=10/\c=[92,110])\/(b=9/\c=[92,116])\/(b=13/\c=[92,114])\/c=92::120::hex2 b.toNat
inductive Codes:Bo->Bo->Prop
 | nil:Codes [] []
 | cons {b:UInt8}{c r q:Bo}:bak b c->Codes r q->Codes (b::r) (c++q)
theorem bal:∀ (l:Bo) {r q:Bo},(∀ b,b∈l->b≠34/\b≠92)->Codes r q->Codes (l++r) (l++q):=by
 intro l;induction l with
 | nil=>grind
 | cons b l z=>intro r q m h;have d:=m b (by simp);show Codes (b::(l++r)) ([b]++(l++q));exact .cons (Or.inl ⟨rfl,d.1,d.2⟩) (z (λx o=>m x (by simp [o])) h)
theorem bae {s:Bo}{i:Nat}{k:UInt8} (h:byteAt s i≠k.toNat):s.getD i 0≠k:=λe=>h (by grind [byteAt])
theorem aqo {s:Bo}{i:Nat}{k:UInt8} (h:byteAt s i=k.toNat):s.getD i 0=k:=UInt8.toNat_inj.1 h
theorem arz (s:Bo):∀ (m i:Nat),s.length-i<=m->Codes (s.drop i) (abe s i):=by
 intro m;induction m with
 | zero=>intro i hm;rw [A2 (by omega),abe,if_neg (by omega)];exact .nil
 | succ m ih=>
  intro i hm;by_cases hi:i<s.length
  ·have hp:=aic s i;have z:=ih (i+adw s i) (by omega);rw [abe,if_pos hi];unfold ao3;have X:abj s i<=1->adw s i=1:=λh=>by grind [adw]
   have d:∀ c:Bo,byteAt s i<128\/abj s i=0->bak (s.getD i 0) c->Codes (s.drop i) (c++abe s (i+adw s i)):=λc hz hc=>by
    have h1:adw s i=1:=X (by
     rcases hz with h | h;· rw [akj s i h];grind
     ·omega)
    rw [h1] at z ⊢;rw [aa1 hi 0];exact .cons hc z
   by_cases H:byteAt s i=34
   ·rw [if_pos H];exact d _ (Or.inl (by omega)) (Or.inr (Or.inl ⟨aqo H,rfl⟩))
   rw [if_neg H];by_cases M:byteAt s i=92
   ·rw [if_pos M];exact d _ (Or.inl (by omega)) (Or.inr (Or.inr (Or.inl ⟨aqo M,rfl⟩)))
   rw [if_neg M];by_cases O:byteAt s i=10
   ·rw [if_pos O];exact d _ (Or.inl (by omega)) (Or.inr (Or.inr (Or.inr (Or.inl ⟨aqo O,rfl⟩))))
   rw [if_neg O];by_cases U:byteAt s i=9
   ·rw [if_pos U];exact d _ (Or.inl (by omega)) (Or.inr (Or.inr (Or.inr (Or.inr (Or.inl ⟨aqo U,rfl⟩)))))
   rw [if_neg U];by_cases V:byteAt s i=13
   ·rw [if_pos V];exact d _ (Or.inl (by omega)) (Or.inr (Or.inr (Or.inr (Or.inr (Or.inr (Or.inl ⟨aqo V,rfl⟩))))))
   rw [if_neg V];by_cases Y:byteAt s i<32\/byteAt s i=127\/abj s i=0
   ·rw [if_pos Y];exact d _ (by omega) (Or.inr (Or.inr (Or.inr (Or.inr (Or.inr (Or.inr rfl))))))
   ·rw [if_neg Y];have Z:abj s i≠0:=by omega
    have W:adw s i=abj s i:=by unfold adw;rw [if_neg Z]
    rw [W] at z ⊢;have e:s.drop i=(s.drop i).take (abj s i)++s.drop (i+abj s i):=by rw [<-Bd,List.take_append_drop]
    rw [show Codes (s.drop i) _=Codes ((s.drop i).take (abj s i)++s.drop (i+abj s i)) _ by rw [<-e]];refine bal _ (λb hb=>?_) z;obtain ⟨j,hj,rfl⟩:=List.mem_iff_getElem.1 hb;have ab:j<abj s i:=by grind
    have aa:i+j<s.length:=by grind
    have ej:((s.drop i).take (abj s i))[j]=s.getD (i+j) 0:=by grind
    rw [ej];have o:byteAt s (i+j)≠34/\byteAt s (i+j)≠92:=by
     have q0:byteAt s (i+0)=byteAt s i:=rfl;rcases ar7 (s.length-i) (byteAt s i) (byteAt s (i+1)) (byteAt s (i+2)) (byteAt s (i+3)) (by omega) with h | ⟨h,c⟩ | ⟨h,c⟩ | ⟨h,c⟩ | ⟨h,c⟩
     ·exact absurd h Z
     ·grind [abj]
     ·have h:abj s i=2:=h;have:j=0\/j=1:=by omega
      grind
     ·have h:abj s i=3:=h;have:j=0\/j=1\/j=2:=by omega
      grind
     ·have h:abj s i=4:=h;have:j=0\/j=1\/j=2\/j=3:=by omega
      grind
    exact ⟨bae o.1,bae o.2⟩
  grind
def digC (c:UInt8):Bool:=decide (48<=c.toNat/\c.toNat<=57)
theorem a3n {u:Nat} (m:u<100000000000000000000):∀ c,c∈decB u->digC c=true:=by rw [af0 m];intro c d;exact Aj ((aiw u).1 c d)
theorem bfq:∀ f u,decF (f+1) u≠[]:=by intro f u;unfold decF;cases Nat.ble u 9<;>simp
theorem bkf (u:Nat):decB u≠[]:=bfq 19 u
theorem bgk:((List.range 16).all λb=>(List.range 16).all λd=>!(hexd b==hexd d)||b==d)=true:=by kernel_rfl
theorem bgl {b d:Nat} (m:b<16) (o:d<16) (h:hexd b=hexd d):b=d:=by have:=Bf.1 bgk b (List.mem_range.2 m);grind
theorem bgg:∀ (n u v:Nat),u<16^n->v<16^n->hexN n u=hexN n v->u=v:=by
 intro n;induction n with
 | zero=>grind
 | succ n M=>
  intro u v z H h;rw [Nat.pow_succ] at z H;simp only [hexN] at h;have o:(hexN n (u / 16)).length=(hexN n (v / 16)).length:=by grind [al6]
  obtain ⟨d,m⟩:=List.append_inj h o;have O:=M (u / 16) (v / 16) (by omega) (by omega) d;have U:=bgl (Nat.mod_lt _ (by decide)) (Nat.mod_lt _ (by decide)) (by simpa using m);omega
theorem bgj:∀ (a b:Bo),(a.flatMap λc=>hex2 c.toNat)=(b.flatMap λc=>hex2 c.toNat)->a=b:=by
 intro a;induction a with
 | nil=>
  intro b h;cases b with
  | nil=>rfl
  | cons d b=>simp [hex2] at h
 | cons c a z=>
  intro b h;cases b with
  | nil=>simp [hex2] at h
  | cons d b=>simp only [List.flatMap_cons] at h;obtain ⟨m,o⟩:=List.append_inj h rfl;have:=UInt8.toNat_inj.1 (bgd c.toNat_lt d.toNat_lt m);grind
end Go.Ab
namespace Go.Ab
open Go
set_option maxRecDepth 100000
theorem an3 {s:Bo} (h:aes s=true):∀ c,c∈s->alnB c=true:=by
 cases s with
 | nil=>all_goals grind
 | cons a r=>unfold aes at h;simp only [Ag,Bf] at h;intro c d;rcases Bl.1 d with rfl | d;all_goals grind [bcd]
theorem kw_at {k:Int} (h:ad1 k=true):∃ i:Nat,i<8/\k=(i:Int)+1:=by unfold ad1 at h;simp only [Ag,Aw] at h;exact ⟨(k-1).toNat,by omega,by omega⟩
theorem ajk {s:Bo} (h:noKw s=true) {k:Int} (g:ad1 k=true):s≠kw k:=by
 obtain ⟨i,H,rfl⟩:=kw_at g;intro e;unfold noKw at h;have d:∀ (n a:Nat),allF (λi=>!(kw ((i:Int)+1)==s)) a n=true->∀ j,a<=j->j<a+n->(kw ((j:Int)+1)==s)=false:=by
  intro n;induction n with
  | zero=>grind
  | succ n M=>intro a m j o z;simp only [allF,Ag] at m;grind
 have:=d 8 0 h i (by omega) (by omega);grind
def TyOk (t:PV):Prop:=tnP t=true/\0<=(t.fld 0).asInt/\(t.fld 0).asInt<=8
theorem aui {t:PV} (h:TyOk t):(ad1 (t.fld 0).asInt=true/\(t.fld 1).asStr=[]/\afh t=kw (t.fld 0).asInt)\/((t.fld 0).asInt=0/\ack (t.fld 1).asStr=true/\noKw (t.fld 1).asStr=true/\afh t=(t.fld 1).asStr):=by
 obtain ⟨d,o,z⟩:=h;unfold tnP at d;unfold afh;cases m:ad1 (t.fld 0).asInt with
 | true=>grind
 | false=>rw [m] at d;simp only [Ae,Ag] at d;grind [asInt,ad1,decide_eq_true]
theorem aea {k:Int}{v:PV} (h:adc k v=true):aa7 v=k/\vLists v=0/\(if afp k=true then aan v=0 else abl v=[]/\acd k (aan v)=true):=by unfold adc at h;grind
def vSame (v w:PV):Prop:=aa7 v=aa7 w/\aan v=aan w/\abl v=abl w
theorem bi3 {v w:PV} (h:vSame v w):vEq v w=true:=by unfold vEq;have d:(v.fld 0).asInt=(w.fld 0).asInt:=h.1;have m:(v.fld 1).asInt=(w.fld 1).asInt:=h.2.1;have o:(v.fld 2).asStr=(w.fld 2).asStr:=h.2.2;rw [d,m,o];simp
theorem a5g {k:Int}{v:PV} (h:adc k v=true):am6 v=(bif k==1 then (bif aan v==1 then [116,114,117,101] else [102,97,108,115,101])
 else bif k==2 then amb (IntKind.wrap .i64 (aan v)) else bif k==3 then amb (IntKind.wrap .i64 (aan v)) else bif k==7 then abd (abl v) else decB (aan v).toNat):=by
 have d:=(aea h).1
 grind [am6]
theorem ang {u v:Nat} (H:u<18446744073709551616) (M:v<18446744073709551616) (U:ab9 u=0->u=9221120237041090560) (nv:ab9 v=0->v=9221120237041090560) (e:ab2 u=ab2 v):u=v:=by
 have d:∀ w:Nat,w<18446744073709551616->ab9 w=1->w=9218868437227405312\/w=18442240474082181120:=λw O h=>by grind [ab9]
 unfold ab2 at e;by_cases m:ab9 u=0
 ·grind
 ·rw [beqI m] at e;by_cases o:ab9 u=1
  ·grind
  ·rw [beqI o] at e;by_cases v0:ab9 v=0
   ·grind
   ·rw [beqI v0] at e;by_cases z:ab9 v=1
    ·grind
    ·rw [beqI z] at e;simp only [Ae] at e;exact bgg 16 u v (by omega) (by omega) (List.append_cancel_left e)
theorem blp {k:Int}{v:PV} (h:adc k v=true) (o:k≠9):litT v=bif (k==6)||(k==8) then abd (agb v) else agb v:=by
 have d:=(aea h).1;have m:apd v=false:=by unfold apd;grind
 grind [litT]
theorem a5h {k:Int}{v:PV} (h:adc k v=true):agb v=bif k==6 then ab2 (aan v).toNat else bif k==8 then [120]++abd ((abl v).flatMap λb=>hex2 b.toNat) else am6 v:=by have d:=(aea h).1;grind [agb]
theorem ar5 {n:PV} (h:abt n=true):aef n∈knownNames/\adc (aac (aef n)) (nVal n)=true:=by unfold abt at h;simp only [Ag] at h;grind [aef,knownNames,adz,absurd]
end Go.Ab
namespace Go.Ab
open Go
set_option maxRecDepth 100000
structure RowGood (x:PV):Prop where
 ok:RowOk x
 nm:avv x=true
 ar:agw x=true
 nt:(x.fld 8).asList.all abt=true
theorem RowGood.name {x:PV} (h:RowGood x):afc (x.fld 1).asStr=true:=by have:=h.nm;unfold avv at this;simp only [Ag] at this;exact this.1.1
theorem RowGood.union {x:PV} (h:RowGood x) (d:uT x≠[]):afc (uT x)=true:=by
 have:=h.nm;unfold avv at this;simp only [Ag,A5,Bh] at this;rcases this.1.2 with q | q
 ·exact absurd q d
 ·exact q
theorem RowGood.type {x:PV} (h:RowGood x):TyOk (x.fld 4):=by have m:=h.nm;have d:=h.ar;unfold avv at m;unfold agw a4t at d;simp only [Ag,Aw] at m d;exact ⟨m.2,d.1.1.1.2.2.2.2.1,d.1.1.1.2.2.2.2.2⟩
theorem RowGood.key {x:PV} (h:RowGood x):keyF (x.fld 2).asInt (x.fld 3).asInt=true:=by have d:=h.ar;unfold agw at d;simp only [Ag] at d;exact d.1.1.2
theorem RowGood.un {x:PV} (h:RowGood x) (m:uT x≠[]):(x.fld 2).asInt=2:=by
 have d:=h.ar;unfold agw a5n at d;simp only [Ag,A5,Bh] at d;rcases d.1.2 with q | q
 ·exact absurd q m
 ·exact q.1
theorem RowGood.right {x:PV} (h:RowGood x):am1 x=true:=by have d:=h.ar;unfold agw at d;simp only [Ag] at d;exact d.2
theorem key0 {c k:Int} (h:keyF c k=true) (d:c≠5):k=0:=by unfold keyF at h;rw [bneI d] at h;simpa using h
theorem key5 {k:Int} (h:keyF 5 k=true):ad1 k=true:=by unfold keyF at h;unfold ad1;have h:(decide (1<=k/\k<=5)||k==7)=true:=h;simp only [A5,Aw,Bh] at h;rw [Aj (show 1<=k by omega),Aj (show k<=8 by omega)];rfl
theorem RowGood.cards {x:PV} (h:RowGood x):(x.fld 2).asInt=1\/(x.fld 2).asInt=2\/(x.fld 2).asInt=3\/(x.fld 2).asInt=4\/(x.fld 2).asInt=5:=by have:=h.ok.card1;have:=h.ok.card5;omega
def clo (u:Bo):Bo:=bif u==[] then [] else [32,32,125,10]
end Go.Ab
namespace Go.Ab
open Go
set_option maxRecDepth 100000
def resW:Bo:=[32,32,114,101,115,101,114,118,101,100,32]
theorem bdl (g:PV->Bo) (x:PV) (l:List PV) (s:Bo):resT g (x::l)++s=resW++(g x++(apj g l++59::10::s)):=by grind [beq_eq_false_iff_ne,List.length_cons,resT,resW,arb]
def SpP (x:PV):Prop:=afe 2147483647 x=true
theorem SpP.nums {x:PV} (h:SpP x):0<=(x.fld 0).asInt/\(x.fld 0).asInt<=2147483647/\0<=(x.fld 1).asInt/\(x.fld 1).asInt<=2147483647:=by unfold SpP afe at h;grind
structure MsgGood (m:PV):Prop where
 ok:MsgOk m
 nm:defP (m.fld 0).asStr=true
 rows:∀ x,x∈(m.fld 1).asList->RowGood x
 nt:(m.fld 4).asList.all abt=true
theorem bco (m:PV) (s:Bo):msgT m++s=[109,101,115,115,97,103,101,32]++((m.fld 0).asStr++(aca (m.fld 4).asList++32::123::10::(aey [] (m.fld 1).asList++(clo (ad6 [] (m.fld 1).asList)++(resT spT (m.fld 2).asList++(resT goT (m.fld 3).asList++125::10::s)))))):=by unfold msgT clo;simp_all
structure ItemGood (x:PV):Prop where
 ok:OkItem x
 nm:afc (x.fld 0).asStr=true
 num0:0<=(x.fld 1).asInt
 num1:(x.fld 1).asInt<=2147483647
 nt:(x.fld 2).asList.all abt=true
theorem a7n (x:PV) (s:Bo):ano x++s=32::32::((x.fld 0).asStr++32::61::32::(numT (x.fld 1).asInt++(aca (x.fld 2).asList++59::10::s))):=by unfold ano;simp_all
def resN:Bo:=[114,101,115,101,114,118,101,100]
theorem bhs:aj1 resN=true:=by kernel_rfl
structure EnumGood (m:PV):Prop where
 ok:EnumOk m
 nm:defP (m.fld 0).asStr=true
 items:∀ x,x∈(m.fld 2).asList->ItemGood x
 nt:(m.fld 4).asList.all abt=true
theorem a6u (m:PV) (s:Bo):agz m++s=(bif (m.fld 1).asBool then [111,112,101,110,32] else [])++([101,110,117,109,32]++((m.fld 0).asStr++(aca (m.fld 4).asList++32::123::10::((m.fld 2).asList.flatMap ano++(resT spT (m.fld 3).asList++125::10::s))))):=by unfold agz;simp_all
structure MethGood (x:PV):Prop where
 ok:OkMeth x
 nm:atx x=true
 sh0:1<=(x.fld 3).asInt
 sh1:(x.fld 3).asInt<=4
 nt:(x.fld 4).asList.all abt=true
theorem a7y (x:PV) (s:Bo):apf x++s=[32,32,114,112,99,32]++((x.fld 0).asStr++40::(azb (((x.fld 3).asInt==3)||((x.fld 3).asInt==4)) (x.fld 1).asStr++41::32::114::101::116::117::114::110::115::32::40::(azb (((x.fld 3).asInt==2)||((x.fld 3).asInt==4)) (x.fld 2).asStr++41::(aca (x.fld 4).asList++59::10::s)))):=by unfold apf;simp_all
theorem MethGood.parts {x:PV} (h:MethGood x):afc (x.fld 0).asStr=true/\ack (x.fld 1).asStr=true/\ack (x.fld 2).asStr=true/\(x.fld 1).asStr≠strm/\(x.fld 2).asStr≠strm:=by have:=h.nm;unfold atx at this;grind
structure SvcGood (m:PV):Prop where
 ok:SvcOk m
 nm:defP (m.fld 0).asStr=true
 meths:∀ x,x∈(m.fld 1).asList->MethGood x
 nt:(m.fld 2).asList.all abt=true
theorem bea (m:PV) (s:Bo):svcT m++s=[115,101,114,118,105,99,101,32]++((m.fld 0).asStr++(aca (m.fld 2).asList++32::123::10::((m.fld 1).asList.flatMap apf++125::10::s))):=by unfold svcT;simp_all
structure FileGood (f:PV):Prop where
 ok:FileOk f
 nm:(f.fld 1).asStr=[]\/defP (f.fld 1).asStr=true
 msg:∀ x,x∈(f.fld 3).asList->MsgGood x
 enum:∀ x,x∈(f.fld 4).asList->EnumGood x
 svc:∀ x,x∈(f.fld 5).asList->SvcGood x
def nl (g:PV->Bo) (x:PV):Bo:=10::g x
noncomputable def a9k (f:PV):Bo:=(f.fld 3).asList.flatMap (nl msgT)++((f.fld 4).asList.flatMap (nl agz)++(f.fld 5).asList.flatMap (nl svcT))
theorem ak9 (g:PV->Bo):∀ (l:List PV) (b:Bo),b≠[]->l.foldl (defG g) b=b++l.flatMap (nl g):=by
 intro l;induction l with
 | nil=>intro b h;simp
 | cons x l m=>
  intro b h;have d:(b==([]:Bo))=false:=by simpa using h
  rw [List.foldl_cons,m _ (by unfold defG;rw [d];simp)];grind [defG,nl]
theorem au4 (g:PV->Bo) (d:∀ x,g x≠[]) (l:List PV):(l.foldl (defG g) []=[]/\l.flatMap (nl g)=[])\/(l.foldl (defG g) []≠[]/\10::l.foldl (defG g) []=l.flatMap (nl g)):=by
 cases l with
 | nil=>grind
 | cons x l=>
  have m:defG g [] x=g x:=by unfold defG;simp
  rw [List.foldl_cons,m,ak9 g l _ (d x)];exact Or.inr ⟨by simp [d x],by simp [nl]⟩
theorem blx (x:PV):msgT x≠[]:=by simp [msgT]
theorem bf0 (x:PV):agz x≠[]:=by simp [agz]
theorem bmo (x:PV):svcT x≠[]:=by simp [svcT]
theorem bbd (f:PV):(topT f≠[]/\ald f=topT f++a9k f)\/(topT f=[]/\((ald f=[]/\a9k f=[])\/(ald f≠[]/\10::ald f=a9k f))):=by
 unfold ald a9k;by_cases h:topT f=[]
 ·refine Or.inr ⟨h,?_⟩;rw [h];rcases au4 msgT blx (f.fld 3).asList with ⟨d,o⟩ | ⟨d,o⟩
  ·rw [d,o];rcases au4 agz bf0 (f.fld 4).asList with ⟨m,z⟩ | ⟨m,z⟩
   ·rw [m,z];exact au4 svcT bmo (f.fld 5).asList
   ·rw [ak9 svcT _ _ m,<-z];exact Or.inr ⟨by simp [m],by simp⟩
  ·rw [ak9 agz _ _ d,ak9 svcT _ _ (by simp [d]),<-o];exact Or.inr ⟨by simp [d],by simp⟩
 ·refine Or.inl ⟨h,?_⟩;rw [ak9 msgT _ _ h,ak9 agz _ _ (by simp [h]),ak9 svcT _ _ (by simp [h])];simp
end Go.Ab
