/- UTF-8: what the printed functions compute. -/
import Derived.Test.YtcpkdafleaddlaaGreatDoorAbLawFr
set_option linter.unusedVariables false
set_option linter.unusedSimpArgs false
set_option linter.unnecessarySimpa false
namespace Go.Ab
open Go
theorem wadd {i k:Nat} (h:i+k<=9223372036854775807):IntKind.wrap .i64 ((i:Int)+(k:Int))=((i+k:Nat):Int):=by rw [<-Int.natCast_add];exact aeu h
theorem bdu {i:Nat} (h:i+1<=9223372036854775807):IntKind.wrap .i64 ((i:Int)+(1:Int))=((i+1:Nat):Int):=wadd (k:=1) h
theorem gb {d:Type} (b c:Bool) (k:Bool->Option d):((bif b then some c else some false).bind k)=k (b&&c):=by cases b<;>rfl
theorem aas {d:Type} (b:Bool) (x:d):(bif b then x else x)=x:=by cases b<;>rfl
theorem abp (a b:Nat):decide ((a:Int)<(b:Int))=decide (a<b):=by simp
theorem a5y (s:Bo):F230 0 s ([239,191,189]:Bo)=some (decide ((s.length:Int)>=3)&&(s.take 3==([239,191,189]:Bo))):=by
 unfold F230 F297;have e:((([239,191,189]:Bo).length:Nat):Int)=(3:Int):=rfl;simp only [e];by_cases h:(3:Int)<=(s.length:Int)
 ·have d:decide ((0:Int)<=0/\(0:Int)<=3/\(3:Int)<=(s.length:Int))=true:=by simp;omega
  simp only [d,imp,ge_iff_le,h,decide_true,Ad,Aa,Bool.true_and];rfl
 ·simp only [imp,ge_iff_le,h,decide_false,Ae,Ao,aas,Ad,Aa,Bool.false_and]
theorem a4k (s:Bo) (i:Nat) (O:i<s.length):F310 0 s (i:Int) ((aap s i).1:Int)=some (decide (abj s i=0)):=by
 unfold F310;have o:decide ((0:Int)<=(i:Int)/\(i:Int)<=(s.length:Int)/\(s.length:Int)<=(s.length:Int))=true:=by simp;omega
 have z:=bjj s i (by omega);have m:=ahx s i O;have U:=(ap5 (s.length-i) (byteAt s i) (byteAt s (i+1)) (byteAt s (i+2)) (byteAt s (i+3))).1;by_cases H:(aap s i).1=65533
 ·have d:(((aap s i).1:Int)==(65533:Int))=true:=by simp;omega
  simp only [d,o,imp,Ad,Ah,a5y,z,Aa];rw [m];by_cases M:2<s.length-i/\byteAt s i=239/\byteAt s (i+1)=191/\byteAt s (i+2)=189
  ·simp only [M,and_self,decide_true,Ap,not_true_eq_false,and_false,Ba];have:(aap s i).2≠0:=by grind [aap]
   simp [this]
  grind
 ·have d:(((aap s i).1:Int)==(65533:Int))=false:=by simp;omega
  simp only [d,imp,Ad,Ae,Ao,Aa];rw [m,if_neg (by simp [H])];have:(aap s i).2≠0:=by grind [aap]
  simp [this]
theorem bd7 (s:Bo):∀ (m i:Nat),s.length-i<=m->i<=s.length->∃ y,aa7 (S280_3step 0) (s,(),s,(i:Int))=some y/\(aie s i=-1->∃ z,y=.inr z)/\(aie s i≠-1->∃ z,y=.inl (aie s i,z)):=by
 intro m;induction m with
 | zero=>
  intro i W V;have d:¬i<s.length:=by omega
  rw [ash,if_neg d];refine ⟨_,aaf (y:=.inr (s,(i:Int))) ?_,λ_=>⟨_,rfl⟩,λh=>absurd rfl h⟩;simp only [S280_3step,S280_3,Ah,d,decide_false,Ae]
 | succ m Y=>
  intro i W V;by_cases d:i<s.length
  ·rw [ash,if_pos d];have M:=a4k s i d;have O:=ail s i;have Z:=ahx s i d;have H:=(a3v (s.length-i) (byteAt s i) (byteAt s (i+1)) (byteAt s (i+2)) (byteAt s (i+3)) (by omega)).1;by_cases o:abj s i=0
   ·rw [if_pos o];refine ⟨.inl ((i:Int),s,((i+(aap s i).2:Nat):Int)),aaf ?_,λh=>by omega,λ_=>⟨_,rfl⟩⟩;simp only [S280_3step,S280_3,Ah,d,decide_true,Ad,O,M,o,Aa]
   ·rw [if_neg o];have U:abj s i=(aap s i).2:=by
     grind
    rw [abd (x1:=(s,(),s,((i+abj s i:Nat):Int)))]
    ·have:abj s i<=s.length-i:=H;exact Y _ (by omega) (by omega)
    ·have X:decide (abj s i=0)=false:=Am o;rw [X] at M;simp only [S280_3step,S280_3,Ah,d,decide_true,Ad,O,M,Ae,Aa,U]
  grind
theorem bad_eq (s:Bo):F280 0 s=some (bad s):=by
 obtain ⟨y,h,m,o⟩:=bd7 s s.length 0 (by omega) (by omega);unfold F280;rw [aaq,h];unfold bad;by_cases d:aie s 0=-1
 ·obtain ⟨z,rfl⟩:=m d;rw [d];rfl
 ·obtain ⟨z,rfl⟩:=o d;rfl
theorem aph (s:Bo):F185 0 s=some (valid s):=by unfold F185;rw [bad_eq s];rfl
end Go.Ab
namespace Go.Ab
open Go
theorem a8q {o:Type} (f:o->Bool) (d:o):∀ (xs m:List o),allF (λi=>f ((m++xs).getD i d)) m.length xs.length=xs.all f:=by
 intro xs;induction xs with
 | nil=>intro m;rfl
 | cons x r H=>
  intro m;simp only [Ak,allF,A8];have z:(m++x::r).getD m.length d=x:=by simp [List.getD]
  rw [z];have:=H (m++[x]);rw [show m++x::r=m++[x]++r by simp,<-this];simp
theorem apn {m:Type} (f:m->Bool) (d:m) (xs:List m):allF (λi=>f (xs.getD i d)) 0 xs.length=xs.all f:=a8q f d xs []
theorem ahu {z H:Type}{step:z->Option (z⊕H)} (st:Nat->z) (n:Nat) (p:Nat->Bool) (bad:Nat->H) (d:H) (m:∀ i,i<n->step (st i)=some (bif p i then .inl (st (i+1)) else .inr (bad i))) (o:step (st n)=some (.inr d)):
 ∀ k i,i+k=n->∃ r,aa7 step (st i)=some r/\(allF p i k=true->r=d)/\(allF p i k=false->∃ j,i<=j/\j<n/\r=bad j):=by
 intro k
 induction k with
 | zero=>
  intro i W
  have:i=n:=by omega
  subst this
  exact ⟨d,aaf o,λ_=>rfl,λh=>by simp [allF] at h⟩
 | succ k X=>
  intro i W
  have h:=m i (by omega)
  simp only [allF]
  cases M:p i with
  | true=>
   rw [M] at h
   obtain ⟨r,O,U,V⟩:=X (i+1) (by omega)
   refine ⟨r,by rw [abd h,O],λh=>U (by simpa using h),λh=>?_⟩
   obtain ⟨j,a,b,c⟩:=V (by simpa using h)
   exact ⟨j,by omega,b,c⟩
  | false=>
   rw [M] at h
   exact ⟨bad i,aaf h,λh=>by simp at h,λ_=>⟨i,Nat.le_refl _,by omega,rfl⟩⟩
theorem abf {V W U M:Type}{step:V->Option (V⊕W)} (mk:Nat->M->V) (H:M->W) (xs:List U) (d:U) (f:M->U->M) (I:Nat->M->Prop)
 (m:∀ i b,i<xs.length->I i b->step (mk i b)=some (.inl (mk (i+1) (f b (xs.getD i d))))/\I (i+1) (f b (xs.getD i d))) (o:∀ b,I xs.length b->step (mk xs.length b)=some (.inr (H b))):
 ∀ k i b,i+k=xs.length->I i b->aa7 step (mk i b)=some (H ((xs.drop i).foldl f b))/\I xs.length ((xs.drop i).foldl f b):=by
 intro k
 induction k with
 | zero=>
  intro i b Z O
  have:i=xs.length:=by omega
  subst this
  rw [List.drop_length]
  exact ⟨aaf (o b O),O⟩
 | succ k ih=>
  intro i b Z O
  have z:i<xs.length:=by omega
  obtain ⟨X,Y⟩:=m i b z O
  rw [abd X,aa4 z d,List.foldl_cons]
  exact ih (i+1) _ (by omega) Y
def lowB (b:Nat):Bool:=decide (97<=b/\b<=122)
def capB (b:Nat):Bool:=decide (65<=b/\b<=90)
def digB (b:Nat):Bool:=decide (48<=b/\b<=57)
def letB (b:UInt8):Bool:=lowB b.toNat||capB b.toNat
def alnB (b:UInt8):Bool:=lowB b.toNat||capB b.toNat||digB b.toNat||decide (b.toNat=95)
theorem bbh {b:UInt8} (h:letB b=true):alnB b=true:=by unfold letB at h;unfold alnB;rw [h];rfl
def aet (s:Bo):Bool:=
 match s with
 | []=>false
 | c::r=>decide (r.length+1<=40)&&letB c&&r.all alnB
def afv (s:Bo):Bool:=decide (s.length<=120)&&(ab0 46 s).all aet
def ac5 (s:Bo):Bool:=
 match s with
 | []=>afv []
 | c::r=>bif c==46 then afv r else afv (c::r)
end Go.Ab
namespace Go.Ab
open Go
set_option maxRecDepth 100000
theorem ab7 {m:Type}{l:List m}{i:Nat} (h:i<l.length) (d:m):l.getD i d∈l:=by grind
theorem abx {i:Nat} (h:i<=9223372036854775000):IntKind.wrap .i64 ((i:Int)+1)=((i+1:Nat):Int):=bdu (by omega)
theorem geI (a b:Nat):decide ((a:Int)>=(b:Int))=decide (b<=a):=by grind
theorem leI (a b:Nat):decide ((a:Int)<=(b:Int))=decide (a<=b):=by grind
theorem neB (a b:Nat):((a:Int) != (b:Int))=!decide (a=b):=by grind
theorem eqB (a b:Nat):((a:Int)==(b:Int))=decide (a=b):=by grind
theorem bll (b c:UInt8):decide (b.toNat=c.toNat)=(b==c):=by grind [UInt8.toNat_inj,decide_eq_false]
def clsN (b:Nat):Int:=bif lowB b then 1 else bif capB b then 2 else bif digB b then 3 else bif decide (b=95) then 4 else 0
theorem a2d (b:Nat):F285 0 (b:Int)=some (clsN b):=by unfold F285 clsN;rw [show (97:Int)=((97:Nat):Int) from rfl,show (122:Int)=((122:Nat):Int) from rfl,show (65:Int)=((65:Nat):Int) from rfl,show (90:Int)=((90:Nat):Int) from rfl,show (48:Int)=((48:Nat):Int) from rfl,show (57:Int)=((57:Nat):Int) from rfl,show (95:Int)=((95:Nat):Int) from rfl];grind [geI,leI,eqB,lowB,capB,digB,Bool.decide_and,decide]
theorem bee {b:Nat} (h:128<=b):clsN b=0:=by have d:lowB b=false:=Am (by omega);have m:capB b=false:=Am (by omega);have o:digB b=false:=Am (by omega);have z:decide (b=95)=false:=Am (by omega);simp only [clsN,d,m,o,z,Ae]
theorem cls0 (b:UInt8):(clsN b.toNat==0)=!alnB b:=by grind [clsN,alnB,lowB,capB,digB,decide]
theorem blu (b:UInt8):(bif (clsN b.toNat != 1) then (clsN b.toNat != 2) else false)=!letB b:=by grind [clsN,letB,lowB,capB,digB,decide]
def okAt (i:Nat) (b:UInt8):Bool:=alnB b&&(!decide (i=0)||letB b)
def as6:Nat->Bo->Bool
 | _,[]=>true
 | i,b::r=>okAt i b&&as6 (i+1) r
theorem a7g:∀ (r:Bo) (i:Nat),as6 (i+1) r=r.all alnB:=by
 intro r;induction r with
 | nil=>intro i;rfl
 | cons b r d=>grind [as6,okAt,decide_eq_false]
theorem bcd (s:Bo):∀ (m i:Nat),s.length-i<=m->i<=s.length->∃ z,aa7 (S202_3step 0) (s,(),s,(i:Int))=some (bif as6 i (s.drop i) then .inr (s,z) else .inl (false,z)):=by
 intro m;induction m with
 | zero=>
  intro i hm Z;have o:¬i<s.length:=by omega
  rw [A3 (by omega)];exact ⟨_,aaf (by simp only [S202_3step,S202_3,Ah,o,decide_false,Ae];rfl)⟩
 | succ m ih=>
  intro i hm Z;by_cases o:i<s.length
  ·have U:((i:Int)==(0:Int))=decide (i=0):=eqB i 0;rw [aa4 o 0,as6];by_cases X:byteAt s i<128
   ·have V:=agc s i X;have H:F285 0 (byteAt s i:Int)=some (clsN (s.getD i 0).toNat):=a2d _;cases d:okAt i (s.getD i 0) with
    | true=>
     obtain ⟨z,hz⟩:=ih (i+1) (by omega) (by omega);refine ⟨z,?_⟩;rw [Bool.true_and,<-hz];refine abd ?_;unfold okAt at d;simp only [S202_3step,S202_3,Ah,o,decide_true,Ad,ail,V,H,Aa,cls0,U];cases M:alnB (s.getD i 0) with
     | false=>grind
     | true=>
      rw [M] at d;cases O:decide (i=0) with
      | false=>rfl
      | true=>rw [O] at d;have W:=blu (s.getD i 0);grind
    | false=>
     refine ⟨(s,((i+1:Nat):Int)),aaf ?_⟩;unfold okAt at d;simp only [S202_3step,S202_3,Ah,o,decide_true,Ad,ail,V,H,Aa,cls0,U,Bool.false_and,Ae];cases M:alnB (s.getD i 0) with
     | false=>rfl
     | true=>
      rw [M] at d;cases O:decide (i=0) with
      | false=>grind
      | true=>rw [O] at d;have W:=blu (s.getD i 0);grind
   ·have Y:=ap6 s i (by omega);have H:=a2d (aap s i).1;rw [bee Y] at H;have d:okAt i (s.getD i 0)=false:=by
     unfold okAt alnB lowB capB digB;have:byteAt s i=(s.getD i 0).toNat:=rfl;grind
    refine ⟨(s,((i+(aap s i).2:Nat):Int)),aaf ?_⟩;rw [d];simp only [S202_3step,S202_3,Ah,o,decide_true,Ad,ail,H,Aa,Bool.false_and,Ae];rfl
  grind
theorem agx (s:Bo):F202 0 s=some (aet s):=by
 obtain ⟨z,H⟩:=bcd s s.length 0 (by omega) (by omega);unfold F202;rw [aaq,H,A4];cases s with
 | nil=>rfl
 | cons c r=>
  rw [as6,a7g];have d:decide (((c::r).length:Int)>=(1:Int))=true:=Aj (by grind);have m:decide (((c::r).length:Int)<=(40:Int))=decide (r.length+1<=40):=leI _ 40;have o:okAt 0 c=letB c:=by grind [okAt,letB,bbh]
  rw [o,aet];cases letB c<;>cases r.all alnB<;>simp only [Bool.and_false,Bool.and_true,Bool.false_and,Bool.true_and,Ad,Ae,Aa,ab3,aba,d,m]
theorem bak (s:Bo) (xs:List Bo) (o:xs.length<=9223372036854770000):aa7 (S140_3step 0) (s,xs.map PV.str,((xs.map PV.str).length:Int),((0:Nat):Int))=some (bif xs.all aet then .inr s else .inl false):=by
 have h:=aix (step:=S140_3step 0) (λi=>(s,xs.map PV.str,((xs.map PV.str).length:Int),(i:Int))) (xs.map PV.str).length (λi=>aet ((xs.map PV.str).getD i .bad).asStr) (Sum.inl false:Bool⊕Bo) (Sum.inr s) (λi d=>by
  have m:i<xs.length:=by simpa using d
  simp only [S140_3step,S140_3,aby,aab,d,decide_true,Ad,Ah,agx,Aa,abx (i:=i) (by omega)];grind) (by
  simp only [S140_3step,S140_3,aby,Nat.lt_irrefl,decide_false,Ae]) (xs.map PV.str).length 0 (by omega)
 rw [apn (λx:PV=>aet x.asStr),List.all_map] at h;exact h
theorem anq (c:UInt8):∀ s,(ab0 c s).length<=s.length+1:=by
 intro s;induction s with
 | nil=>simp [ab0]
 | cons b r d=>simp only [ab0];grind
theorem aqm (s:Bo) (d:s.length<=1048576):anz 0 s ([46]:Bo)=some ((ab0 46 s).map PV.str):=by
 unfold anz;have:Nat.blt s.length 4294967281=true:=by rw [Nat.blt_eq];omega
 grind
theorem aiv (s:Bo) (d:s.length<=1048576):F140 0 s=some (afv s):=by have m:=anq 46 s;unfold F140 afv;have e:decide ((s.length:Int)<=(120:Int))=decide (s.length<=120):=leI _ 120;rw [aqm s d,Aa,aaq,show (0:Int)=((0:Nat):Int) from rfl,bak s _ (by omega)];grind [ab0,aet,sumE]
noncomputable def ajh (s:Bo):Bool:=(F294 0 s).getD false
theorem a7o (s:Bo):F294 0 s=some (ajh s):=by unfold ajh;simp only [F294,af9,Option.getD_some]
theorem av3 (s:Bo):F200 0 s=some (ajh s):=by rw [<-a7o];rfl
noncomputable def af4 (s:Bo):Bool:=aet s&&!ajh s
theorem ajp (s:Bo):F165 0 s=some (af4 s):=by grind [F165,af4,agx,av3,aet]
noncomputable def defP (s:Bo):Bool:=afv s&&(ab0 46 s).all λx=>!ajh x
theorem azm (xs:List Bo) (O:xs.length<=9223372036854770000):F261 0 (xs.map PV.str) ()=some (!xs.all λx=>!ajh x):=by
 have h:=ahu (step:=S325_3step 0) (λi=>(xs.map PV.str,(),((xs.map PV.str).length:Int),(i:Int))) (xs.map PV.str).length (λi=>!ajh ((xs.map PV.str).getD i .bad).asStr) (λi=>(Sum.inl (i:Int):Int⊕Unit)) (Sum.inr ()) (λi m=>by
  have M:i<xs.length:=by simpa using m
  simp only [S325_3step,S325_3,aby,aab,m,decide_true,Ad,Ah,av3,Aa,abx (i:=i) (by omega)];grind) (by
  simp only [S325_3step,S325_3,aby,Nat.lt_irrefl,decide_false,Ae]) (xs.map PV.str).length 0 (by omega)
 rw [apn (λx:PV=>!ajh x.asStr),List.all_map] at h;obtain ⟨r,o,z,H⟩:=h;unfold F261 F325;rw [aaq,show (0:Int)=((0:Nat):Int) from rfl,o];cases d:xs.all λx=>!ajh x with
 | true=>rw [z d];rfl
 | false=>obtain ⟨j,_,_,rfl⟩:=H d;simp [sumE]
theorem ao1 (s:Bo) (d:s.length<=1048576):F160 0 s=some (defP s):=by
 have m:=anq 46 s;unfold F160 defP;rw [aiv s d,Aa];cases afv s with
 | false=>rfl
 | true=>simp only [Ad,aqm s d,Aa,azm _ (show (ab0 46 s).length<=_ by omega),Bool.not_not,Bool.true_and]
end Go.Ab
namespace Go.Ab
open Go
set_option maxRecDepth 100000
theorem nbeq (a b:Nat):((a:Int)==(b:Int))=decide (a=b):=by
 by_cases h:a=b
 ·simp [h]
 ·simp [h];omega
theorem aqh {n:Nat} (h:n<=4611686018427387904):decide (n<=aae)=true:=Aj h
theorem a5p:((List.range 256).all λb=>F311 0 (b:Int)==some (92::120::hex2 b))=true:=by kernel_rfl
theorem a93 {b:Nat} (h:b<256):F311 0 (b:Int)=some (92::120::hex2 b):=by have:=Bc.1 a5p b (List.mem_range.2 h);simpa using this
theorem bjg (s:Bo) (i:Nat) (z:i<s.length):F240 0 s (i:Int) ((aap s i).1:Int)=some (aoi s i):=by
 unfold F240 aoi;have hw:=a4k s i z;have hb:((s.getD ((i:Int)).toNat 0).toNat:Int)=(byteAt s i:Int):=rfl;have he:=a93 (acs s i);have hr:aaa (i:Int) s.length=true:=by rw [aab,Aj z]
 have V:(((aap s i).1:Int)==(34:Int))=decide ((aap s i).1=34):=nbeq _ 34;have W:(((aap s i).1:Int)==(92:Int))=decide ((aap s i).1=92):=nbeq _ 92;have M:(((aap s i).1:Int)==(10:Int))=decide ((aap s i).1=10):=nbeq _ 10;have k9:(((aap s i).1:Int)==(9:Int))=decide ((aap s i).1=9):=nbeq _ 9;have O:(((aap s i).1:Int)==(13:Int))=decide ((aap s i).1=13):=nbeq _ 13;have o:(((aap s i).1:Int)==(127:Int))=decide ((aap s i).1=127):=nbeq _ 127;have U:decide (((aap s i).1:Int)<(32:Int))=decide ((aap s i).1<32):=abp _ 32;simp only [V,W,M,k9,O,o,U,hw,hr,hb,he,Ad,Aa];by_cases d:byteAt s i<128
 ·rw [agc s i d,aj0 s i d];have m:=ala s i z (by rw [aj0 s i d];decide);rw [agc s i d,aj0 s i d] at m;simp only [m];by_cases X:byteAt s i=34
  ·simp [X]
  by_cases Y:byteAt s i=92
  ·simp [Y]
  by_cases Z:byteAt s i=10
  ·simp [Z]
  by_cases c4:byteAt s i=9
  ·simp [c4]
  by_cases c5:byteAt s i=13
  ·simp [c5]
  simp only [X,Y,Z,c4,c5,decide_false,Ae,Ba];by_cases c6:byteAt s i<32
  ·simp [c6]
  ·by_cases c7:byteAt s i=127
   ·simp [c7]
   ·simp [c6,c7]
 ·have hh:=ap6 s i (by omega);have d1:decide ((aap s i).1=34)=false:=Am (by omega);have d2:decide ((aap s i).1=92)=false:=Am (by omega);have d3:decide ((aap s i).1=10)=false:=Am (by omega);have d4:decide ((aap s i).1=9)=false:=Am (by omega);have d5:decide ((aap s i).1=13)=false:=Am (by omega);have d6:decide ((aap s i).1=127)=false:=Am (by omega);have d7:decide ((aap s i).1<32)=false:=Am (by omega);have e1:¬byteAt s i=34:=by omega
  have e2:¬byteAt s i=92:=by omega
  have e3:¬byteAt s i=10:=by omega
  have e4:¬byteAt s i=9:=by omega
  have e5:¬byteAt s i=13:=by omega
  have e6:¬byteAt s i=127:=by omega
  have e7:¬byteAt s i<32:=by omega
  simp only [d1,d2,d3,d4,d5,d6,d7,e1,e2,e3,e4,e5,e6,e7,Ae,Ao,Ad,Aa,Ba,false_or];by_cases H:abj s i=0
  ·simp [H]
  ·simp only [H,decide_false,Ae,Ba];rw [ala s i z H]
theorem a7l (s:Bo):∀ (m i:Nat) (o:Bo),s.length-i<=m->i<=s.length->o.length+4*(s.length-i)<=140737488355328->
 ∃ z,aa7 (S134_5step 0) (s,(),(),o,s,(i:Int))=some ((),o++abe s i,s,z):=by
 intro m
 induction m with
 | zero=>
  intro i o V O M
  have d:¬i<s.length:=by omega
  rw [abe,if_neg d]
  refine ⟨(i:Int),aaf ?_⟩
  simp only [S134_5step,S134_5,Ah,d,decide_false,Ae,List.append_nil]
 | succ m Y=>
  intro i o V O M
  by_cases d:i<s.length
  ·have hp:=ax2 s i d;have Z:=a74 s i d;have U:=ahy s i;obtain ⟨z,X⟩:=Y (i+ado s i) (o++aoi s i) (by omega) (by omega) (by rw [Al];omega);refine ⟨z,?_⟩;rw [abe,if_pos d,<-An,<-X];refine abd ?_;have W:Nat.ble (o.length+(aoi s i).length) 140737488355328=true:=by rw [Nat.ble_eq];omega
   simp only [S134_5step,S134_5,Ah,d,decide_true,Ad,ail,bjg s i d,bhm s i d,Aa,aa1,W]
  ·have H:¬i<s.length:=d;rw [abe,if_neg d];refine ⟨(i:Int),aaf ?_⟩;simp only [S134_5step,S134_5,Ah,d,decide_false,Ae,List.append_nil]
theorem adw (s:Bo):(abi s).length<=4*s.length+2:=by have:=amc s s.length 0 (by omega);simp [abi];omega
theorem agl (s:Bo) (M:s.length<=1048576):F134 0 s=some (abi s):=by
 obtain ⟨z,d⟩:=a7l s s.length 0 [34] (by omega) (by omega) (by simp;omega);have H:=amc s s.length 0 (by omega);unfold F134;have m:aa1 0 ([34]:Bo) []=some (1,.nilIface,[34]):=rfl;have o:Nat.ble (([34]++abe s 0).length+1) 140737488355328=true:=by rw [Nat.ble_eq];simp;omega
 simp only [m,Aa,aaq,d];simp only [aa1,Ak,Aq,Nat.zero_add,o,Ad,Aa,ah9];simp [abi]
end Go.Ab
namespace Go.Ab
open Go
theorem bneI {a b:Int} (h:a≠b):(a != b)=true:=by simp [h]
theorem beqI {a b:Int} (h:a≠b):(a==b)=false:=by simp [h]
def agh:Bo:=[100,101,112,114,101,99,97,116,101,100]
def ao9:Bo:=[115,101,99,114,101,116]
def agi:Bo:=[105,100,101,109,112,111,116,101,110,116]
def bfx:Bo:=[100,111,99]
def au3:Bo:=[97,108,105,97,115]
def au6:Bo:=[114,111,117,116,101]
def au5:Bo:=[111,119,110,101,114]
def au7:Bo:=[115,105,110,99,101]
def au8:Bo:=[117,110,116,105,108]
def ao8:Bo:=[108,101,110,103,116,104]
def al4:Bo:=[116,105,109,101,111,117,116]
def bf0:Bo:=[109,105,110]
def bfz:Bo:=[109,97,120]
def knownNames:List Bo:=[agh,ao9,agi,bfx,au3,au6,au5,au7,au8,ao8,al4,bf0,bfz]
noncomputable def aad (d:Bo):Int:=(F152 0 d).getD 0
theorem a1o {d:Bo} (h:d∉knownNames):(d==agh)=false/\(d==ao9)=false/\(d==agi)=false/\(d==bfx)=false/\(d==au3)=false/\(d==au6)=false/\(d==au5)=false/\
 (d==au7)=false/\(d==au8)=false/\(d==ao8)=false/\(d==al4)=false/\(d==bf0)=false/\(d==bfz)=false:=by
 simp only [knownNames,Bl,List.not_mem_nil,or_false,not_or] at h
 grind
theorem adt {d:Bo} (h:d∉knownNames):aad d=0:=by obtain ⟨M,O,U,V,W,X,Y,Z,h9,m,o,z,H⟩:=a1o h;unfold agh at M;unfold ao9 at O;unfold agi at U;unfold bfx at V;unfold au3 at W;unfold au6 at X;unfold au5 at Y;unfold au7 at Z;unfold au8 at h9;unfold ao8 at m;unfold al4 at o;unfold bf0 at z;unfold bfz at H;simp only [aad,F152,M,O,U,V,W,X,Y,Z,h9,m,o,z,H,Ae,Option.getD_some]
theorem aiw {d:Bo} (h:d∈knownNames):aad d≠0:=by
 simp only [knownNames,Bl,List.not_mem_nil,or_false] at h;have e:∀ k:Int,k≠0->some (aad d)=some k->aad d≠0:=λk o m=>by grind
 rcases h with rfl | rfl | rfl | rfl | rfl | rfl | rfl | rfl | rfl | rfl | rfl | rfl | rfl
 ·exact e 1 (by decide) (by kernel_rfl)
 ·exact e 1 (by decide) (by kernel_rfl)
 ·exact e 1 (by decide) (by kernel_rfl)
 ·exact e 7 (by decide) (by kernel_rfl)
 ·exact e 7 (by decide) (by kernel_rfl)
 ·exact e 7 (by decide) (by kernel_rfl)
 ·exact e 7 (by decide) (by kernel_rfl)
 ·exact e 4 (by decide) (by kernel_rfl)
 ·exact e 4 (by decide) (by kernel_rfl)
 ·exact e 4 (by decide) (by kernel_rfl)
 ·exact e 4 (by decide) (by kernel_rfl)
 ·exact e 3 (by decide) (by kernel_rfl)
 ·exact e 3 (by decide) (by kernel_rfl)
noncomputable def ajs:List (PV×PV):=(F145 0).getD []
theorem a2t:F145 0=some ajs:=by kernel_rfl
theorem a0g:ajs=[(.str agh,.agg [.int 1,.int 126]),(.str bfx,.agg [.int 7,.int 126]),(.str au3,.agg [.int 7,.int 84]),(.str au7,.agg [.int 4,.int 84]),(.str au8,.agg [.int 4,.int 84]),(.str bf0,.agg [.int 3,.int 4]),(.str bfz,.agg [.int 3,.int 4]),
 (.str ao8,.agg [.int 4,.int 4]),(.str ao9,.agg [.int 1,.int 4]),(.str agi,.agg [.int 1,.int 64]),(.str al4,.agg [.int 4,.int 64]),(.str au6,.agg [.int 7,.int 64]),(.str au5,.agg [.int 7,.int 34])]:=by kernel_rfl
theorem aob {d:Bo} (h:d∉knownNames):PV.mget ajs (.str d)=none:=by obtain ⟨M,O,U,V,W,X,Y,Z,h9,m,o,z,H⟩:=a1o h;rw [a0g];simp only [PV.mget,List.find?,am6,M,O,U,V,W,X,Y,Z,h9,m,o,z,H,Option.map_none]
theorem ba6 (d:Bo):F71 0 d=some (aad d):=by
 by_cases h:d∈knownNames
 ·simp only [knownNames,Bl,List.not_mem_nil,or_false] at h;rcases h with rfl | rfl | rfl | rfl | rfl | rfl | rfl | rfl | rfl | rfl | rfl | rfl | rfl;all_goals (refine Eq.trans (b:=_) ?_ rfl;kernel_rfl)
 ·rw [adt h];unfold F71;rw [a2t,Aa,aob h];rfl
noncomputable def bah (d:Bo) (t:Int):Bool:=!(bif (bif (decide (t<(1:Int))) then true else (decide (t>(6:Int)))) then true else ((aez .and .i64 (((((PV.mget ajs (.str d)).getD (.agg [.int 0,.int 0])).fld 1).asInt).fdiv (2^(min t.toNat (IntKind.bits .i64)))) (1:Int))==(0:Int)))
theorem bdd {d:Bo} (h:d∈knownNames) (t:Int):(bif (bif (decide (t<(1:Int))) then true else (decide (t>(6:Int)))) then true else ((aez .and .i64 (((((PV.mget ajs (.str d)).getD (.agg [.int 0,.int 0])).fld 1).asInt).fdiv (2^(min t.toNat (IntKind.bits .i64)))) (1:Int))==(0:Int)))=!(bah d t):=by unfold bah;grind
def aa9 (v:PV):Int:=(v.fld 0).asInt
def aam (v:PV):Int:=(v.fld 1).asInt
def abn (v:PV):Bo:=(v.fld 2).asStr
def vLists (v:PV):Nat:=(v.fld 3).asList.length+(v.fld 4).asList.length+(v.fld 5).asList.length+(v.fld 6).asList.length
def aea (v:PV):Prop:=vLists v<=1048576/\(abn v).length<=1048576/\0<=aam v/\aam v<18446744073709551616
def axh (k:Int):Bool:=decide (1<=k/\k<=9)
def afi (k:Int):Bool:=k==7||k==8
def acb (k d:Int):Bool:=
 if k=1 then decide (d<=1) else if k=2 then decide (-2147483648<=IntKind.wrap .i64 d/\IntKind.wrap .i64 d<=2147483647) else if k=4 then decide (d<4294967296) else if k=9 then decide (d<2147483648) else true
def ac4 (k:Int) (v:PV):Bool:=
 axh k&&(aa9 v==k)&&decide (vLists v=0)&&(if afi k then (aam v==0)&&decide ((abn v).length<=4096)&&((k==8)||valid (abn v)) else (abn v==[])&&acb k (aam v))
theorem ahr (k:Int) (v:PV) (hs:aea v):F146 0 k v=some (ac4 k v):=by
 have hv:F185 0 (abn v)=some (valid (abn v)):=aph _;have V:(v.fld 0).asInt=aa9 v:=rfl;have W:(v.fld 1).asInt=aam v:=rfl;have X:(v.fld 2).asStr=abn v:=rfl;have i1:(bif decide (k>=(1:Int)) then decide (k<=(9:Int)) else false)=axh k:=by grind [axh]
 have Y:(v.fld 3).asList.length+(v.fld 4).asList.length+(v.fld 5).asList.length+(v.fld 6).asList.length=vLists v:=rfl;have hL:=hs.1;have w1:IntKind.wrap .i64 (((v.fld 3).asList.length:Int)+((v.fld 4).asList.length:Int))=(((v.fld 3).asList.length+(v.fld 4).asList.length:Nat):Int):=wadd (by grind);have w2:IntKind.wrap .i64 ((((v.fld 3).asList.length+(v.fld 4).asList.length:Nat):Int)+((v.fld 5).asList.length:Int))=(((v.fld 3).asList.length+(v.fld 4).asList.length+(v.fld 5).asList.length:Nat):Int):=wadd (by grind);have w3:IntKind.wrap .i64 ((((v.fld 3).asList.length+(v.fld 4).asList.length+(v.fld 5).asList.length:Nat):Int)+((v.fld 6).asList.length:Int))=(((v.fld 3).asList.length+(v.fld 4).asList.length+(v.fld 5).asList.length+(v.fld 6).asList.length:Nat):Int):=wadd (by grind);have tk:∀ k:Int,(bif (k==(7:Int)) then true else (k==(8:Int)))=afi k:=λk=>by grind [afi]
 unfold F146 F248 F249 F250 F307;simp only [Aa,i1,tk,V,W,X,hv,gb,w1,w2,w3,Y];have d:(bif (k==(1:Int)) then some (decide (aam v<=1)) else bif (k==(2:Int)) then some (bif decide (IntKind.wrap .i64 (aam v)>=-2147483648) then decide (IntKind.wrap .i64 (aam v)<=2147483647) else false) else
  bif (k==(9:Int)) then some (decide (aam v<=2147483647)) else bif (k==(4:Int)) then some (decide (aam v<=4294967295)) else some true)=some (acb k (aam v)):=by
  unfold acb
  by_cases H:k=1
  ·subst H;simp
  have M:(k==1)=false:=by simp [H]
  simp only [M,Ae,if_neg H]
  by_cases k2:k=2
  ·grind
  grind
 rw [d];unfold ac4;cases h1:axh k
 ·simp
 cases U:(aa9 v==k)
 ·grind
 have Z:(aa9 v != k)=false:=by simp [bne,U]
 have m:aa9 v=k:=by simpa using U
 rw [m];have o:(k != k)=false:=by simp
 simp only [o,Ap,Ae,Ao,Bool.true_and,Ad];by_cases h3:vLists v=0
 ·have z:decide ((vLists v:Int)>0)=false:=by simp;omega
  simp only [z,Ae,h3,decide_true,Bool.true_and];have hl:decide (((abn v).length:Int)>4096)=!decide ((abn v).length<=4096):=by grind
  cases h4:afi k
  ·simp only [Ae,A7,Ba,Aa];have k7:(k != 7)=true:=by
    grind
   all_goals grind
  ·simp only [Ad,A9,Aa];have hr:acb k (aam v)=true:=by
    all_goals grind
   simp only [hr,hl];have O:k=7\/k=8:=by all_goals grind
   rcases O with rfl | rfl;all_goals grind
 grind
def aeb (n:PV):Bo:=(n.fld 0).asStr
def nVal (n:PV):PV:=n.fld 1
noncomputable def abk (n:PV):Bool:=(aad (aeb n) != 0)&&ac4 (aad (aeb n)) (nVal n)
def acj (n:PV):Prop:=aea (nVal n)/\(aeb n).length<=1048576
theorem a3n (n:PV) (m:acj n):F72 0 n=some (abk n):=by unfold F72;have e:(n.fld 0).asStr=aeb n:=rfl;have d:n.fld 1=nVal n:=rfl;simp only [e,d,ba6,Aa,ahr _ _ m.1,gb];grind [abk,aad,aeb]
theorem a5u {k:Int}{v:PV} (h:(aa9 v==k)=false):ac4 k v=false:=by grind [ac4]
noncomputable def chk1 (n:PV) (t:Int) (d:Bo) (ok:Bool):Int:=
 if aad (aeb n)=0 then 8 else if bah (aeb n) t=false then 1 else if abk n=false then 12 else if ok&&Op.bytesLess (aeb n) d then 11 else if ok&&(aeb n==d) then 9 else 0
theorem bj5 (d:Bo):PV.mhas ajs (.str d)=decide (d∈knownNames):=by
 by_cases h:d∈knownNames
 ·rw [Aj h];simp only [knownNames,Bl,List.not_mem_nil,or_false] at h;rcases h with rfl | rfl | rfl | rfl | rfl | rfl | rfl | rfl | rfl | rfl | rfl | rfl | rfl;all_goals (refine Eq.trans (b:=_) ?_ rfl;kernel_rfl)
 grind [decide_eq_false,PV.mhas,aob]
theorem bmu (n:PV) (t:Int) (d:Bo) (ok:Bool) (o:acj n):F144 0 n t d ok=some (chk1 n t d ok):=by
 unfold F144 chk1;have e:(n.fld 0).asStr=aeb n:=rfl;simp only [e,a2t,Aa,bj5,a3n n o];by_cases h:aeb n∈knownNames
 ·have m:=aiw h;have z:=bdd h t;simp only [h,decide_true,Ap,Ae,if_neg m];rw [z];have H:imp (!(bif decide (t<(1:Int)) then true else decide (t>(6:Int)))) (decide (0<=t))=true:=by
   grind [imp]
  grind
 ·rw [adt h];grind
noncomputable def chkL (t:Int):List PV->Bo->Bool->Int
 | [],_,_=>0
 | n::r,last,ok=>if chk1 n t last ok=0 then chkL t r (aeb n) true else chk1 n t last ok
noncomputable def aii (l:List PV) (t:Int):Int:=if l.length>8 then 3 else chkL t l [] false
theorem a5c (l:List PV) (t:Int) (Z:l.length<=1048576) (X:∀ n,n∈l->acj n):∀ (m i:Nat) (d:Bo),l.length-i<=m->i<=l.length->
 aa7 (S70_6step 0) (t,d,l,(l.length:Int),(i:Int))=some (bif decide (chkL t (l.drop i) d (decide (0<i))=0) then .inr () else .inl (chkL t (l.drop i) d (decide (0<i)))):=by
 intro m
 induction m with
 | zero=>
  intro i d W V
  have o:¬i<l.length:=by omega
  rw [A3 (by omega)]
  exact aaf (by simp only [S70_6step,S70_6,abp,o,decide_false,Ae];rfl)
 | succ m Y=>
  intro i d W V
  by_cases o:i<l.length
  ·rw [aa4 o .bad,chkL];have H:l.getD i .bad∈l:=by grind
   have O:decide ((i:Int)>0)=decide (0<i):=by grind
   have M:=bmu (l.getD i .bad) t d (decide (0<i)) (X _ H);by_cases z:chk1 (l.getD i .bad) t d (decide (0<i))=0
   ·rw [if_pos z];rw [abd (x1:=(t,aeb (l.getD i .bad),l,(l.length:Int),((i+1:Nat):Int)))]
    ·rw [Y (i+1) _ (by omega) (by omega),Aj (show 0<i+1 by omega)]
    ·rw [z] at M;simp only [S70_6step,S70_6,abp,aab,o,decide_true,Ad,Ah,O,M,Aa,bdu (i:=i) (by omega)];rfl
   ·rw [if_neg z,Am z];refine aaf ?_;have U:(chk1 (l.getD i .bad) t d (decide (0<i)) != (0:Int))=true:=bneI z;simp only [S70_6step,S70_6,abp,aab,o,decide_true,Ad,Ah,O,M,Aa,U];rfl
  grind
theorem bed (l:List PV) (t:Int) (z:l.length<=1048576) (H:∀ n,n∈l->acj n):F70 0 l t=some (aii l t):=by
 have h:=a5c l t z H l.length 0 [] (by omega) (by omega);unfold F70 aii;have o:decide ((l.length:Int)>8)=decide (l.length>8):=by grind
 rw [o,aaq,show (0:Int)=((0:Nat):Int) from rfl,h];by_cases m:l.length>8
 ·simp [m]
 ·simp only [m,decide_false,Ae,Ba,A4,Nat.lt_irrefl];by_cases d:chkL t l [] false=0
  ·rw [d];rfl
  ·rw [Am d];rfl
end Go.Ab
namespace Go.Ab
open Go
set_option maxRecDepth 100000
theorem bei:∀ (f u:Nat),(decF f u).length<=f:=by
 intro f;induction f with
 | zero=>intro u;simp [decF]
 | succ f d=>
  intro u;unfold decF;cases Nat.ble u 9 with
  | true=>simp
  | false=>have:=d (u / 10);simp;omega
theorem agb (u:Nat):(decB u).length<=20:=bei 20 u
theorem ba4 (n:Int):(alp n).length<=21:=by
 unfold alp;have d:=agb n.natAbs;have m:=agb n.toNat;cases decide (n<0) with
 | true=>simp;omega
 | false=>simp;omega
def amm (v:PV):Bo:=
 bif ac4 (aa9 v) v then
  (bif aa9 v==1 then (bif aam v==1 then [116,114,117,101] else [102,97,108,115,101])
  else bif aa9 v==2 then alp (IntKind.wrap .i64 (aam v)) else bif aa9 v==3 then alp (IntKind.wrap .i64 (aam v)) else bif aa9 v==7 then abi (abn v) else decB (aam v).toNat)
 else []
theorem a2v (n:Int) (d:-9223372036854775808<=n) (m:n<=9223372036854775807):ak2 0 n=some (alp n):=by unfold ak2;rw [Aj d,Aj m];rfl
theorem wrapI (u:Nat) (d:u<18446744073709551616):-9223372036854775808<=IntKind.wrap .i64 (u:Int)/\IntKind.wrap .i64 (u:Int)<=9223372036854775807:=by rw [IntKind.wrap_i64];omega
theorem bdi (v:PV) (Z:aea v) (W:aa9 v≠6) (X:aa9 v≠8):F73 0 v=some (amm v):=by
 obtain ⟨_,M,d,o⟩:=Z;obtain ⟨u,hu⟩:∃ u:Nat,aam v=(u:Int):=⟨(aam v).toNat,(Int.toNat_of_nonneg d).symm⟩;have m:u<18446744073709551616:=by omega
 have H:=wrapI u m;have O:(v.fld 0).asInt=aa9 v:=rfl;have U:(v.fld 1).asInt=aam v:=rfl;have V:(v.fld 2).asStr=abn v:=rfl;have k6:(aa9 v==(6:Int))=false:=beqI W;have k8:(aa9 v==(8:Int))=false:=beqI X;have z:av7 0 (u:Int) (10:Int)=some (decB u):=by unfold av7;rw [Aj (by omega),Aj (by omega)];simp
 have Y:Lfmt 0 (u:Int) (10:Int)=some (decB u):=z;unfold F73 amm;simp only [O,U,V,ahr _ _ ⟨by assumption,M,d,o⟩,Aa,k6,k8,Ae,agl _ M,hu,a2v _ H.1 H.2,F135,Y,Ah,F147,F251];generalize alp (IntKind.wrap .i64 (u:Int))=x1;generalize abi (abn v)=x2;generalize decB u=x3;generalize ac4 (aa9 v) v=q0;generalize (aa9 v==(1:Int))=q1;generalize (aa9 v==(2:Int))=q2;generalize (aa9 v==(3:Int))=q3;generalize (aa9 v==(7:Int))=q7;generalize ((u:Int)==(1:Int))=q;cases q0<;>cases q1<;>cases q2<;>cases q3<;>cases q7<;>cases q<;>rfl
theorem arq (v:PV) (z:(abn v).length<=1048576):(amm v).length<=4194400:=by have d:=adw (abn v);have m:=agb (aam v).toNat;have o:=ba4 (IntKind.wrap .i64 (aam v));unfold amm;cases ac4 (aa9 v) v<;>cases (aa9 v==(1:Int))<;>cases (aa9 v==(2:Int))<;>cases (aa9 v==(3:Int))<;>cases (aa9 v==(7:Int))<;>cases (aam v==(1:Int))<;>simp only [Ad,Ae,Ak,Aq]<;>omega
end Go.Ab
namespace Go.Ab
open Go
set_option maxRecDepth 100000
theorem a5z:((List.range 16).all λd=>(([48,49,50,51,52,53,54,55,56,57,97,98,99,100,101,102,103,104,105,106,107,108,109,110,111,112,113,114,115,116,117,118,119,120,121,122]:Bo).getD d 0)==hexd d)=true:=by kernel_rfl
theorem bhy {d:Nat} (h:d<16):(([48,49,50,51,52,53,54,55,56,57,97,98,99,100,101,102,103,104,105,106,107,108,109,110,111,112,113,114,115,116,117,118,119,120,121,122]:Bo).getD d 0)=hexd d:=by have:=Bc.1 a5z d (List.mem_range.2 h);simpa using this
theorem aih (b:UInt8):aa3 (PV.int (b.toNat:Int))=b:=by show UInt8.ofNat ((b.toNat:Int)).toNat=b;rw [Ah,UInt8.ofNat_toNat]
theorem a3t {d:Type} (l:List d) (i:Nat) (x:d) (h:i<l.length):(l.set i x).drop i=x::l.drop (i+1):=by rw [List.drop_set,if_neg (Nat.lt_irrefl i),Nat.sub_self,List.drop_eq_getElem_cons h];rfl
theorem a9b:∀ (k u i:Nat) (o:List PV),u<16^(k+1)->u<18446744073709551616->k+1<=i->i<=65->o.length=65->
 ∃ (V H:Nat) (m:List PV),aa7 (S315_12step 0) ([],(u:Int),false,false,[],([]:Bo),(),(i:Int),(4:Int),(16:Int),(15:Int),PV.agg o)=some ([],(V:Int),false,false,[],([]:Bo),(),(H:Int),PV.agg m)/\
  V<16/\1<=H/\H<=65/\m.length=65/\hexd V::(m.drop H).map aa3=hexF (k+1) u++(o.drop i).map aa3:=by
 intro k
 induction k with
 | zero=>
  intro u i o hu M hi z W
  have d:u<16:=by simpa using hu
  have O:decide ((u:Int)>=(16:Int))=false:=Am (by omega)
  refine ⟨u,i,o,aaf ?_,d,hi,z,W,?_⟩
  ·simp only [S315_12step,S315_12,O,Ae]
  ·rw [hexF,if_pos d];rfl
 | succ k ih=>
  intro u i o hu M hi z W
  by_cases d:u<16
  ·have O:decide ((u:Int)>=(16:Int))=false:=Am (by omega);refine ⟨u,i,o,aaf ?_,d,by omega,z,W,?_⟩
   ·simp only [S315_12step,S315_12,O,Ae]
   ·rw [hexF,if_pos d];rfl
  ·have O:decide ((u:Int)>=(16:Int))=true:=Aj (by omega);have hm:u%16<16:=Nat.mod_lt _ (by decide);obtain ⟨V,H,m,h1,h2,h3,h4,h5,h6⟩:=ih (u / 16) (i-1) (o.set (i-1) (PV.int ((hexd (u%16)).toNat:Int))) (by rw [Nat.pow_succ] at hu;omega) (by omega) (by omega) (by omega) (by simp [W]);refine ⟨V,H,m,?_,h2,h3,h4,h5,?_⟩
   ·rw [<-h1];refine abd ?_;have hw:IntKind.wrap .i64 ((i:Int)-(1:Int))=((i-1:Nat):Int):=by
     rw [show (i:Int)-1=((i-1:Nat):Int) by omega];exact aeu (by omega)
    have hb:aez .and .u64 (u:Int) (15:Int)=((u%16:Nat):Int):=by have:=ak7 u 15 M (by decide);rw [show u &&& 15=u%16 from Nat.and_two_pow_sub_one_eq_mod u 4] at this;exact this
    have Y:aaa ((u%16:Nat):Int) (([48,49,50,51,52,53,54,55,56,57,97,98,99,100,101,102,103,104,105,106,107,108,109,110,111,112,113,114,115,116,117,118,119,120,121,122]:Bo).length)=true:=by rw [aab];exact Aj (A0 hm (by decide))
    have Z:aaa ((i-1:Nat):Int) 65=true:=by rw [aab];exact Aj (by omega)
    have X:decide ((0:Int)<=(4:Int))=true:=rfl;have U:(u:Int).fdiv (2^(min (4:Int).toNat (IntKind.bits .u64)))=((u / 16:Nat):Int):=by show (u:Int).fdiv 16=_;rw [Int.fdiv_eq_ediv_of_nonneg _ (by decide)];rfl
    simp only [S315_12step,S315_12,O,Ad,hw,hb,Y,Z,X,U,Ah,bhy hm];rfl
   ·rw [h6,show hexF (k+1+1) u=hexF (k+1) (u / 16)++[hexd (u%16)] by rw [hexF,if_neg d],An];congr 1;rw [a3t _ _ _ (by omega),show i-1+1=i by omega,Bf,aih];rfl
def a8p (o:((List PV)×Int×Bool×Bool×(List PV)×Bo×Unit×Int×PV)):Option ((List PV)×Bo):=
 let d:=IntKind.wrap .i64 (o.2.2.2.2.2.2.2.1-(1:Int))
 let z:=o.2.1
 bif aaa z (([48,49,50,51,52,53,54,55,56,57,97,98,99,100,101,102,103,104,105,106,107,108,109,110,111,112,113,114,115,116,117,118,119,120,121,122]:Bo).length) then
 let H:=((([48,49,50,51,52,53,54,55,56,57,97,98,99,100,101,102,103,104,105,106,107,108,109,110,111,112,113,114,115,116,117,118,119,120,121,122]:Bo).getD z.toNat 0).toNat:Int)
 bif aaa d 65 then
 bif o.2.2.1 then
  let m:=IntKind.wrap .i64 (d-(1:Int))
  bif aaa m 65 then
  bif o.2.2.2.1 then
   bif decide (0<=m/\m<65/\m<=(65:Int)/\(65:Int)<=65) then
   none
   else none
  else
   bif decide (0<=m/\m<65/\m<=(65:Int)/\(65:Int)<=65) then
   let M:=(((PV.agg ((PV.agg (o.2.2.2.2.2.2.2.2.parts.set d.toNat (PV.int H))).parts.set m.toNat (PV.int (45:Int)))).parts.drop m.toNat).take ((65:Int).toNat-m.toNat)).map aa3
   some (o.2.2.2.2.1,M)
   else none
  else none
 else
  bif o.2.2.2.1 then
   bif decide (0<=d/\d<65/\d<=(65:Int)/\(65:Int)<=65) then
   none
   else none
  else
   bif decide (0<=d/\d<65/\d<=(65:Int)/\(65:Int)<=65) then
   let O:=(((PV.agg (o.2.2.2.2.2.2.2.2.parts.set d.toNat (PV.int H))).parts.drop d.toNat).take ((65:Int).toNat-d.toNat)).map aa3
   some (o.2.2.2.2.1,O)
   else none
 else none
 else none
theorem a9a (u:Int):F315 0 [] u 16 false false=(aa7 (S315_12step 0) ([],u,false,false,[],([]:Bo),(),(65:Int),(4:Int),(16:Int),(15:Int),PV.agg (List.replicate 65 (PV.int (0:Int))))).bind a8p:=by kernel_rfl
theorem fmt16 (u:Nat) (X:u<18446744073709551616):Lfmt 0 (u:Int) (16:Int)=some (hexF 16 u):=by
 obtain ⟨M,d,o,U,O,Z,h4,h5,V⟩:=a9b 15 u 65 (List.replicate 65 (PV.int (0:Int))) (by omega) X (by omega) (by omega) (by simp);have e:Lfmt 0 (u:Int) (16:Int)=(F315 0 [] (u:Int) 16 false false).bind λy=>some y.2:=rfl;rw [e,a9a,show (65:Int)=((65:Nat):Int) from rfl,U,Aa];have Y:IntKind.wrap .i64 ((d:Int)-(1:Int))=((d - 1:Nat):Int):=by rw [show (d:Int)-1=((d - 1:Nat):Int) by omega];exact aeu (by omega)
 have z:aaa ((M:Nat):Int) (([48,49,50,51,52,53,54,55,56,57,97,98,99,100,101,102,103,104,105,106,107,108,109,110,111,112,113,114,115,116,117,118,119,120,121,122]:Bo).length)=true:=by rw [aab];exact Aj (A0 O (by decide))
 have H:aaa ((d - 1:Nat):Int) 65=true:=by rw [aab];exact Aj (by omega)
 have W:decide ((0:Int)<=((d - 1:Nat):Int)/\((d - 1:Nat):Int)<65/\((d - 1:Nat):Int)<=(65:Int)/\(65:Int)<=65)=true:=Aj (by omega);have m:(((PV.agg (o.set (d - 1) (PV.int ((hexd M).toNat:Int)))).parts.drop (d - 1)).take ((65:Int).toNat-(d - 1))).map aa3=hexF 16 u:=by show (((o.set (d - 1) (PV.int ((hexd M).toNat:Int))).drop (d - 1)).take (65-(d - 1))).map aa3=_;rw [List.take_of_length_le (by simp;omega),a3t _ _ _ (by omega),show d - 1+1=d by omega,Bf,aih,V];simp
 unfold a8p;simp only [Y,z,H,W,Ad,Ae,Ah,bhy O,PV.parts] at m ⊢;rw [m];rfl
theorem awr (u:Nat) (z:u<18446744073709551616):F253 0 (u:Int)=some (ab8 u):=by
 have U:aez .and .u64 (u:Int) (9218868437227405312:Int)=((u / 4503599627370496%2048*4503599627370496:Nat):Int):=by have:=ak7 u 9218868437227405312 z (by decide);rw [bd2] at this;exact this
 have V:aez .and .u64 (u:Int) (4503599627370495:Int)=((u%4503599627370496:Nat):Int):=by have:=ak7 u 4503599627370495 z (by decide);rw [bd3] at this;exact this
 have H:(((u / 4503599627370496%2048*4503599627370496:Nat):Int)==(9218868437227405312:Int))=decide (u / 4503599627370496%2048=2047):=by refine (nbeq _ 9218868437227405312).trans ?_;rw [decide_eq_decide];omega
 have M:(((u / 4503599627370496%2048*4503599627370496:Nat):Int)==(0:Int))=decide (u / 4503599627370496%2048=0):=by refine (nbeq _ 0).trans ?_;rw [decide_eq_decide];omega
 have O:(((u%4503599627370496:Nat):Int)==(0:Int))=decide (u%4503599627370496=0):=nbeq _ 0;unfold F253 ab8;simp only [U,V,H,M,O,bne];by_cases o:u / 4503599627370496%2048=2047
 ·have m:¬u / 4503599627370496%2048=0:=by omega
  by_cases d:u%4503599627370496=0
  ·rw [if_neg (by omega),if_pos (by omega)];simp [o,d]
  ·rw [if_pos (by omega)];simp [o,d]
 ·by_cases m:u / 4503599627370496%2048=0
  ·by_cases d:u%4503599627370496=0
   ·rw [if_neg (by omega),if_neg (by omega),if_pos (by omega)];simp [m,d]
   ·rw [if_neg (by omega),if_neg (by omega),if_neg (by omega),if_pos (by omega)];simp [m,d]
  ·rw [if_neg (by omega),if_neg (by omega),if_neg (by omega),if_neg (by omega)];simp [o,m]
def ab2 (u:Nat):Bo:=
 bif ab8 u==0 then [110,97,110] else bif ab8 u==1 then (bif decide (9223372036854775808<=u) then [45,105,110,102] else [105,110,102]) else [48,120]++hexN 16 u
theorem a01 (n:Nat):Lib.repeatL ([48]:Bo) n=List.replicate n 48:=by
 induction n with
 | zero=>rfl
 | succ n d=>rw [List.replicate_succ,<-d];rfl
theorem ap7 (u:Nat) (d:u<18446744073709551616):F149 0 (u:Int)=some (ab2 u):=by
 obtain ⟨V,H⟩:(hexF 16 u).length<=16/\List.replicate (16-(hexF 16 u).length) 48++hexF 16 u=hexN 16 u:=be5 15 u (by omega);have O:aez .and .u64 (u:Int) (9223372036854775808:Int)=((u / 9223372036854775808*9223372036854775808:Nat):Int):=by have:=ak7 u 9223372036854775808 d (by decide);rw [bd4 u d] at this;exact this
 have m:(((u / 9223372036854775808*9223372036854775808:Nat):Int) != (0:Int))=decide (9223372036854775808<=u):=by rw [show (((u / 9223372036854775808*9223372036854775808:Nat):Int) != (0:Int))=!(((u / 9223372036854775808*9223372036854775808:Nat):Int)==((0:Nat):Int)) from rfl,nbeq,<-decide_not,decide_eq_decide];omega
 have U:IntKind.wrap .i64 ((16:Int)-((hexF 16 u).length:Int))=((16-(hexF 16 u).length:Nat):Int):=by rw [show (16:Int)-((hexF 16 u).length:Int)=((16-(hexF 16 u).length:Nat):Int) by omega];exact aeu (by omega)
 have M:ah8 0 ([48]:Bo) ((16-(hexF 16 u).length:Nat):Int)=some (List.replicate (16-(hexF 16 u).length) 48):=by unfold ah8;rw [Aj (by omega),Aj (by omega),Ah,show Nat.ble (([48]:Bo).length*(16-(hexF 16 u).length)) 140737488355328=true by rw [Nat.ble_eq];simp;omega,a01];rfl
 have o:decide (([48,120]:Bo).length+(List.replicate (16-(hexF 16 u).length) (48:UInt8)).length<=aae)=true:=aqh (by simp;omega);have z:decide ((([48,120]:Bo)++List.replicate (16-(hexF 16 u).length) (48:UInt8)).length+(hexF 16 u).length<=aae)=true:=aqh (by simp;omega);unfold F149 ab2;simp only [awr u d,Aa,O,m,F135,fmt16 u d,U,M,o,z,An,H];cases ab8 u==0<;>cases ab8 u==1<;>cases decide (9223372036854775808<=u)<;>rfl
theorem bka:((List.range 256).all λb=>(((b:Int).fdiv (2^(min (4:Int).toNat (IntKind.bits .u8))))==((b / 16:Nat):Int))&&(aez .and .u8 (b:Int) (15:Int)==((b%16:Nat):Int)))=true:=by kernel_rfl
theorem nib {b:Nat} (h:b<256):(b:Int).fdiv (2^(min (4:Int).toNat (IntKind.bits .u8)))=((b / 16:Nat):Int)/\aez .and .u8 (b:Int) (15:Int)=((b%16:Nat):Int):=by have:=Bc.1 bka b (List.mem_range.2 h);simp only [Ag,Bi] at this;exact this
theorem bl4 (s:Bo) (Z:s.length<=1048576):F150 0 s=some (s.flatMap λb=>hex2 b.toNat):=by
 have h:=abf (step:=S150_4step 0) (λi (b:List PV)=>(s,b,(s.length:Int),(i:Int))) (λb=>b) s 0 (λd b=>d++[PV.int ((hexd (b.toNat / 16)).toNat:Int),PV.int ((hexd (b.toNat%16)).toNat:Int)]) (λi b=>b.length=2*i) (λi b H Y=>by
  have m:=(s.getD i 0).toNat_lt;obtain ⟨U,V⟩:=nib m;have W:aaa (((s.getD i 0).toNat / 16:Nat):Int) (([48,49,50,51,52,53,54,55,56,57,97,98,99,100,101,102]:Bo).length)=true:=by rw [aab];exact Aj (by show _<16;omega)
  have X:aaa (((s.getD i 0).toNat%16:Nat):Int) (([48,49,50,51,52,53,54,55,56,57,97,98,99,100,101,102]:Bo).length)=true:=by rw [aab];exact Aj (by show _<16;omega)
  have z:∀ x y:PV,decide (b.length+[x,y].length<=aai)=true:=λx y=>Aj (by unfold aai;simp;omega);refine ⟨?_,by simp;omega⟩;simp only [S150_4step,S150_4,abp,aab,H,decide_true,Ad,Ah,U,V,W,X,z,bdu (i:=i) (by omega)];rfl) (λb _=>by
  simp only [S150_4step,S150_4,abp,Nat.lt_irrefl,decide_false,Ae]) s.length 0 [] (by omega) rfl
 have e:∀ (l:Bo) (d:List PV),(l.foldl (λd b=>d++[PV.int ((hexd (b.toNat / 16)).toNat:Int),PV.int ((hexd (b.toNat%16)).toNat:Int)]) d).map aa3=d.map aa3++l.flatMap λb=>hex2 b.toNat:=by
  intro l;induction l with
  | nil=>intro d;simp
  | cons b r O=>intro d;rw [List.foldl_cons,O];simp [aih,hex2]
 unfold F150;have M:IntKind.wrap .i64 ((2:Int)*(s.length:Int))=((2*s.length:Nat):Int):=by rw [show (2:Int)*(s.length:Int)=((2*s.length:Nat):Int) by omega];exact aeu (by omega)
 have o:decide ((0:Int)<=((2*s.length:Nat):Int)/\((2*s.length:Nat):Int)<=aai)=true:=Aj (by unfold aai;omega);rw [A4] at h;simp only [M,o,Ad,aaq];rw [show (0:Int)=((0:Nat):Int) from rfl,h.1,Aa,e];rfl
theorem ajn (s:Bo):(s.flatMap λb=>hex2 b.toNat).length=2*s.length:=by
 induction s with
 | nil=>rfl
 | cons b r d=>rw [List.flatMap_cons,Al,d];simp [hex2];omega
def af5 (v:PV):Bo:=
 bif ac4 (aa9 v) v then
  (bif aa9 v==6 then ab2 (aam v).toNat else bif aa9 v==8 then [120]++abi ((abn v).flatMap λb=>hex2 b.toNat) else amm v)
 else []
theorem text6 {v:PV} (h:ac4 (aa9 v) v=false):amm v=[]:=by unfold amm;rw [h];rfl
theorem amy {v:PV} (h:ac4 (aa9 v) v=true) (d:aa9 v=8):(abn v).length<=4096:=by unfold ac4 at h;rw [d] at h;simp only [Ag,afi] at h;have:=h.2;simp at this;exact this.2
theorem bg7 (v:PV) (Y:aea v):F73 0 v=some (af5 v):=by
 obtain ⟨U,z,d,m⟩:=Y;by_cases M:aa9 v=6
 ·obtain ⟨u,Z⟩:∃ u:Nat,aam v=(u:Int):=⟨(aam v).toNat,(Int.toNat_of_nonneg d).symm⟩;have H:(v.fld 0).asInt=aa9 v:=rfl;have V:(v.fld 1).asInt=aam v:=rfl;unfold F73 af5;simp only [H,V,ahr _ _ ⟨U,z,d,m⟩,Aa,Z,ap7 u (by omega),M,Ah];cases ac4 6 v<;>rfl
 ·by_cases o:aa9 v=8
  ·have H:(v.fld 0).asInt=aa9 v:=rfl;have W:(v.fld 2).asStr=abn v:=rfl;unfold F73 af5;simp only [H,W,ahr _ _ ⟨U,z,d,m⟩,Aa];cases O:ac4 (aa9 v) v with
   | false=>rfl
   | true=>have h4:=amy O o;have X:=adw ((abn v).flatMap λb=>hex2 b.toNat);rw [ajn] at X;have g:decide (([120]:Bo).length+(abi ((abn v).flatMap λb=>hex2 b.toNat)).length<=aae)=true:=aqh (by simp;omega);simp only [o,bl4 _ z,agl _ (show ((abn v).flatMap λb=>hex2 b.toNat).length<=1048576 by rw [ajn];omega),Aa,g];rfl
  ·rw [bdi v ⟨U,z,d,m⟩ M o];unfold af5;cases O:ac4 (aa9 v) v with
   | false=>rw [text6 O];rfl
   | true=>have k6:(aa9 v==(6:Int))=false:=beqI M;have k8:(aa9 v==(8:Int))=false:=beqI o;rw [k6,k8];rfl
theorem bdh (v:PV) (H:(abn v).length<=1048576):(af5 v).length<=4194400:=by
 have d:=arq v H;have M:(ab2 (aam v).toNat).length<=20:=by unfold ab2;have:=ali 16 (aam v).toNat;cases ab8 (aam v).toNat==0<;>cases ab8 (aam v).toNat==1<;>cases decide (9223372036854775808<=(aam v).toNat)<;>simp [this]
 unfold af5;cases o:ac4 (aa9 v) v with
 | false=>simp
 | true=>
  simp only [Ad];cases aa9 v==6 with
  | true=>simp only [Ad];omega
  | false=>
   simp only [Ae];cases m:aa9 v==8 with
   | false=>simp only [Ae];exact d
   | true=>have O:=amy o (by simpa using m);have z:=adw ((abn v).flatMap λb=>hex2 b.toNat);rw [ajn] at z;simp only [Ad,Al,Ak,Aq];omega
end Go.Ab
namespace Go.Ab
open Go
set_option maxRecDepth 100000
theorem evG (l:List PV) (p:PV->Bool) (d:PV->Option (Bool×Unit)) (step:(List PV×Unit×Int×Int×Unit)->Option ((List PV×Unit×Int×Int×Unit)⊕((Int×Unit)⊕Unit))) (V:l.length<=1048576) (h:∀ x,x∈l->d x=some (!p x,()))
 (O:∀ a:Int,step (l,(),(l.length:Int),a,())=bif decide (a<(l.length:Int)) then (bif aaa a l.length then (d (l.getD a.toNat .bad)).bind λy=>bif y.1 then some (.inr (.inl (a,()))) else some (.inl (l,(),(l.length:Int),(IntKind.wrap .i64 (a+(1:Int))),())) else none) else some (.inr (.inr ()))):
 ((((aa7 step (l,(),(l.length:Int),(0:Int),())).bind λz=>sumE (λy=>some (y.1,())) (λ_=>some ((-1:Int),())) z).bind λy=>some (decide (y.1>=(0:Int)),())).bind λy=>some (!y.1))=some (l.all p):=by
 obtain ⟨r,U,m,o⟩:=ahu (step:=step) (λi=>(l,(),(l.length:Int),(i:Int),())) l.length (λi=>p (l.getD i .bad)) (λi=>(Sum.inl ((i:Int),()):(Int×Unit)⊕Unit)) (Sum.inr ()) (λi M=>by simp only [O,aby,aab,M,decide_true,Ad,Ah,h _ (ab7 M .bad),Aa,abx (i:=i) (by omega)];cases p (l.getD i .bad)<;>rfl) (by simp only [O,aby,Nat.lt_irrefl,decide_false,Ae]) l.length 0 (by omega)
 rw [apn] at m o
 rw [show (0:Int)=((0:Nat):Int) from rfl,U]
 cases H:l.all p with
 | true=>rw [m H];rfl
 | false=>
  obtain ⟨j,_,_,rfl⟩:=o H
  simp [sumE]
theorem ev_nf (l:List PV) (p:PV->Bool) (d:l.length<=1048576) (h:∀ x,x∈l->F164 0 x=some (p x)):F163 0 l ()=some (l.all p):=
 evG l p (λx=>F265 0 x () ()) (S327_3step 0) d (λx m=>by show (F164 0 x).bind _=_;rw [h x m];rfl) (λ_=>rfl)
theorem ev_nm (l:List PV) (p:PV->Bool) (d:l.length<=1048576) (h:∀ x,x∈l->F162 0 x=some (p x)):F161 0 l ()=some (l.all p):=
 evG l p (λx=>F263 0 x () ()) (S326_3step 0) d (λx m=>by show (F162 0 x).bind _=_;rw [h x m];rfl) (λ_=>rfl)
theorem ev_ni (l:List PV) (p:PV->Bool) (d:l.length<=1048576) (h:∀ x,x∈l->F170 0 x=some (p x)):F169 0 l ()=some (l.all p):=
 evG l p (λx=>F270 0 x () ()) (S329_3step 0) d (λx m=>by show (F170 0 x).bind _=_;rw [h x m];rfl) (λ_=>rfl)
theorem ev_ne (l:List PV) (p:PV->Bool) (d:l.length<=1048576) (h:∀ x,x∈l->F168 0 x=some (p x)):F167 0 l ()=some (l.all p):=
 evG l p (λx=>F268 0 x () ()) (S328_3step 0) d (λx m=>by show (F168 0 x).bind _=_;rw [h x m];rfl) (λ_=>rfl)
theorem ev_nd (l:List PV) (p:PV->Bool) (d:l.length<=1048576) (h:∀ x,x∈l->F174 0 x=some (p x)):F173 0 l ()=some (l.all p):=
 evG l p (λx=>F274 0 x () ()) (S331_3step 0) d (λx m=>by show (F174 0 x).bind _=_;rw [h x m];rfl) (λ_=>rfl)
theorem ev_ns (l:List PV) (p:PV->Bool) (d:l.length<=1048576) (h:∀ x,x∈l->F172 0 x=some (p x)):F171 0 l ()=some (l.all p):=
 evG l p (λx=>F272 0 x () ()) (S330_3step 0) d (λx m=>by show (F172 0 x).bind _=_;rw [h x m];rfl) (λ_=>rfl)
theorem ev_af (l:List PV) (p:PV->Bool) (d:l.length<=1048576) (h:∀ x,x∈l->F177 0 x=some (p x)):F163_v1 0 l ()=some (l.all p):=
 evG l p (λx=>F265_v1 0 x () ()) (S327_v1_3step 0) d (λx m=>by show (F177 0 x).bind _=_;rw [h x m];rfl) (λ_=>rfl)
theorem ev_am (l:List PV) (p:PV->Bool) (d:l.length<=1048576) (h:∀ x,x∈l->F176 0 x=some (p x)):F161_v1 0 l ()=some (l.all p):=
 evG l p (λx=>F263_v1 0 x () ()) (S326_v1_3step 0) d (λx m=>by show (F176 0 x).bind _=_;rw [h x m];rfl) (λ_=>rfl)
theorem ev_ai (l:List PV) (p:PV->Bool) (d:l.length<=1048576) (h:∀ x,x∈l->F181 0 x=some (p x)):F169_v1 0 l ()=some (l.all p):=
 evG l p (λx=>F270_v1 0 x () ()) (S329_v1_3step 0) d (λx m=>by show (F181 0 x).bind _=_;rw [h x m];rfl) (λ_=>rfl)
theorem ev_ae (l:List PV) (p:PV->Bool) (d:l.length<=1048576) (h:∀ x,x∈l->F180 0 x=some (p x)):F167_v1 0 l ()=some (l.all p):=
 evG l p (λx=>F268_v1 0 x () ()) (S328_v1_3step 0) d (λx m=>by show (F180 0 x).bind _=_;rw [h x m];rfl) (λ_=>rfl)
theorem ev_ad (l:List PV) (p:PV->Bool) (d:l.length<=1048576) (h:∀ x,x∈l->F183 0 x=some (p x)):F173_v1 0 l ()=some (l.all p):=
 evG l p (λx=>F274_v1 0 x () ()) (S331_v1_3step 0) d (λx m=>by show (F183 0 x).bind _=_;rw [h x m];rfl) (λ_=>rfl)
theorem ev_as (l:List PV) (p:PV->Bool) (d:l.length<=1048576) (h:∀ x,x∈l->F182 0 x=some (p x)):F171_v1 0 l ()=some (l.all p):=
 evG l p (λx=>F272_v1 0 x () ()) (S330_v1_3step 0) d (λx m=>by show (F182 0 x).bind _=_;rw [h x m];rfl) (λ_=>rfl)
theorem ev_tx (l:List PV) (p:PV->Bool) (d:l.length<=1048576) (h:∀ x,x∈l->F185 0 x.asStr=some (p x)):F184 0 l ()=some (l.all p):=
 evG l p (λx=>F279 0 x.asStr () ()) (S325_v1_3step 0) d (λx m=>by show (F185 0 x.asStr).bind _=_;rw [h x m];rfl) (λ_=>rfl)
theorem ev_tm (l:List PV) (p:PV->Bool) (d:l.length<=1048576) (h:∀ x,x∈l->F186 0 x=some (p x)):F161_v2 0 l ()=some (l.all p):=
 evG l p (λx=>F263_v2 0 x () ()) (S326_v2_3step 0) d (λx m=>by show (F186 0 x).bind _=_;rw [h x m];rfl) (λ_=>rfl)
theorem ev_cm (l:List PV) (p:PV->Bool) (d:l.length<=1048576) (h:∀ x,x∈l->F187 0 x=some (p x)):F161_v3 0 l ()=some (l.all p):=
 evG l p (λx=>F263_v3 0 x () ()) (S326_v3_3step 0) d (λx m=>by show (F187 0 x).bind _=_;rw [h x m];rfl) (λ_=>rfl)
theorem ev_ce (l:List PV) (p:PV->Bool) (d:l.length<=1048576) (h:∀ x,x∈l->F188 0 x=some (p x)):F167_v2 0 l ()=some (l.all p):=
 evG l p (λx=>F268_v2 0 x () ()) (S328_v2_3step 0) d (λx m=>by show (F188 0 x).bind _=_;rw [h x m];rfl) (λ_=>rfl)
theorem ev_cs (l:List PV) (p:PV->Bool) (d:l.length<=1048576) (h:∀ x,x∈l->F189 0 x=some (p x)):F171_v2 0 l ()=some (l.all p):=
 evG l p (λx=>F272_v2 0 x () ()) (S330_v2_3step 0) d (λx m=>by show (F189 0 x).bind _=_;rw [h x m];rfl) (λ_=>rfl)
end Go.Ab
namespace Go.Ab
open Go
set_option maxRecDepth 100000
noncomputable def kw (k:Int):Bo:=(F20 0 k).getD []
theorem bjr {k:Int} (h:1<=k) (d:k<=8):k=1\/k=2\/k=3\/k=4\/k=5\/k=6\/k=7\/k=8:=by omega
theorem bju {k:Int} (h:k<1\/8<k):(bif (decide (k<(1:Int))) then true else (decide (k>(8:Int))))=true:=by
 rcases h with h | h
 ·rw [Aj h];rfl
 ·rw [Am (by omega),Aj (by omega)];rfl
theorem bh3 {k:Int} (h:k<1\/8<k):F20 0 k=some []:=by unfold F20;rw [bju h];rfl
theorem bmb (k:Int):F20 0 k=some (kw k):=by
 unfold kw;by_cases h:k<1\/8<k
 ·rw [bh3 h];rfl
 ·rcases bjr (k:=k) (by omega) (by omega) with rfl | rfl | rfl | rfl | rfl | rfl | rfl | rfl<;>kernel_rfl
theorem bjt:((List.range 8).all λi=>Nat.ble (kw ((i:Int)+1)).length 10&&!(kw ((i:Int)+1)==[]))=true:=by kernel_rfl
theorem bl9 {k:Int} (h:¬(k<1\/8<k)):(kw k).length<=10/\kw k≠[]:=by obtain ⟨i,d,rfl⟩:∃ i:Nat,i<8/\k=(i:Int)+1:=⟨(k-1).toNat,by omega,by omega⟩;have:=Bc.1 bjt i (List.mem_range.2 d);simp only [Ag,Nat.ble_eq,Bool.not_eq_true',Aw] at this;exact this
theorem bbb (k:Int):(kw k).length<=10:=by
 by_cases h:k<1\/8<k
 ·unfold kw;rw [bh3 h];simp
 ·exact (bl9 h).1
def adv (k:Int):Bool:=decide (1<=k)&&decide (k<=8)
theorem avg (k:Int):F266 0 k=some (adv k):=by unfold F266 adv;have:decide (k>=(1:Int))=decide (1<=k):=rfl;rw [this];cases decide (1<=k)<;>rfl
noncomputable def noKw (s:Bo):Bool:=allF (λi=>!(kw ((i:Int)+1)==s)) 0 8
theorem bho:((List.range 8).all λi=>(((F49 0).getD .bad).fld i).asStr==kw ((i:Int)+1))=true:=by kernel_rfl
theorem bk6 {i:Nat} (h:i<8):(((F49 0).getD .bad).fld i).asStr=kw ((i:Int)+1):=by have:=Bc.1 bho i (List.mem_range.2 h);simpa using this
theorem bfk (s:Bo):∃ k,F18 0 s=some k/\(k==(0:Int))=noKw s:=by
 have V:F49 0=some ((F49 0).getD .bad):=rfl;obtain ⟨r,z,H,M⟩:=ahu (step:=S18_3step 0) (λi=>(s,(F49 0).getD .bad,(i:Int))) 8 (λi=>!(kw ((i:Int)+1)==s)) (λi=>(Sum.inl ((i:Int)+1):Int⊕Unit)) (Sum.inr ()) (λi o=>by
  have O:decide ((i:Int)<(8:Int))=true:=Aj (by omega);have d:IntKind.wrap .i64 ((i:Int)+(1:Int))=(i:Int)+1:=adx (by omega) (by omega);have U:aaa (i:Int) 8=true:=by rw [aab];exact Aj o
  simp only [S18_3step,S18_3,O,U,Ad,Ah,bk6 o,d];cases (kw ((i:Int)+1)==s)<;>rfl) rfl 8 0 (by omega)
 unfold F18;rw [V,Aa,aaq,show (0:Int)=((0:Nat):Int) from rfl,z];unfold noKw;cases m:allF (λi=>!(kw ((i:Int)+1)==s)) 0 8 with
 | true=>exact ⟨0,by rw [H m];rfl,rfl⟩
 | false=>obtain ⟨j,_,_,rfl⟩:=M m;exact ⟨(j:Int)+1,rfl,by show (((j:Int)+1)==0)=false;rw [Aw];omega⟩
theorem ak0 (s:Bo) (O:s.length<=1048576):((F141 0 s ([46]:Bo)).bind λV=>(F140 0 V).bind λW=>some W)=some (ac5 s):=by
 have U:F141 0 s ([46]:Bo)=some (match s with | []=>[] | c::r=>bif c==46 then r else c::r):=by
  unfold F141 F245 F297;cases s with
  | nil=>rfl
  | cons c r=>
   have d:decide (((c::r).length:Int)>=(([46]:Bo).length:Int))=true:=Aj (by simp only [Ak,Aq];omega);have m:decide ((0:Int)<=(0:Int)/\(0:Int)<=(([46]:Bo).length:Int)/\(([46]:Bo).length:Int)<=((c::r).length:Int))=true:=Aj (by simp only [Ak,Aq];omega);have o:decide ((0:Int)<=(([46]:Bo).length:Int)/\(([46]:Bo).length:Int)<=((c::r).length:Int)/\((c::r).length:Int)<=((c::r).length:Int))=true:=Aj (by simp only [Ak,Aq];omega);have z:(((c::r).take (([46]:Bo).length:Int).toNat).drop (0:Int).toNat==([46]:Bo))=(c==46):=by show ([c]==([46]:Bo))=_;simp
   have H:(((c::r).take ((c::r).length:Int).toNat).drop (([46]:Bo).length:Int).toNat)=r:=by show ((c::r).take (c::r).length).drop 1=r;rw [List.take_length];rfl
   simp only [d,m,o,z,H,imp,Ad,Aa];cases (c==46)<;>rfl
 rw [U,Aa];cases s with
 | nil=>rw [aiv _ (by simp)];rfl
 | cons c r=>
  have M:(bif c==46 then r else c::r).length<=1048576:=by
   simp only [Ak] at O;cases (c==46)
   ·simp only [Ae,Ak];omega
   ·simp only [Ad];omega
  simp only [aiv _ M,Aa,ac5];cases (c==46)<;>rfl
theorem alm (s:Bo) (d:s.length<=1048576):F175 0 s=some (ac5 s):=ak0 s d
noncomputable def tnP (t:PV):Bool:=bif adv (t.fld 0).asInt then (t.fld 1).asStr==[] else ac5 (t.fld 1).asStr&&noKw (t.fld 1).asStr
theorem a1m (t:PV) (o:(t.fld 1).asStr.length<=1048576):F166 0 t=some (tnP t):=by
 obtain ⟨k,d,m⟩:=bfk (t.fld 1).asStr;unfold F166 tnP;simp only [avg,Aa,alm _ o,d];cases adv (t.fld 0).asInt with
 | true=>rfl
 | false=>
  cases ac5 (t.fld 1).asStr with
  | false=>rfl
  | true=>simp only [Ad,Ae,Aa,m,Bool.true_and]
structure OkFld (x:PV):Prop where
 name:(x.fld 1).asStr.length<=1048576
 type:((x.fld 4).fld 1).asStr.length<=1048576
 union:(x.fld 5).asStr.length<=1048576
 dflt:aea (x.fld 7)
 notes:(x.fld 8).asList.length<=1048576
 note:∀ n,n∈(x.fld 8).asList->acj n
structure OkMsg (m:PV):Prop where
 name:(m.fld 0).asStr.length<=1048576
 fields:(m.fld 1).asList.length<=1048576
 field:∀ x,x∈(m.fld 1).asList->OkFld x
 spans:(m.fld 2).asList.length<=1048576
 gone:(m.fld 3).asList.length<=1048576
 goneS:∀ x,x∈(m.fld 3).asList->x.asStr.length<=1048576
 notes:(m.fld 4).asList.length<=1048576
 note:∀ n,n∈(m.fld 4).asList->acj n
structure OkItem (x:PV):Prop where
 name:(x.fld 0).asStr.length<=1048576
 notes:(x.fld 2).asList.length<=1048576
 note:∀ n,n∈(x.fld 2).asList->acj n
structure OkEnum (m:PV):Prop where
 name:(m.fld 0).asStr.length<=1048576
 items:(m.fld 2).asList.length<=1048576
 item:∀ x,x∈(m.fld 2).asList->OkItem x
 spans:(m.fld 3).asList.length<=1048576
 notes:(m.fld 4).asList.length<=1048576
 note:∀ n,n∈(m.fld 4).asList->acj n
structure OkMeth (x:PV):Prop where
 name:(x.fld 0).asStr.length<=1048576
 inn:(x.fld 1).asStr.length<=1048576
 out:(x.fld 2).asStr.length<=1048576
 notes:(x.fld 4).asList.length<=1048576
 note:∀ n,n∈(x.fld 4).asList->acj n
structure OkSvc (m:PV):Prop where
 name:(m.fld 0).asStr.length<=1048576
 meths:(m.fld 1).asList.length<=1048576
 meth:∀ x,x∈(m.fld 1).asList->OkMeth x
 notes:(m.fld 2).asList.length<=1048576
 note:∀ n,n∈(m.fld 2).asList->acj n
def aeh (l:List PV) (i:Nat):Nat:=(l.map λm=>(m.fld i).asList.length+1).sum
structure OkFile (f:PV):Prop where
 space:(f.fld 1).asStr.length<=1048576
 imports:(f.fld 2).asList.length<=1048576
 importS:∀ x,x∈(f.fld 2).asList->x.asStr.length<=1048576
 msgs:(f.fld 3).asList.length<=1048576
 msg:∀ x,x∈(f.fld 3).asList->OkMsg x
 enums:(f.fld 4).asList.length<=1048576
 enum:∀ x,x∈(f.fld 4).asList->OkEnum x
 svcs:(f.fld 5).asList.length<=1048576
 svc:∀ x,x∈(f.fld 5).asList->OkSvc x
 many:aeh (f.fld 3).asList 1+aeh (f.fld 4).asList 2+aeh (f.fld 5).asList 1<=7000000
noncomputable def au4 (x:PV):Bool:=af4 (x.fld 1).asStr&&((x.fld 5).asStr==[]||af4 (x.fld 5).asStr)&&tnP (x.fld 4)
noncomputable def a6w (m:PV):Bool:=defP (m.fld 0).asStr&&(m.fld 1).asList.all au4
noncomputable def a3c (x:PV):Bool:=af4 (x.fld 0).asStr
noncomputable def as0 (m:PV):Bool:=defP (m.fld 0).asStr&&(m.fld 2).asList.all a3c
def strm:Bo:=[115,116,114,101,97,109]
noncomputable def as1 (x:PV):Bool:=af4 (x.fld 0).asStr&&ac5 (x.fld 1).asStr&&ac5 (x.fld 2).asStr&&!((x.fld 1).asStr==strm)&&!((x.fld 2).asStr==strm)
noncomputable def a6x (m:PV):Bool:=defP (m.fld 0).asStr&&(m.fld 1).asList.all as1
noncomputable def al3 (f:PV):Bool:=((f.fld 1).asStr==[]||defP (f.fld 1).asStr)&&(f.fld 3).asList.all a6w&&(f.fld 4).asList.all as0&&(f.fld 5).asList.all a6x
theorem bfy (x:PV) (h:OkFld x):F164 0 x=some (au4 x):=by unfold F164 au4;simp only [ajp,Aa,a1m _ h.type];generalize af4 (x.fld 1).asStr=a;generalize af4 (x.fld 5).asStr=b;generalize ((x.fld 5).asStr==([]:Bo))=c;generalize tnP (x.fld 4)=d;cases a<;>cases b<;>cases c<;>cases d<;>rfl
theorem bf1 (m:PV) (h:OkMsg m):F162 0 m=some (a6w m):=by unfold F162 a6w;simp only [ao1 _ h.name,Aa,ev_nf _ au4 h.fields λx d=>bfy x (h.field x d)];cases defP (m.fld 0).asStr<;>rfl
theorem bbv (x:PV):F170 0 x=some (a3c x):=by unfold F170 a3c;simp only [ajp,Aa]
theorem bbu (m:PV) (h:OkEnum m):F168 0 m=some (as0 m):=by unfold F168 as0;simp only [ao1 _ h.name,Aa,ev_ni _ a3c h.items λx d=>bbv x];cases defP (m.fld 0).asStr<;>rfl
theorem bbw (x:PV) (h:OkMeth x):F174 0 x=some (as1 x):=by unfold F174 as1 strm;simp only [ajp,Aa,alm _ h.inn,alm _ h.out];generalize af4 (x.fld 0).asStr=a;generalize ac5 (x.fld 1).asStr=b;generalize ac5 (x.fld 2).asStr=c;generalize ((x.fld 1).asStr==([115,116,114,101,97,109]:Bo))=d;generalize ((x.fld 2).asStr==([115,116,114,101,97,109]:Bo))=e;cases a<;>cases b<;>cases c<;>cases d<;>cases e<;>rfl
theorem bf2 (m:PV) (h:OkSvc m):F172 0 m=some (a6x m):=by unfold F172 a6x;simp only [ao1 _ h.name,Aa,ev_nd _ as1 h.meths λx d=>bbw x (h.meth x d)];cases defP (m.fld 0).asStr<;>rfl
theorem bfw (f:PV) (h:OkFile f):F80 0 f=some (al3 f):=by unfold F80 al3;simp only [ao1 _ h.space,Aa,ev_nm _ a6w h.msgs λx m=>bf1 x (h.msg x m),ev_ne _ as0 h.enums λx m=>bbu x (h.enum x m),ev_ns _ a6x h.svcs λx m=>bf2 x (h.svc x m)];generalize ((f.fld 1).asStr==([]:Bo))=a;generalize defP (f.fld 1).asStr=b;generalize (f.fld 3).asList.all a6w=c;generalize (f.fld 4).asList.all as0=d;generalize (f.fld 5).asList.all a6x=e;cases a<;>cases b<;>cases c<;>cases d<;>cases e<;>rfl
end Go.Ab
namespace Go.Ab
open Go
set_option maxRecDepth 100000
theorem axo (v:PV) (d:vLists v<=1048576):IntKind.wrap .i64 ((IntKind.wrap .i64 ((IntKind.wrap .i64 ((((v.fld 3).asList).length:Int)+(((v.fld 4).asList).length:Int)))+(((v.fld 5).asList).length:Int)))+(((v.fld 6).asList).length:Int))=((vLists v:Nat):Int):=by unfold vLists at d ⊢;have m:IntKind.wrap .i64 (((v.fld 3).asList.length:Int)+((v.fld 4).asList.length:Int))=(((v.fld 3).asList.length+(v.fld 4).asList.length:Nat):Int):=wadd (by omega);have o:IntKind.wrap .i64 ((((v.fld 3).asList.length+(v.fld 4).asList.length:Nat):Int)+((v.fld 5).asList.length:Int))=(((v.fld 3).asList.length+(v.fld 4).asList.length+(v.fld 5).asList.length:Nat):Int):=wadd (by omega);have z:IntKind.wrap .i64 ((((v.fld 3).asList.length+(v.fld 4).asList.length+(v.fld 5).asList.length:Nat):Int)+((v.fld 6).asList.length:Int))=(((v.fld 3).asList.length+(v.fld 4).asList.length+(v.fld 5).asList.length+(v.fld 6).asList.length:Nat):Int):=wadd (by omega);rw [m,o,z]
def isV (k b:Int) (s:Bo) (v:PV):Bool:=(aa9 v==k)&&(aam v==b)&&(abn v==s)&&decide (vLists v=0)
theorem ba0 (v:PV) (d:aea v):F332 0 v=some (isV 0 0 [] v):=by have e:(((vLists v:Nat):Int)==(0:Int))=decide (vLists v=0):=nbeq _ 0;unfold F332 isV;rw [axo v d.1,e];have m:(v.fld 0).asInt=aa9 v:=rfl;have o:(v.fld 1).asInt=aam v:=rfl;have z:(v.fld 2).asStr=abn v:=rfl;grind
noncomputable def aln (v:PV):Bool:=(aa9 v==9)&&af4 (abn v)&&(aam v==0)&&decide (vLists v=0)
theorem a3b (v:PV) (z:aea v):F333 0 v=some (aln v):=by have e:(((vLists v:Nat):Int)==(0:Int))=decide (vLists v=0):=nbeq _ 0;have d:(v.fld 0).asInt=aa9 v:=rfl;have m:(v.fld 1).asInt=aam v:=rfl;have o:(v.fld 2).asStr=abn v:=rfl;unfold F333 aln;simp only [axo v z.1,e,d,m,o,ajp];grind
def a6y (v:PV):Int:=bif (aa9 v==6)&&(ab8 (aam v).toNat==0) then 9221120237041090560 else aam v
theorem bd9 {v:PV} (m:aea v):∃ u:Nat,aam v=(u:Int)/\u<18446744073709551616:=by obtain ⟨_,_,d,o⟩:=m;exact ⟨(aam v).toNat,(Int.toNat_of_nonneg d).symm,by omega⟩
theorem bkb (v:PV) (z:aea v):∃ w,F334 0 v=some w/\(w.fld 1).asInt=a6y v:=by
 obtain ⟨u,H,d⟩:=bd9 z;have m:(v.fld 0).asInt=aa9 v:=rfl;have o:(v.fld 1).asInt=aam v:=rfl;unfold F334 a6y;simp only [m,o,H,awr u d,Ah];cases (aa9 v==(6:Int)) with
 | false=>grind
 | true=>
  cases h:ab8 u==(0:Int) with
  | false=>grind
  | true=>exact ⟨_,by simp [h];rfl,rfl⟩
noncomputable def amg (x:PV):Bool:=
 bif !(x.fld 6).asBool then isV 0 0 [] (x.fld 7) else bif (x.fld 2).asInt==5 then false else bif ((x.fld 4).fld 0).asInt==0 then aln (x.fld 7) else ac4 ((x.fld 4).fld 0).asInt (x.fld 7)&&(a6y (x.fld 7)==aam (x.fld 7))
theorem bcr (x:PV) (h:OkFld x):F276 0 x=some (amg x):=by obtain ⟨w,m,o⟩:=bkb _ h.dflt;have d:((x.fld 7).fld 1).asInt=aam (x.fld 7):=rfl;unfold F276 amg;simp only [ba0 _ h.dflt,a3b _ h.dflt,m,ahr _ _ h.dflt,Aa,o,d];grind
def keyF (c k:Int):Bool:=bif c != 5 then k==0 else (decide (1<=k/\k<=5)||k==7)
theorem bjq (c k:Int):F275 0 c k=some (keyF c k):=by
 unfold F275 keyF;cases (c != (5:Int)) with
 | true=>rfl
 | false=>
  have e:(bif (bif (decide (k>=(1:Int))) then (decide (k<=(7:Int))) else false) then (k != (6:Int)) else false)=(decide (1<=k/\k<=5)||k==7):=by grind
  grind
def a3m (x:PV):Bool:=decide (0<=(x.fld 0).asInt/\(x.fld 0).asInt<=65535/\1<=(x.fld 2).asInt/\(x.fld 2).asInt<=5/\0<=((x.fld 4).fld 0).asInt/\((x.fld 4).fld 0).asInt<=8)
def a4f (x:PV):Bool:=((x.fld 5).asStr==[])||(((x.fld 2).asInt==2)&&!(x.fld 6).asBool)
noncomputable def agr (x:PV):Bool:=a3m x&&keyF (x.fld 2).asInt (x.fld 3).asInt&&a4f x&&amg x
theorem a97 (x:PV) (h:OkFld x):F177 0 x=some (agr x):=by
 have e:(bif (bif (bif (decide ((x.fld 0).asInt>=(0:Int))) then (decide ((x.fld 0).asInt<=(65535:Int))) else false) then (decide ((x.fld 2).asInt>=(1:Int))) else false) then (decide ((x.fld 2).asInt<=(5:Int))) else false)=decide (0<=(x.fld 0).asInt/\(x.fld 0).asInt<=65535/\1<=(x.fld 2).asInt/\(x.fld 2).asInt<=5):=by grind
 have d:((((x.fld 4).fld 0).asInt==(0:Int))||adv ((x.fld 4).fld 0).asInt)=decide (0<=((x.fld 4).fld 0).asInt/\((x.fld 4).fld 0).asInt<=8):=by unfold adv;grind
 unfold F177 agr a3m;simp only [e,bjq,avg,bcr x h];rw [show decide (0<=(x.fld 0).asInt/\(x.fld 0).asInt<=65535/\1<=(x.fld 2).asInt/\(x.fld 2).asInt<=5/\0<=((x.fld 4).fld 0).asInt/\((x.fld 4).fld 0).asInt<=8)=(decide (0<=(x.fld 0).asInt/\(x.fld 0).asInt<=65535/\1<=(x.fld 2).asInt/\(x.fld 2).asInt<=5)&&decide (0<=((x.fld 4).fld 0).asInt/\((x.fld 4).fld 0).asInt<=8)) by grind,<-d];unfold a4f;generalize decide (0<=(x.fld 0).asInt/\(x.fld 0).asInt<=65535/\1<=(x.fld 2).asInt/\(x.fld 2).asInt<=5)=m;generalize keyF (x.fld 2).asInt (x.fld 3).asInt=o;generalize (((x.fld 4).fld 0).asInt==(0:Int))=z;generalize adv ((x.fld 4).fld 0).asInt=H;generalize ((x.fld 5).asStr==([]:Bo))=M;generalize ((x.fld 2).asInt==(2:Int))=O;generalize (x.fld 6).asBool=U;generalize amg x=V;cases m<;>cases o<;>cases z<;>cases H<;>cases M<;>cases O<;>cases U<;>cases V<;>rfl
def un (l:List PV) (i:Nat):Bo:=((l.getD i .bad).fld 5).asStr
def apart (l:List PV) (i k:Nat):Bool:=(un l k==un l i)&&!(un l i==[])&&!(un l (i-1)==un l i)
def adjP (l:List PV):Bool:=allF (λi=>allF (λk=>!apart l i k) 0 i) 0 l.length
theorem blg (l:List PV) (V:l.length<=1048576) (i:Nat) (o:i<l.length):aa7 (S178_6step 0) (l,(i:Int),(l.length:Int),(i:Int),(i:Int),(0:Int))=some (bif allF (λk=>!apart l i k) 0 i then .inr (l,(l.length:Int),(i:Int)) else .inl false):=
 aix (step:=S178_6step 0) (λk=>(l,(i:Int),(l.length:Int),(i:Int),(i:Int),(k:Int))) i (λk=>!apart l i k) (Sum.inl false:Bool⊕(List PV×Int×Int)) (Sum.inr (l,(l.length:Int),(i:Int))) (λk z=>by
  have m:k<l.length:=by omega
  have H:IntKind.wrap .i64 ((i:Int)-(1:Int))=((i-1:Nat):Int):=by grind [aeu]
  have d:i-1<l.length:=by omega
  have M:((l.getD k .bad).fld 5).asStr=un l k:=rfl;have O:((l.getD i .bad).fld 5).asStr=un l i:=rfl;have U:((l.getD (i-1) .bad).fld 5).asStr=un l (i-1):=rfl;simp only [S178_6step,S178_6,abp,z,aab,m,o,d,H,decide_true,Ad,Ah,M,O,U,abx (i:=k) (by omega)];grind [apart,imp,un]) (by
  simp only [S178_6step,S178_6,abp,Nat.lt_irrefl,decide_false,Ae]) i 0 (by omega)
theorem ay9 (l:List PV) (m:l.length<=1048576):F178 0 l=some (adjP l):=by
 have h:=aix (step:=S178_3step 0) (λi=>(l,(l.length:Int),(i:Int))) l.length (λi=>allF (λk=>!apart l i k) 0 i) (Sum.inl false:Bool⊕Unit) (Sum.inr ()) (λi d=>by
  simp only [S178_3step,S178_3,abp,d,decide_true,Ad,aaq,blg l m i d,Aa];cases allF (λk=>!apart l i k) 0 i with
  | false=>rfl
  | true=>simp only [Ad,aba,abx (i:=i) (by omega)]) (by
  simp only [S178_3step,S178_3,abp,Nat.lt_irrefl,decide_false,Ae]) l.length 0 (by omega)
 unfold F178 adjP;rw [aaq,show (0:Int)=((0:Nat):Int) from rfl,h];cases allF (λi=>allF (λk=>!apart l i k) 0 i) 0 l.length<;>rfl
def ae7 (most:Int) (x:PV):Bool:=decide (0<=(x.fld 0).asInt/\(x.fld 0).asInt<=most/\0<=(x.fld 1).asInt/\(x.fld 1).asInt<=most)
theorem a3y (l:List PV) (O:l.length<=1048576) (most:Int):F179 0 l most=some (l.all (ae7 most)):=by
 have H:∀ i,F336 0 (l.getD i .bad) () () most=some (!(ae7 most (l.getD i .bad)),(),most):=λi=>by
  unfold F336 F278 ae7;generalize ((l.getD i .bad).fld 0).asInt=a;generalize ((l.getD i .bad).fld 1).asInt=b;have e:(bif (decide ((if b<a then b else a)>=(0:Int))) then (decide ((if b>a then b else a)<=most)) else false)=decide (0<=a/\a<=most/\0<=b/\b<=most):=by grind
  grind
 obtain ⟨r,z,d,m⟩:=ahu (step:=S369_3step 0) (λi=>(l,(),(l.length:Int),(i:Int),(),most)) l.length (λi=>ae7 most (l.getD i .bad)) (λi=>(Sum.inl ((i:Int),(),most):(Int×Unit×Int)⊕(Unit×Int))) (Sum.inr ((),most)) (λi M=>by
  simp only [S369_3step,S369_3,aby,aab,M,decide_true,Ad,Ah,H i,Aa,abx (i:=i) (by omega)];grind) (by
  simp only [S369_3step,S369_3,aby,Nat.lt_irrefl,decide_false,Ae]) l.length 0 (by omega)
 rw [apn] at d m;unfold F179 F277 F335 F369;rw [aaq,show (0:Int)=((0:Nat):Int) from rfl,z];cases o:l.all (ae7 most) with
 | true=>rw [d o];rfl
 | false=>obtain ⟨j,_,_,rfl⟩:=m o;simp [sumE]
noncomputable def apr (m:PV):Bool:=(m.fld 1).asList.all agr&&adjP (m.fld 1).asList&&(m.fld 2).asList.all (ae7 65535)
def at0 (x:PV):Bool:=decide ((x.fld 1).asInt>=0)&&decide ((x.fld 1).asInt<=2147483647)
def apq (m:PV):Bool:=(m.fld 3).asList.all (ae7 2147483647)&&(m.fld 2).asList.all at0
def at1 (x:PV):Bool:=decide ((x.fld 3).asInt>=1)&&decide ((x.fld 3).asInt<=4)
def awg (m:PV):Bool:=(m.fld 1).asList.all at1
noncomputable def aeo (f:PV):Bool:=(f.fld 3).asList.all apr&&(f.fld 4).asList.all apq&&(f.fld 5).asList.all awg
theorem a8u (m:PV) (h:OkMsg m):F176 0 m=some (apr m):=by unfold F176 apr;simp only [ev_af _ agr h.fields λx d=>a97 x (h.field x d),ay9 _ h.fields,a3y _ h.spans,Aa];grind
theorem a4r (m:PV) (h:OkEnum m):F180 0 m=some (apq m):=by unfold F180 apq;simp only [ev_ai _ at0 h.items λx d=>by unfold F181 at0;rw [aep],a3y _ h.spans,Aa];grind
theorem a8v (m:PV) (h:OkSvc m):F182 0 m=some (awg m):=by unfold F182 awg;simp only [ev_ad _ at1 h.meths λx d=>by unfold F183 at1;rw [aep],Aa]
theorem a7f (f:PV) (h:OkFile f):F81 0 f=some (aeo f):=by unfold F81 aeo;simp only [Aa,ev_am _ apr h.msgs λx d=>a8u x (h.msg x d),ev_ae _ apq h.enums λx d=>a4r x (h.enum x d),ev_as _ awg h.svcs λx d=>a8v x (h.svc x d)];grind
end Go.Ab
namespace Go.Ab
open Go
set_option maxRecDepth 100000
def txL (l:List PV):Bool:=l.all λx=>valid x.asStr
def bnj (m:PV):Bool:=txL (m.fld 3).asList
def ars (f:PV):Bool:=txL (f.fld 2).asList&&(f.fld 3).asList.all bnj
theorem bid (l:List PV) (d:l.length<=1048576):F184 0 l ()=some (txL l):=
 ev_tx l (λx=>valid x.asStr) d λx m=>aph _
theorem bg8 (f:PV) (h:OkFile f):F82 0 f=some (ars f):=by unfold F82 ars;simp only [bid _ h.imports,Aa,ev_tm _ bnj h.msgs λx d=>by unfold F186;rw [bid _ (h.msg x d).gone];rfl];grind
def asn (m:PV):Bool:=decide ((m.fld 1).asList.length<=64)&&decide ((m.fld 2).asList.length<=16)&&decide ((m.fld 3).asList.length<=16)
def ams (m:PV):Bool:=decide ((m.fld 2).asList.length<=64)&&decide ((m.fld 3).asList.length<=16)
def aws (m:PV):Bool:=decide ((m.fld 1).asList.length<=64)
def awt (f:PV):Bool:=decide ((f.fld 2).asList.length<=16)&&decide ((f.fld 3).asList.length<=64)&&decide ((f.fld 4).asList.length<=64)&&decide ((f.fld 5).asList.length<=64)
def aij (f:PV):Bool:=awt f&&(f.fld 3).asList.all asn&&(f.fld 4).asList.all ams&&(f.fld 5).asList.all aws
theorem le64 (n:Nat):decide ((n:Int)<=(64:Int))=decide (n<=64):=leI n 64
theorem le16 (n:Nat):decide ((n:Int)<=(16:Int))=decide (n<=16):=leI n 16
theorem a9i (m:PV):F187 0 m=some (asn m):=by
 unfold F187 asn;have e:decide ((if (((m.fld 3).asList.length:Int))>((m.fld 2).asList.length:Int) then ((m.fld 3).asList.length:Int) else ((m.fld 2).asList.length:Int))<=(16:Int))=(decide ((m.fld 2).asList.length<=16)&&decide ((m.fld 3).asList.length<=16)):=by grind
 grind
theorem a5e (m:PV):F188 0 m=some (ams m):=by grind [F188,ams,le64,le16,aep]
theorem a9j (m:PV):F189 0 m=some (aws m):=by grind [F189,aws,le64]
theorem a9n (f:PV) (h:OkFile f):F84 0 f=some (aij f):=by
 have e:(bif (decide (((f.fld 2).asList.length:Int)>(16:Int))) then true else (decide ((if ((f.fld 5).asList.length:Int)>(if ((f.fld 4).asList.length:Int)>((f.fld 3).asList.length:Int) then ((f.fld 4).asList.length:Int) else ((f.fld 3).asList.length:Int)) then ((f.fld 5).asList.length:Int) else (if ((f.fld 4).asList.length:Int)>((f.fld 3).asList.length:Int) then ((f.fld 4).asList.length:Int) else ((f.fld 3).asList.length:Int)))>(64:Int))))=!awt f:=by unfold awt;grind
 unfold F84 aij;simp only [e,ev_cm _ asn h.msgs λx d=>a9i x,ev_ce _ ams h.enums λx d=>a5e x,ev_cs _ aws h.svcs λx d=>a9j x,Aa];cases awt f<;>cases (f.fld 3).asList.all asn<;>cases (f.fld 4).asList.all ams<;>rfl
noncomputable def errN (e:Int) (l:List PV) (t:Int):Int:=bif e != 0 then e else aii l t
noncomputable def bf3 (e:Int) (m:PV):Int:=(m.fld 1).asList.foldl (λe x=>errN e (x.fld 8).asList 2) (errN e (m.fld 4).asList 1)
noncomputable def a3f (e:Int) (m:PV):Int:=(m.fld 2).asList.foldl (λe x=>errN e (x.fld 2).asList 4) (errN e (m.fld 4).asList 3)
noncomputable def bf4 (e:Int) (m:PV):Int:=(m.fld 1).asList.foldl (λe x=>errN e (x.fld 4).asList 6) (errN e (m.fld 2).asList 5)
noncomputable def ag4 (f:PV):Int:=(f.fld 5).asList.foldl bf4 ((f.fld 4).asList.foldl a3f ((f.fld 3).asList.foldl bf3 0))
def nv (l:List PV) (t:Int):PV:=PV.agg [(PV.slice l),(PV.int t)]
def ane (m:PV):List PV:=nv (m.fld 4).asList 1::(m.fld 1).asList.map λx=>nv (x.fld 8).asList 2
def ai1 (m:PV):List PV:=nv (m.fld 4).asList 3::(m.fld 2).asList.map λx=>nv (x.fld 2).asList 4
def au2 (m:PV):List PV:=nv (m.fld 2).asList 5::(m.fld 1).asList.map λx=>nv (x.fld 4).asList 6
def ac2 (f:PV):List PV:=(f.fld 3).asList.flatMap ane++(f.fld 4).asList.flatMap ai1++(f.fld 5).asList.flatMap au2
theorem aqc {m:Type} (g:m->List PV):∀ (l:List m) (d:List PV),l.foldl (λd x=>d++g x) d=d++l.flatMap g:=by
 intro l;induction l with
 | nil=>intro d;simp
 | cons x r o=>grind
theorem ais {m:Type} (g:m->PV):∀ (l:List m) (d:List PV),l.foldl (λd x=>d++[g x]) d=d++l.map g:=by
 intro l;induction l with
 | nil=>intro d;simp
 | cons x r o=>grind
theorem akw {l:List PV}{k i:Nat} (d:k<l.length):aeh (l.drop k) i=((l.getD k .bad).fld i).asList.length+1+aeh (l.drop (k+1)) i:=by rw [aa4 d .bad];rfl
theorem ay8 {b:List PV}{x:PV} (h:b.length<=100000000):decide (b.length+[x].length<=aai)=true:=Aj (by grind [aai])
theorem bmr (f m:PV) (ms:List PV) (n i:Int) (xs:List PV) (M:xs.length<=1048576) (d:List PV) (H:d.length+xs.length<=100000000):
 aa7 (S83_8step 0) ((),d,ms,n,i,xs,(xs.length:Int),(0:Int),f,m)=some ((),d++xs.map (λx=>nv (x.fld 8).asList 2),ms,n,i,f,m):=by
 have q:=abf (step:=S83_8step 0) (λk (d:List PV)=>((),d,ms,n,i,xs,(xs.length:Int),(k:Int),f,m)) (λd=>((),d,ms,n,i,f,m)) xs .bad (λd x=>d++[nv (x.fld 8).asList 2]) (λk d=>d.length+(xs.length-k)<=100000000) (λk d o z=>by
  refine ⟨?_,by simp;omega⟩;simp only [S83_8step,S83_8,abp,aab,o,decide_true,Ad,Ah,ay8 (show d.length<=100000000 by omega),abx (i:=k) (by omega)];rfl) (λd _=>by
  simp only [S83_8step,S83_8,abp,Nat.lt_irrefl,decide_false,Ae]) xs.length 0 d (by omega) (by omega)
 grind [ais]
theorem bmq (f m:PV) (ms:List PV) (n i:Int) (xs:List PV) (M:xs.length<=1048576) (d:List PV) (H:d.length+xs.length<=100000000):
 aa7 (S83_18step 0) ((),d,ms,n,i,xs,(xs.length:Int),(0:Int),f,m)=some ((),d++xs.map (λx=>nv (x.fld 2).asList 4),ms,n,i,f,m):=by
 have q:=abf (step:=S83_18step 0) (λk (d:List PV)=>((),d,ms,n,i,xs,(xs.length:Int),(k:Int),f,m)) (λd=>((),d,ms,n,i,f,m)) xs .bad (λd x=>d++[nv (x.fld 2).asList 4]) (λk d=>d.length+(xs.length-k)<=100000000) (λk d o z=>by
  refine ⟨?_,by simp;omega⟩;simp only [S83_18step,S83_18,abp,aab,o,decide_true,Ad,Ah,ay8 (show d.length<=100000000 by omega),abx (i:=k) (by omega)];rfl) (λd _=>by
  simp only [S83_18step,S83_18,abp,Nat.lt_irrefl,decide_false,Ae]) xs.length 0 d (by omega) (by omega)
 grind [ais]
theorem bms (f m:PV) (ms:List PV) (n i:Int) (xs:List PV) (M:xs.length<=1048576) (d:List PV) (H:d.length+xs.length<=100000000):
 aa7 (S83_28step 0) (d,ms,n,i,xs,(xs.length:Int),(0:Int),f,m)=some (d++xs.map (λx=>nv (x.fld 4).asList 6),ms,n,i,f,m):=by
 have q:=abf (step:=S83_28step 0) (λk (d:List PV)=>(d,ms,n,i,xs,(xs.length:Int),(k:Int),f,m)) (λd=>(d,ms,n,i,f,m)) xs .bad (λd x=>d++[nv (x.fld 4).asList 6]) (λk d=>d.length+(xs.length-k)<=100000000) (λk d o z=>by
  refine ⟨?_,by simp;omega⟩;simp only [S83_28step,S83_28,abp,aab,o,decide_true,Ad,Ah,ay8 (show d.length<=100000000 by omega),abx (i:=k) (by omega)];rfl) (λd _=>by
  simp only [S83_28step,S83_28,abp,Nat.lt_irrefl,decide_false,Ae]) xs.length 0 d (by omega) (by omega)
 grind [ais]
theorem nl_eq (f:PV) (h:OkFile f):F83 0 f=some (ac2 f):=by
 have M:=h.many;have W:=abf (step:=S83_4step 0) (λk (d:List PV)=>((),d,(f.fld 3).asList,((f.fld 3).asList.length:Int),(k:Int),f)) (λd=>((),d,f)) (f.fld 3).asList .bad (λd m=>d++ane m) (λk d=>d.length+aeh ((f.fld 3).asList.drop k) 1<=7000000-aeh (f.fld 4).asList 2-aeh (f.fld 5).asList 1) (λk d o O=>by
  have H:=h.msg _ (ab7 o .bad);have U:=h.msgs;have V:=akw (i:=1) o;have z:=H.fields;refine ⟨?_,by grind [List.length_append,ane,List.length_cons,List.length_map]⟩;simp only [S83_4step,S83_4,abp,aab,o,decide_true,Ad,Ah,ay8 (show d.length<=100000000 by omega),aaq,bmr f _ _ _ _ _ z _ (show (d++[PV.agg [(PV.slice (((f.fld 3).asList.getD k .bad).fld 4).asList),(PV.int (1:Int))]]).length+_<=100000000 by grind),Aa,abx (i:=k) (by omega)];rw [An];rfl) (λd _=>by
  simp only [S83_4step,S83_4,abp,Nat.lt_irrefl,decide_false,Ae]) (f.fld 3).asList.length 0 [] (by omega) (by grind)
 rw [A4,aqc,At,List.drop_length] at W;have Z:((f.fld 3).asList.flatMap ane).length+0<=7000000-aeh (f.fld 4).asList 2-aeh (f.fld 5).asList 1:=W.2;have X:=abf (step:=S83_14step 0) (λk (d:List PV)=>((),d,(f.fld 4).asList,((f.fld 4).asList.length:Int),(k:Int),f)) (λd=>((),d,f)) (f.fld 4).asList .bad (λd m=>d++ai1 m) (λk d=>d.length+aeh ((f.fld 4).asList.drop k) 2<=7000000+aeh (f.fld 4).asList 2) (λk d o O=>by
  have H:=h.enum _ (ab7 o .bad);have U:=h.enums;have V:=akw (i:=2) o;have z:=H.items;refine ⟨?_,by grind [List.length_append,ai1,List.length_cons,List.length_map]⟩;simp only [S83_14step,S83_14,abp,aab,o,decide_true,Ad,Ah,ay8 (show d.length<=100000000 by omega),aaq,bmq f _ _ _ _ _ z _ (show (d++[PV.agg [(PV.slice (((f.fld 4).asList.getD k .bad).fld 4).asList),(PV.int (3:Int))]]).length+_<=100000000 by grind),Aa,abx (i:=k) (by omega)];rw [An];rfl) (λd _=>by
  simp only [S83_14step,S83_14,abp,Nat.lt_irrefl,decide_false,Ae]) (f.fld 4).asList.length 0 ((f.fld 3).asList.flatMap ane) (by omega) (by grind)
 rw [A4,aqc,List.drop_length] at X;have b2:((f.fld 3).asList.flatMap ane++(f.fld 4).asList.flatMap ai1).length+0<=7000000+aeh (f.fld 4).asList 2:=X.2;have Y:=abf (step:=S83_24step 0) (λk (d:List PV)=>(d,(f.fld 5).asList,((f.fld 5).asList.length:Int),(k:Int),f)) (λd=>(d,f)) (f.fld 5).asList .bad (λd m=>d++au2 m) (λk d=>d.length+aeh ((f.fld 5).asList.drop k) 1<=7000000+aeh (f.fld 4).asList 2+aeh (f.fld 5).asList 1) (λk d o O=>by
  have H:=h.svc _ (ab7 o .bad);have U:=h.svcs;have V:=akw (i:=1) o;have z:=H.meths;refine ⟨?_,by grind [List.length_append,au2,List.length_cons,List.length_map]⟩;simp only [S83_24step,S83_24,abp,aab,o,decide_true,Ad,Ah,ay8 (show d.length<=100000000 by omega),aaq,bms f _ _ _ _ _ z _ (show (d++[PV.agg [(PV.slice (((f.fld 5).asList.getD k .bad).fld 2).asList),(PV.int (5:Int))]]).length+_<=100000000 by grind),Aa,abx (i:=k) (by omega)];rw [An];rfl) (λd _=>by
  simp only [S83_24step,S83_24,abp,Nat.lt_irrefl,decide_false,Ae]) (f.fld 5).asList.length 0 ((f.fld 3).asList.flatMap ane++(f.fld 4).asList.flatMap ai1) (by omega) (by grind)
 rw [A4,aqc] at Y;unfold F83 ac2;rw [show (0:Int)=((0:Nat):Int) from rfl];grind [aaq]
noncomputable def errL (l:List PV) (e:Int):Int:=l.foldl (λe n=>errN e (n.fld 0).asList (n.fld 1).asInt) e
theorem a91:∀ (l:List PV) (e:Int),e≠0->errL l e=e:=by
 intro l;induction l with
 | nil=>intro e _;rfl
 | cons n r o=>
  intro e m;have d:errN e (n.fld 0).asList (n.fld 1).asInt=e:=by unfold errN;grind
  show errL r (errN e (n.fld 0).asList (n.fld 1).asInt)=e;grind
theorem a2i (a b:List PV) (e:Int):errL (a++b) e=errL b (errL a e):=List.foldl_append
theorem bew (m:PV) (e:Int):errL (ane m) e=bf3 e m:=by unfold errL ane bf3;rw [List.foldl_cons,List.foldl_map];rfl
theorem a9z (m:PV) (e:Int):errL (ai1 m) e=a3f e m:=by unfold errL ai1 a3f;rw [List.foldl_cons,List.foldl_map];rfl
theorem bex (m:PV) (e:Int):errL (au2 m) e=bf4 e m:=by unfold errL au2 bf4;rw [List.foldl_cons,List.foldl_map];rfl
theorem a90 (g:PV->List PV) (k:Int->PV->Int) (h:∀ m e,errL (g m) e=k e m):∀ (l:List PV) (e:Int),errL (l.flatMap g) e=l.foldl k e:=by
 intro l;induction l with
 | nil=>intro e;rfl
 | cons m r d=>grind [a2i]
theorem aqa (f:PV):errL (ac2 f) 0=ag4 f:=by unfold ac2 ag4;grind [a2i,a90,ane,bf3,bew,ai1,a3f,a9z,au2,bf4,bex]
def NvOk (n:PV):Prop:=(n.fld 0).asList.length<=1048576/\∀ x,x∈(n.fld 0).asList->acj x
theorem bbt (f:PV) (h:OkFile f):∀ n,n∈ac2 f->NvOk n:=by
 intro n d;unfold ac2 at d;rcases Bm.1 d with d | d
 ·rcases Bm.1 d with d | d
  ·obtain ⟨m,H,d⟩:=List.mem_flatMap.1 d;have o:=h.msg m H;rcases Bl.1 d with rfl | d
   ·exact ⟨o.notes,o.note⟩
   ·obtain ⟨x,z,rfl⟩:=List.mem_map.1 d;exact ⟨(o.field x z).notes,(o.field x z).note⟩
  ·obtain ⟨m,H,d⟩:=List.mem_flatMap.1 d;have o:=h.enum m H;rcases Bl.1 d with rfl | d
   ·exact ⟨o.notes,o.note⟩
   ·obtain ⟨x,z,rfl⟩:=List.mem_map.1 d;exact ⟨(o.item x z).notes,(o.item x z).note⟩
 ·obtain ⟨m,H,d⟩:=List.mem_flatMap.1 d;have o:=h.svc m H;rcases Bl.1 d with rfl | d
  ·exact ⟨o.notes,o.note⟩
  ·obtain ⟨x,z,rfl⟩:=List.mem_map.1 d;exact ⟨(o.meth x z).notes,(o.meth x z).note⟩
theorem at4 (f:PV) (l:List PV) (V:l.length<=100000000) (O:∀ n,n∈l->NvOk n):∀ (k i:Nat),i+k=l.length->aa7 (S39_9step 0) ((),l,(l.length:Int),(i:Int),f)=some (bif errL (l.drop i) 0==0 then .inr ((),f) else .inl (errL (l.drop i) 0,f)):=by
 intro k;induction k with
 | zero=>
  intro i M;have:i=l.length:=by omega
  subst this;rw [List.drop_length];exact aaf (by simp only [S39_9step,S39_9,abp,Nat.lt_irrefl,decide_false,Ae];rfl)
 | succ k U=>
  intro i M;have d:i<l.length:=by omega
  have z:=O _ (ab7 d .bad);have o:=bed (((l.getD i .bad).fld 0).asList) ((l.getD i .bad).fld 1).asInt z.1 z.2;have H:errL (l.drop i) 0=errL (l.drop (i+1)) (aii ((l.getD i .bad).fld 0).asList ((l.getD i .bad).fld 1).asInt):=by rw [aa4 d .bad];rfl
  rw [H];by_cases m:aii ((l.getD i .bad).fld 0).asList ((l.getD i .bad).fld 1).asInt=0
  ·rw [m] at o ⊢;rw [<-U (i+1) (by omega)];refine abd ?_;simp only [S39_9step,S39_9,abp,aab,d,decide_true,Ad,Ah,o,Aa,abx (i:=i) (by omega)];rfl
  ·rw [a91 _ _ m,beqI m];refine aaf ?_;simp only [S39_9step,S39_9,abp,aab,d,decide_true,Ad,Ah,o,Aa,bneI m];rfl
end Go.Ab
namespace Go.Ab
open Go
set_option maxRecDepth 100000
theorem ba9 {d:Bo} (h:aad d≠0):d.length<=10/\aad d≠6/\aad d≠8:=by
 by_cases m:d∈knownNames
 ·simp only [knownNames,Bl,List.not_mem_nil,or_false] at m;have e:∀ k:Int,k≠6/\k≠8->d.length<=10->some (aad d)=some k->d.length<=10/\aad d≠6/\aad d≠8:=λk m z o=>by cases o;exact ⟨z,m⟩
  rcases m with rfl | rfl | rfl | rfl | rfl | rfl | rfl | rfl | rfl | rfl | rfl | rfl | rfl
  ·exact e 1 (by decide) (by decide) (by kernel_rfl)
  ·exact e 1 (by decide) (by decide) (by kernel_rfl)
  ·exact e 1 (by decide) (by decide) (by kernel_rfl)
  ·exact e 7 (by decide) (by decide) (by kernel_rfl)
  ·exact e 7 (by decide) (by decide) (by kernel_rfl)
  ·exact e 7 (by decide) (by decide) (by kernel_rfl)
  ·exact e 7 (by decide) (by decide) (by kernel_rfl)
  ·exact e 4 (by decide) (by decide) (by kernel_rfl)
  ·exact e 4 (by decide) (by decide) (by kernel_rfl)
  ·exact e 4 (by decide) (by decide) (by kernel_rfl)
  ·exact e 4 (by decide) (by decide) (by kernel_rfl)
  ·exact e 3 (by decide) (by decide) (by kernel_rfl)
  ·exact e 3 (by decide) (by decide) (by kernel_rfl)
 ·exact absurd (adt m) h
theorem ara {n:PV} (h:abk n=true):(aeb n).length<=10/\aa9 (nVal n)≠6/\aa9 (nVal n)≠8:=by
 unfold abk at h;simp only [Ag] at h;obtain ⟨o,d⟩:=h;have z:aad (aeb n)≠0:=by simpa using o
 have H:aa9 (nVal n)=aad (aeb n):=by
  cases m:(aa9 (nVal n)==aad (aeb n)) with
  | true=>simpa using m
  | false=>rw [a5u m] at d;cases d
 rw [H];exact ba9 z
def afj (n:PV):Bo:=(aeb n++[32,61,32])++amm (nVal n)
theorem arp {n:PV} (d:acj n) (h:abk n=true):(afj n).length<=5000000:=by have m:=(ara h).1;have o:=arq (nVal n) d.1.2.1;simp [afj];omega
theorem bb0 (l:List PV) (hl:l.length<=40) (hs:∀ n,n∈l->acj n):∀ (m i:Nat) (d:List PV),l.length-i<=m->i<=l.length->d.length+(l.length-i)<=1000->
 aa7 (S34_4step 0) (d,l,(l.length:Int),(i:Int))=some (bif (l.drop i).all abk then .inr (d++(l.drop i).map λn=>PV.str (afj n)) else .inl []):=by
 intro m
 induction m with
 | zero=>
  intro i d hm Z Y
  have o:¬i<l.length:=by omega
  rw [A3 (by omega)]
  exact aaf (by simp only [S34_4step,S34_4,abp,o,decide_false,Ae,List.all_nil,Ad,List.map_nil,List.append_nil])
 | succ m ih=>
  intro i d hm Z Y
  by_cases o:i<l.length
  ·have H:l.getD i .bad∈l:=by rw [afp o];exact List.getElem_mem _
   have z:=hs _ H;rw [aa4 o .bad,A8,Bf];have M:=a3n (l.getD i .bad) z;cases O:abk (l.getD i .bad) with
   | false=>rw [O] at M;refine aaf ?_;simp only [S34_4step,S34_4,abp,aab,o,decide_true,Ad,Ah,M,Aa,Ao,Bool.false_and,Ae]
   | true=>
    rw [O] at M;obtain ⟨hn,W,X⟩:=ara O;have ht:=bdi _ z.1 W X;have aa:=arq (nVal (l.getD i .bad)) z.1.2.1;have U:((l.getD i .bad).fld 0).asStr=aeb (l.getD i .bad):=rfl;have V:(l.getD i .bad).fld 1=nVal (l.getD i .bad):=rfl;have l1:decide ((aeb (l.getD i .bad)).length+([32,61,32]:Bo).length<=aae)=true:=aqh (by simp only [Al,Ak,Aq];omega);have l2:decide ((aeb (l.getD i .bad)++([32,61,32]:Bo)).length+(amm (nVal (l.getD i .bad))).length<=aae)=true:=aqh (by simp only [Al,Ak,Aq];omega);have l3:∀ x:PV,decide (d.length+[x].length<=aai)=true:=λx=>Aj (by unfold aai;simp;omega);rw [Bool.true_and,abd (x1:=(d++[PV.str (afj (l.getD i .bad))],l,(l.length:Int),((i+1:Nat):Int))),ih (i+1) _ (by omega) (by omega) (by simp;omega),An]
    ·rfl
    ·simp only [S34_4step,S34_4,abp,aab,o,decide_true,Ad,Ah,M,Aa,Ap,Ae,U,V,ht,l1,l2,l3,bdu (i:=i) (by omega),afj]
  ·rw [A3 (by omega)];exact aaf (by simp only [S34_4step,S34_4,abp,o,decide_false,Ae,List.all_nil,Ad,List.map_nil,List.append_nil])
def ag9:List PV->Bo
 | []=>[]
 | n::r=>[44,32]++afj n++ag9 r
theorem ayc (l:List PV) (m:∀ n,n∈l->acj n) (d:l.all abk=true):(ag9 l).length<=5000002*l.length:=by
 induction l with
 | nil=>simp [ag9]
 | cons n r z=>simp only [A8,Ag] at d;have H:=arp (m n (by simp)) d.1;have M:=z (λx o=>m x (by simp [o])) d.2;simp [ag9];omega
theorem bff (n:PV) (r:List PV):([44,32]:Bo).intercalate ((n::r).map afj)=afj n++ag9 r:=by
 induction r generalizing n with
 | nil=>simp [List.intercalate,ag9]
 | cons x r d=>have:=d x;rw [ag9,Bf,Bf];rw [Bf] at this;simp only [List.intercalate,List.intersperse_cons_cons,List.flatten_cons] at this ⊢;rw [this];simp
noncomputable def a1i:List PV->Bo
 | []=>[]
 | n::r=>bif (n::r).all abk then [91]++(afj n++ag9 r)++[93] else []
theorem a0s (l:List PV) (z:l.length<=40) (o:∀ n,n∈l->acj n):F34 0 l=some (a1i l):=by
 have h:=bb0 l z o l.length 0 [] (by omega) (by omega) (by simp;omega);unfold F34;rw [show ((0:Nat):Int)=(0:Int) from rfl] at h;rw [aaq,h,A4,At];cases l with
 | nil=>rfl
 | cons n r=>
  rw [show a1i (n::r)=bif (n::r).all abk then [91]++(afj n++ag9 r)++[93] else [] from rfl];cases m:(n::r).all abk with
  | false=>rfl
  | true=>
   have d:=m;simp only [A8,Ag] at d;have h1:=arp (o n (by simp)) d.1;have h2:=ayc r (λx Y=>o x (by simp [Y])) d.2;have H:r.length<=39:=by simp at z;omega
   have X:((n::r).map λn=>PV.str (afj n)).map PV.asStr=(n::r).map afj:=by rw [List.map_map];rfl
   have W:apm 0 ((n::r).map λn=>PV.str (afj n)) ([44,32]:Bo)=some (afj n++ag9 r):=by
    unfold apm;rw [X,bff];have M:Nat.ble ((n::r).map λn=>PV.str (afj n)).length 140737488355328=true:=by rw [Nat.ble_eq];simp;omega
    have O:Nat.ble (afj n++ag9 r).length 140737488355328=true:=by rw [Nat.ble_eq];simp;omega
    rw [M,O];rfl
   have Z:((((n::r).map λn=>PV.str (afj n)).length:Int)==(0:Int))=false:=by simp;omega
   have U:decide (([91]:Bo).length+(afj n++ag9 r).length<=aae)=true:=aqh (by simp only [Al,Ak,Aq];omega);have V:decide ((([91]:Bo)++(afj n++ag9 r)).length+([93]:Bo).length<=aae)=true:=aqh (by simp only [Al,Ak,Aq];omega);simp only [Ad,Aa,aba,Z,Ae,W,U,V]
end Go.Ab
namespace Go.Ab
open Go
set_option maxRecDepth 100000
theorem aj4 {d:Type}{a b:Bo}{X:Option d} (h:a.length+b.length<=1000000000000000):(bif decide (a.length+b.length<=aae) then X else none)=X:=by grind [decide_eq_true,aae]
theorem bhs {d:Type}{a:List PV}{x:PV}{X:Option d} (h:a.length<=10000000):(bif decide (a.length+[x].length<=aai) then X else none)=X:=by grind [ay8]
theorem wrOk {s bs:Bo} (h:bs.length+s.length<=100000000000000):aa1 0 s bs=some ((s.length:Int),.nilIface,bs++s):=by grind [aa1,Nat.ble,Nat.ble_eq]
theorem a0j (k:Int) (d s bs:Bo) (m:ah8 0 ([32,32]:Bo) k=some d) (o:d.length<=10) (h:bs.length+s.length<=90000000000000):F190 0 () k s bs=some (bs++(d++s++[10])):=by unfold F190;simp (disch:=(first | omega | (simp only [Al,Ak,Aq];omega))) only [m,aj4,wrOk,Aa]
theorem a0h {s bs:Bo} (h:bs.length+s.length<=90000000000000):F190 0 () (0:Int) s bs=some (bs++(s++[10])):=a0j 0 [] s bs rfl (by simp) h
theorem a0i {s bs:Bo} (h:bs.length+s.length<=90000000000000):F190 0 () (1:Int) s bs=some (bs++([32,32]++s++[10])):=a0j 1 [32,32] s bs rfl (by simp) h
theorem line2 {s bs:Bo} (h:bs.length+s.length<=90000000000000):F190 0 () (2:Int) s bs=some (bs++([32,32,32,32]++s++[10])):=a0j 2 [32,32,32,32] s bs rfl (by simp) h
def numT (n:Int):Bo:=decB n.toNat
theorem agk (n:Int):(numT n).length<=20:=agb _
theorem ao3 {n:Int} (d:0<=n) (m:n<=2147483647):ak2 0 n=some (numT n):=by grind [a2v,alp,numT,decide_eq_false]
noncomputable def afa (t:PV):Bo:=
 bif adv (t.fld 0).asInt&&((t.fld 1).asStr==[]) then kw (t.fld 0).asInt else
 bif (((t.fld 0).asInt==0)||((t.fld 0).asInt==9)||((t.fld 0).asInt==10))&&ac5 (t.fld 1).asStr then (t.fld 1).asStr else []
theorem bkz (t:PV) (d:(t.fld 1).asStr.length<=1048576):F337 0 t=some (afa t):=by grind [F337,afa,avg,bmb,alm,adv,asInt,ac5]
theorem ayy (t:PV) (d:(t.fld 1).asStr.length<=1048576):(afa t).length<=1048576:=by have:=bbb (t.fld 0).asInt;unfold afa;grind
noncomputable def litT (v:PV):Bo:=
 bif aln v then abn v else bif !ac4 (aa9 v) v then [] else bif (aa9 v==6)||(aa9 v==8) then abi (af5 v) else af5 v
theorem a1j {v:PV} (H:aea v) (h:ac4 (aa9 v) v=true) (d:((aa9 v==6)||(aa9 v==8))=true):(af5 v).length<=100000:=by
 unfold af5;rw [h];simp only [Ad];cases m:aa9 v==6 with
 | true=>simp only [Ad];grind [ab2,ali,aam,ab8,decide]
 | false=>rw [m,Bool.false_or] at d;have z:=amy h (by simpa using d);have o:=adw ((abn v).flatMap λb=>hex2 b.toNat);rw [ajn] at o;grind
theorem bmf (v:PV) (d:aea v):F338 0 v=some (litT v):=by
 have m:(v.fld 0).asInt=aa9 v:=rfl;have o:(v.fld 2).asStr=abn v:=rfl;unfold F338 litT;simp only [m,o,a3b _ d,ahr _ _ d,bg7 _ d,Aa];cases aln v with
 | true=>rfl
 | false=>
  cases H:ac4 (aa9 v) v with
  | false=>rfl
  | true=>
   rw [bhv];cases z:((aa9 v==6)||(aa9 v==8)) with
   | false=>rfl
   | true=>have:=a1j d H z;simp only [Ad,Ae,Ap,agl _ (show (af5 v).length<=1048576 by omega),Aa]
theorem a2u (v:PV) (d:aea v):(litT v).length<=5000000:=by
 have z:=bdh v d.2.1;have m:=d.2.1;unfold litT;cases aln v with
 | true=>grind
 | false=>
  simp only [Ae];cases o:ac4 (aa9 v) v with
  | false=>simp
  | true=>
   simp only [Ap,Ae];cases m:((aa9 v==6)||(aa9 v==8)) with
   | false=>grind
   | true=>have H:=a1j d o m;have M:=adw (af5 v);grind
noncomputable def ab9 (l:List PV):Bo:=bif (l.length:Int)==0 then [] else [32]++a1i l
theorem ays (l:List PV) (O:l.length<=40) (o:∀ n,n∈l->acj n):(a1i l).length<=200000200:=by
 cases l with
 | nil=>simp [a1i]
 | cons n r=>
  rw [show a1i (n::r)=bif (n::r).all abk then [91]++(afj n++ag9 r)++[93] else [] from rfl];cases m:(n::r).all abk with
  | false=>simp
  | true=>have d:=m;simp only [A8,Ag] at d;have H:=arp (o n (by simp)) d.1;have M:=ayc r (λx z=>o x (by simp [z])) d.2;grind
theorem adh (l:List PV) (d:l.length<=40) (m:∀ n,n∈l->acj n):(ab9 l).length<=200000201:=by have:=ays l d m;unfold ab9;grind
theorem ags (l:List PV) (d:l.length<=40) (m:∀ n,n∈l->acj n):F281 0 l=some (ab9 l):=by have:=ays l d m;unfold F281 ab9;simp (disch:=(first | omega | (simp only [Al,Ak,Aq];omega))) only [a0s l d m,Aa,aj4];grind
structure RowOk (x:PV):Prop where
 ok:OkFld x
 num0:0<=(x.fld 0).asInt
 num1:(x.fld 0).asInt<=65535
 card1:1<=(x.fld 2).asInt
 card5:(x.fld 2).asInt<=5
 few:(x.fld 8).asList.length<=40
def azk (c:Int):Bo:=bif c==1 then [114,101,113,117,105,114,101,100,32] else bif c==2 then [111,112,116,105,111,110,97,108,32] else bif c==3 then [112,108,97,105,110,32] else [108,105,115,116,32]
theorem awp (c:Int):(azk c).length<=9:=by unfold azk;cases c==1<;>cases c==2<;>cases c==3<;>simp
noncomputable def bao (x:PV):Bo:=
 bif (x.fld 2).asInt==5 then [109,97,112,60]++(kw (x.fld 3).asInt++([44,32]++(afa (x.fld 4)++[62]))) else bif (x.fld 5).asStr==[] then azk (x.fld 2).asInt++afa (x.fld 4) else afa (x.fld 4)
noncomputable def rowT (x:PV):Bo:=
 bao x++([32]++((x.fld 1).asStr++([32,61,32]++(numT (x.fld 0).asInt++((bif (x.fld 6).asBool then [32,100,101,102,97,117,108,116,32]++litT (x.fld 7) else [])++(ab9 (x.fld 8).asList++[59]))))))
theorem a3o (x:PV) (h:RowOk x):(rowT x).length<=300000000:=by have d:=ayy _ h.ok.type;have m:=adh _ h.few h.ok.note;have o:=a2u _ h.ok.dflt;have z:=bbb (x.fld 3).asInt;have H:=awp (x.fld 2).asInt;have M:=agk (x.fld 0).asInt;have O:=h.ok.name;unfold rowT bao;cases ((x.fld 2).asInt==5)<;>cases ((x.fld 5).asStr==([]:Bo))<;>cases (x.fld 6).asBool<;>simp only [Ad,Ae,Al,Ak,Aq]<;>omega
theorem bm2 (x:PV) (h:RowOk x):F282 0 x=some (rowT x):=by
 have U:=ayy _ h.ok.type;have V:=adh _ h.few h.ok.note;have W:=a2u _ h.ok.dflt;have X:=bbb (x.fld 3).asInt;have Y:=awp (x.fld 2).asInt;have Z:=agk (x.fld 0).asInt;have h7:=h.ok.name;have O:aaa (x.fld 2).asInt 5=(bif (x.fld 2).asInt==5 then false else true):=by
  have a:=h.card1;have b:=h.card5;have:(x.fld 2).asInt=1\/(x.fld 2).asInt=2\/(x.fld 2).asInt=3\/(x.fld 2).asInt=4\/(x.fld 2).asInt=5:=by omega
  rcases this with e | e | e | e | e<;>rw [e]<;>rfl
 have d:(bif (x.fld 2).asInt==5 then ([]:Bo) else ((PV.agg [(PV.str ([]:Bo)),(PV.str ([114,101,113,117,105,114,101,100,32]:Bo)),(PV.str ([111,112,116,105,111,110,97,108,32]:Bo)),(PV.str ([112,108,97,105,110,32]:Bo)),(PV.str ([108,105,115,116,32]:Bo))]).fld (x.fld 2).asInt.toNat).asStr)=(bif (x.fld 2).asInt==5 then [] else azk (x.fld 2).asInt):=by
  have a:=h.card1;have b:=h.card5;have:(x.fld 2).asInt=1\/(x.fld 2).asInt=2\/(x.fld 2).asInt=3\/(x.fld 2).asInt=4\/(x.fld 2).asInt=5:=by omega
  rcases this with e | e | e | e | e<;>rw [e]<;>rfl
 have m:=bkz _ h.ok.type;have o:=ags _ h.few h.ok.note;have z:=bmf _ h.ok.dflt;have H:=ao3 h.num0 (by have:=h.num1;omega);unfold F282 rowT bao;simp only [m,o,z,H,bmb,Aa,O];generalize afa (x.fld 4)=t1 at*;generalize ab9 (x.fld 8).asList=t2 at*;generalize litT (x.fld 7)=t3 at*;generalize kw (x.fld 3).asInt=t4 at*;generalize azk (x.fld 2).asInt=t5 at*;generalize numT (x.fld 0).asInt=t6 at*;generalize (x.fld 1).asStr=t7 at*;cases M:((x.fld 2).asInt==5) with
 | true=>cases (x.fld 6).asBool<;>simp (disch:=(first | omega | (simp only [Al,Ak,Aq];omega))) only [Ad,Ae,aj4,An];rfl
 | false=>rw [M] at d;simp only [Ae] at d;simp only [d];cases ((x.fld 5).asStr==([]:Bo))<;>cases (x.fld 6).asBool<;>simp (disch:=(first | omega | (simp only [Al,Ak,Aq];omega))) only [Ad,Ae,aj4,An,At]
end Go.Ab
namespace Go.Ab
open Go
set_option maxRecDepth 100000
def aot (g:PV->Bo):List PV->Bo
 | []=>[]
 | x::r=>[44,32]++(g x++aot g r)
def aqj (g:PV->Bo):List PV->Bo
 | []=>[]
 | x::r=>g x++aot g r
theorem bfr (g:PV->Bo) (l:List PV):([44,32]:Bo).intercalate (l.map g)=aqj g l:=by
 cases l with
 | nil=>rfl
 | cons x r=>
  induction r generalizing x with
  | nil=>simp [List.intercalate,aqj,aot]
  | cons y r d=>grind [aqj,aot,List.intercalate,List.intersperse_cons_cons,List.flatten_cons]
theorem bcn (g:PV->Bo) (B:Nat):∀ l:List PV,(∀ x,x∈l->(g x).length<=B)->(aot g l).length<=(B+2)*l.length:=by
 intro l;induction l with
 | nil=>grind [aot]
 | cons x r d=>grind [aot,List.length_append,List.length_cons,List.length_nil,Nat.mul_add]
theorem alw (g:PV->Bo) (B:Nat) (l:List PV) (h:∀ x,x∈l->(g x).length<=B):(aqj g l).length<=(B+2)*l.length:=by
 cases l with
 | nil=>simp [aqj]
 | cons x r=>have m:=h x (by simp);have o:=bcn g B r λy d=>h y (by simp [d]);grind [aqj,List.length_append,List.length_cons,Nat.mul_add]
def resT (g:PV->Bo) (l:List PV):Bo:=bif (l.length:Int)==0 then [] else [32,32,114,101,115,101,114,118,101,100,32]++(aqj g l++[59,10])
theorem avi (g:PV->Bo) (B:Nat) (l:List PV) (h:∀ x,x∈l->(g x).length<=B):(resT g l).length<=(B+2)*l.length+20:=by
 have:=alw g B l h;unfold resT;cases ((l.length:Int)==0) with
 | true=>simp
 | false=>simp only [Ae,Al,Ak,Aq];omega
theorem gt0 (l:List PV):decide ((l.length:Int)>(0:Int))=!((l.length:Int)==0):=by grind
theorem a2w (g:PV->Bo) (B:Nat) (l:List PV) (hB:B<=10000000) (m:l.length<=100) (h:∀ x,x∈l->(g x).length<=B):apm 0 (l.map λx=>PV.str (g x)) ([44,32]:Bo)=some (aqj g l):=by
 have d:=alw g B l h;have z:(l.map λx=>PV.str (g x)).map PV.asStr=l.map g:=by rw [List.map_map];rfl
 have o:(B+2)*l.length<=10000002*100:=Nat.mul_le_mul (by omega) m;grind [apm,bfr,Nat.ble,Nat.ble_eq,List.length_map,aqj]
def spT (x:PV):Bo:=numT (x.fld 0).asInt++(bif (x.fld 0).asInt==(x.fld 1).asInt then [] else [32,45,32]++numT (x.fld 1).asInt)
theorem avq (x:PV):(spT x).length<=43:=by have d:=agk (x.fld 0).asInt;have m:=agk (x.fld 1).asInt;unfold spT;grind
theorem ax7 (l:List PV) (V:l.length<=16) (W:∀ x,x∈l->ae7 2147483647 x=true) (bs:Bo) (hb:bs.length<=50000000000000):F283 0 () l bs=some (bs++resT spT l):=by
 have q:=abf (step:=S283_3step 0) (λk (d:List PV)=>((),d,l,(l.length:Int),(k:Int),bs)) (λd=>((),d,bs)) l .bad (λd x=>d++[PV.str (spT x)]) (λk d=>d.length+(l.length-k)<=10000000) (λk d z Z=>by
  have m:=W _ (ab7 z .bad);unfold ae7 at m;simp only [Av] at m;obtain ⟨M,o,O,U⟩:=m;have X:=agk ((l.getD k .bad).fld 0).asInt;have Y:=agk ((l.getD k .bad).fld 1).asInt;refine ⟨?_,by simp;omega⟩;simp only [S283_3step,S283_3,abp,aab,z,decide_true,Ad,Ah,ao3 M o,ao3 O U,Aa,abx (i:=k) (by omega),bne];unfold spT;cases (((l.getD k .bad).fld 0).asInt==((l.getD k .bad).fld 1).asInt)<;>simp (disch:=(first | omega | (simp only [Al,Ak,Aq];omega))) only [Ad,Ae,Ap,Ao,aj4,bhs,List.append_nil]) (λd _=>by
  simp only [S283_3step,S283_3,abp,Nat.lt_irrefl,decide_false,Ae]) l.length 0 [] (by omega) (by simp;omega)
 rw [A4,ais,At] at q;have H:=alw spT 43 l λx _=>avq x;have o:(43+2)*l.length<=45*16:=Nat.mul_le_mul (by omega) V;unfold F283 resT;rw [aaq,show (0:Int)=((0:Nat):Int) from rfl,q.1,Aa];have e:((l.map λx=>PV.str (spT x)).length:Int)=(l.length:Int):=by grind
 simp (disch:=(first | omega | (simp only [Al,Ak,Aq];omega))) only [e,gt0,a2w spT 43 l (by omega) (by omega) λx _=>avq x,Aa,aj4,a0i];grind
def goT (x:PV):Bo:=abi x.asStr
theorem az3 (x:PV) (h:x.asStr.length<=1048576):(goT x).length<=4194306:=by grind [adw,goT]
theorem bam (m:PV) (l:List PV) (U:l.length<=16) (H:∀ x,x∈l->x.asStr.length<=1048576) (bs:Bo):aa7 (S192_21step 0) ((),[],l,(l.length:Int),(0:Int),bs,m)=some ((),l.map (λx=>PV.str (goT x)),bs,m):=by
 have q:=abf (step:=S192_21step 0) (λk (d:List PV)=>((),d,l,(l.length:Int),(k:Int),bs,m)) (λd=>((),d,bs,m)) l .bad (λd x=>d++[PV.str (goT x)]) (λk d=>d.length+(l.length-k)<=10000000) (λk d o O=>by
  have M:=H _ (ab7 o .bad);have z:F134 0 (l.getD k .bad).asStr=some (goT (l.getD k .bad)):=agl _ M;refine ⟨?_,by simp;omega⟩;simp (disch:=(first | omega | (simp only [Al,Ak,Aq];omega))) only [S192_21step,S192_21,abp,aab,o,decide_true,Ad,Ah,z,Aa,bhs];grind [abx]) (λd _=>by
  simp only [S192_21step,S192_21,abp,Nat.lt_irrefl,decide_false,Ae]) l.length 0 [] (by omega) (by simp;omega)
 grind [ais]
structure MsgOk (m:PV):Prop where
 ok:OkMsg m
 rows:∀ x,x∈(m.fld 1).asList->RowOk x
 fields:(m.fld 1).asList.length<=64
 spans:(m.fld 2).asList.length<=16
 span:∀ x,x∈(m.fld 2).asList->ae7 2147483647 x=true
 gone:(m.fld 3).asList.length<=16
 few:(m.fld 4).asList.length<=40
def uT (x:PV):Bo:=(x.fld 5).asStr
def bf6 (u v:Bo):Bo:=
 (bif !(u==[])&&!(v==u) then [32,32,125,10] else [])++((bif !(v==[])&&!(v==u) then [32,32,117,110,105,111,110,32]++(v++[32,123,10]) else [])++(bif v==[] then [32,32] else [32,32,32,32]))
noncomputable def aym (u:Bo) (x:PV):Bo:=bf6 u (uT x)++(rowT x++[10])
theorem ayn (u:Bo) (x:PV) (h:RowOk x):(aym u x).length<=302000000:=by have d:=a3o x h;have m:(uT x).length<=1048576:=h.ok.union;unfold aym bf6;cases !(u==[])&&!(uT x==u)<;>cases !(uT x==[])&&!(uT x==u)<;>cases uT x==[]<;>simp only [Ad,Ae,Al,Ak,Aq]<;>omega
noncomputable def aeq:Bo->List PV->Bo
 | _,[]=>[]
 | u,x::r=>aym u x++aeq (uT x) r
def ad2:Bo->List PV->Bo
 | u,[]=>u
 | _,x::r=>ad2 (uT x) r
theorem aw8:∀ (l:List PV) (b u:Bo),l.foldl (λ(p:Bo×Bo) x=>(p.1++aym p.2 x,uT x)) (b,u)=(b++aeq u l,ad2 u l):=by
 intro l;induction l with
 | nil=>grind [aeq,ad2]
 | cons x r d=>grind [aeq,ad2]
theorem azv:∀ (l:List PV) (u:Bo),(∀ x,x∈l->RowOk x)->(aeq u l).length<=302000000*l.length:=by
 intro l;induction l with
 | nil=>grind [aeq]
 | cons x r d=>grind [ayn,uT,aeq,List.length_append,List.length_cons,Nat.mul_add]
theorem azw (m:PV) (l:List PV) (Z:l.length<=64) (M:∀ x,x∈l->RowOk x) (b:Bo) (Y:b.length<=20000000000000):
 aa7 (S192_5step 0) ((),(),([]:Bo),l,(l.length:Int),(0:Int),b,m)=some ((),(),ad2 [] l,b++aeq [] l,m):=by
 have q:=abf (step:=S192_5step 0) (λk (p:Bo×Bo)=>((),(),p.2,l,(l.length:Int),(k:Int),p.1,m)) (λp=>((),(),p.2,p.1,m)) l .bad (λ(p:Bo×Bo) x=>(p.1++aym p.2 x,uT x)) (λk p=>p.1.length<=20000000000000+302000000*k) (λk p o X=>by
  have d:=M _ (ab7 o .bad);have O:=a3o _ d;have U:(uT (l.getD k .bad)).length<=1048576:=d.ok.union;have V:=ayn p.2 _ d;have z:((l.getD k .bad).fld 5).asStr=uT (l.getD k .bad):=rfl;have H:=bm2 _ d;have W:302000000*k<=302000000*64:=Nat.mul_le_mul (by omega) (by omega);refine ⟨?_,by grind⟩;simp only [S192_5step,S192_5,abp,aab,o,decide_true,Ad,Ah,z,H,Aa,abx (i:=k) (by omega)];unfold aym bf6;generalize rowT (l.getD k .bad)=t at*;generalize uT (l.getD k .bad)=v at*;generalize p.2=u at*;generalize p.1=c at*;cases (u==([]:Bo))<;>cases (v==u)<;>cases (v==([]:Bo))<;>simp (disch:=(first | omega | (simp only [Al,Ak,Aq];omega))) only [Ap,Ao,Bool.and_true,Bool.and_false,Bool.true_and,Bool.false_and,Ad,Ae,aj4,a0i,line2,Aa,An,At,As]) (λp _=>by
  simp only [S192_5step,S192_5,abp,Nat.lt_irrefl,decide_false,Ae]) l.length 0 (b,[]) (by omega) (by simp;omega)
 grind [aw8]
noncomputable def msgT (m:PV):Bo:=
 [109,101,115,115,97,103,101,32]++((m.fld 0).asStr++(ab9 (m.fld 4).asList++([32,123,10]++(aeq [] (m.fld 1).asList++((bif ad2 [] (m.fld 1).asList==[] then [] else [32,32,125,10])++(resT spT (m.fld 2).asList++(resT goT (m.fld 3).asList++[125,10])))))))
theorem asz (m:PV) (h:MsgOk m):(ab9 (m.fld 4).asList).length<=200000201/\(aeq [] (m.fld 1).asList).length<=19328000000/\(resT spT (m.fld 2).asList).length<=1000/\(resT goT (m.fld 3).asList).length<=70000000:=by have o:=adh _ h.few h.ok.note;have z:=azv _ [] h.rows;have H:=avi spT 43 (m.fld 2).asList λx _=>avq x;have M:=avi goT 4194306 (m.fld 3).asList λx d=>az3 x (h.ok.goneS x d);have O:302000000*(m.fld 1).asList.length<=302000000*64:=Nat.mul_le_mul (by omega) h.fields;have U:(43+2)*(m.fld 2).asList.length<=45*16:=Nat.mul_le_mul (by omega) h.spans;have V:(4194306+2)*(m.fld 3).asList.length<=4194308*16:=Nat.mul_le_mul (by omega) h.gone;grind
theorem a3a (m:PV) (h:MsgOk m):(msgT m).length<=20000000000:=by obtain ⟨d,o,z,H⟩:=asz m h;have M:=h.ok.name;unfold msgT;cases ad2 [] (m.fld 1).asList==[]<;>simp only [Ad,Ae,Al,Ak,Aq]<;>omega
theorem bml (m:PV) (h:MsgOk m) (bs:Bo) (hb:bs.length<=10000000000000):F192 0 () m bs=some (bs++msgT m):=by
 obtain ⟨Y,Z,h3,h4⟩:=asz m h;have h5:=h.ok.name;have U:=ags _ h.few h.ok.note;have V:∀ c:Bo,c.length<=20000000000000->_:=λc d=>azw m _ h.fields h.rows c d;have z:∀ c:Bo,c.length<=50000000000000->_:=λc d=>ax7 _ h.spans h.span c d;have H:=bam m _ h.gone h.ok.goneS;have M:=a2w goT 4194306 (m.fld 3).asList (by omega) (by have:=h.gone;omega) λx o=>az3 x (h.ok.goneS x o);have W:=alw goT 4194306 (m.fld 3).asList λx o=>az3 x (h.ok.goneS x o);have X:(4194306+2)*(m.fld 3).asList.length<=4194308*16:=Nat.mul_le_mul (by omega) h.gone;have e:(((m.fld 3).asList.map λx=>PV.str (goT x)).length:Int)=((m.fld 3).asList.length:Int):=by grind
 have O:resT goT (m.fld 3).asList=bif ((m.fld 3).asList.length:Int)==0 then [] else [32,32,114,101,115,101,114,118,101,100,32]++(aqj goT (m.fld 3).asList++[59,10]):=rfl;unfold F192 msgT;simp (disch:=(first | omega | (simp only [Al,Ak,Aq];omega))) only [U,aj4,Aa,a0h,aaq,V];cases ad2 [] (m.fld 1).asList==([]:Bo) with
 | true=>simp (disch:=(first | omega | (simp only [Al,Ak,Aq];omega))) only [Ap,Ae,Ad,z,H,Aa,aaq,e,gt0];rw [O];cases (((m.fld 3).asList.length:Int)==(0:Int))<;>simp (disch:=(first | omega | (simp only [Al,Ak,Aq];omega))) only [Ap,Ao,Ae,Ad,M,aj4,a0h,a0i,Aa,An,At,As]
 | false=>simp (disch:=(first | omega | (simp only [Al,Ak,Aq];omega))) only [Ao,Ae,Ad,a0i,z,H,Aa,aaq,e,gt0];rw [O];cases (((m.fld 3).asList.length:Int)==(0:Int))<;>simp (disch:=(first | omega | (simp only [Al,Ak,Aq];omega))) only [Ap,Ao,Ae,Ad,M,aj4,a0h,a0i,Aa,An,At,As]
end Go.Ab
namespace Go.Ab
open Go
set_option maxRecDepth 100000
theorem aum (g:PV->Bo):∀ (l:List PV) (b:Bo),l.foldl (λb x=>b++g x) b=b++l.flatMap g:=by
 intro l;induction l with
 | nil=>intro b;simp
 | cons x r d=>grind
theorem auk (g:PV->Bo) (B:Nat):∀ l:List PV,(∀ x,x∈l->(g x).length<=B)->(l.flatMap g).length<=B*l.length:=by
 intro l;induction l with
 | nil=>intro _;simp
 | cons x r d=>grind [List.length_append,List.length_cons,Nat.mul_add]
structure EnumOk (m:PV):Prop where
 ok:OkEnum m
 items:(m.fld 2).asList.length<=64
 num:∀ x,x∈(m.fld 2).asList->0<=(x.fld 1).asInt/\(x.fld 1).asInt<=2147483647
 ifew:∀ x,x∈(m.fld 2).asList->(x.fld 2).asList.length<=40
 spans:(m.fld 3).asList.length<=16
 span:∀ x,x∈(m.fld 3).asList->ae7 2147483647 x=true
 few:(m.fld 4).asList.length<=40
noncomputable def am4 (x:PV):Bo:=[32,32]++((x.fld 0).asStr++([32,61,32]++(numT (x.fld 1).asInt++(ab9 (x.fld 2).asList++[59,10]))))
theorem axk (x:PV) (h:OkItem x) (d:(x.fld 2).asList.length<=40):(am4 x).length<=202000000:=by have m:=adh _ d h.note;have o:=agk (x.fld 1).asInt;have z:=h.name;grind [am4,List.length_append,List.length_cons,List.length_nil]
noncomputable def agu (m:PV):Bo:=
 (bif (m.fld 1).asBool then [111,112,101,110,32] else [])++([101,110,117,109,32]++((m.fld 0).asStr++(ab9 (m.fld 4).asList++([32,123,10]++((m.fld 2).asList.flatMap am4++(resT spT (m.fld 3).asList++[125,10]))))))
theorem ap9 (m:PV) (h:EnumOk m):(ab9 (m.fld 4).asList).length<=200000201/\((m.fld 2).asList.flatMap am4).length<=12928000000/\(resT spT (m.fld 3).asList).length<=1000:=by have o:=adh _ h.few h.ok.note;have z:=auk am4 202000000 (m.fld 2).asList λx d=>axk x (h.ok.item x d) (h.ifew x d);have H:=avi spT 43 (m.fld 3).asList λx _=>avq x;have M:202000000*(m.fld 2).asList.length<=202000000*64:=Nat.mul_le_mul (by omega) h.items;have O:(43+2)*(m.fld 3).asList.length<=45*16:=Nat.mul_le_mul (by omega) h.spans;grind
theorem aw4 (m:PV) (h:EnumOk m):(agu m).length<=20000000000:=by obtain ⟨d,o,z⟩:=ap9 m h;have H:=h.ok.name;unfold agu;cases (m.fld 1).asBool<;>simp only [Ad,Ae,Al,Ak,Aq]<;>omega
theorem a6f (m:PV) (h:EnumOk m) (b:Bo) (hb:b.length<=20000000000000):
 aa7 (S194_7step 0) ((),(),(m.fld 2).asList,((m.fld 2).asList.length:Int),(0:Int),b,m)=some ((),(),b++(m.fld 2).asList.flatMap am4,m):=by
 have hl:=h.items
 have q:=abf (step:=S194_7step 0) (λk (b:Bo)=>((),(),(m.fld 2).asList,((m.fld 2).asList.length:Int),(k:Int),b,m)) (λb=>((),(),b,m)) (m.fld 2).asList .bad (λb x=>b++am4 x) (λk b=>b.length<=20000000000000+202000000*k) (λk b H Z=>by
  have z:=ab7 H .bad;have d:=h.ok.item _ z;have o:=h.ifew _ z;have M:=h.num _ z;have U:=axk _ d o;have V:=d.name;have W:=adh _ o d.note;have X:=agk (((m.fld 2).asList.getD k .bad).fld 1).asInt;have O:=ags _ o d.note;have Y:202000000*k<=202000000*64:=Nat.mul_le_mul (by omega) (by omega);refine ⟨?_,by grind⟩;simp only [S194_7step,S194_7,abp,aab,H,decide_true,Ad,Ah,O,ao3 M.1 M.2,Aa,abx (i:=k) (by omega)];simp (disch:=(first | omega | (simp only [Al,Ak,Aq];omega))) only [aj4,a0i,Aa];simp only [am4,An,As,At]) (λb _=>by
  simp only [S194_7step,S194_7,abp,Nat.lt_irrefl,decide_false,Ae]) (m.fld 2).asList.length 0 b (by omega) (by omega)
 grind [aum]
theorem bi1 (m:PV) (h:EnumOk m) (bs:Bo) (W:bs.length<=10000000000000):F194 0 () m bs=some (bs++agu m):=by obtain ⟨M,O,U⟩:=ap9 m h;have V:=h.ok.name;have o:=ags _ h.few h.ok.note;have z:∀ c:Bo,c.length<=20000000000000->_:=λc d=>a6f m h c d;have H:∀ c:Bo,c.length<=50000000000000->_:=λc d=>ax7 _ h.spans h.span c d;unfold F194 agu;simp only [o,Aa,aaq];cases (m.fld 1).asBool<;>simp (disch:=(first | omega | (simp only [Al,Ak,Aq];omega))) only [Ad,Ae,aj4,a0h,z,H,Aa,An,At,As]
structure SvcOk (m:PV):Prop where
 ok:OkSvc m
 meths:(m.fld 1).asList.length<=64
 mfew:∀ x,x∈(m.fld 1).asList->(x.fld 4).asList.length<=40
 few:(m.fld 2).asList.length<=40
def ayg (b:Bool) (s:Bo):Bo:=bif b then [115,116,114,101,97,109,32]++s else s
noncomputable def aos (x:PV):Bo:=
 [32,32,114,112,99,32]++((x.fld 0).asStr++([40]++(ayg (((x.fld 3).asInt==3)||((x.fld 3).asInt==4)) (x.fld 1).asStr++([41,32,114,101,116,117,114,110,115,32,40]++(ayg (((x.fld 3).asInt==2)||((x.fld 3).asInt==4)) (x.fld 2).asStr++([41]++(ab9 (x.fld 4).asList++[59,10])))))))
theorem axu (x:PV) (h:OkMeth x) (d:(x.fld 4).asList.length<=40):(aos x).length<=205000000:=by have m:=adh _ d h.note;have o:=h.inn;have z:=h.out;have H:=h.name;unfold aos ayg;cases (((x.fld 3).asInt==3)||((x.fld 3).asInt==4))<;>cases (((x.fld 3).asInt==2)||((x.fld 3).asInt==4))<;>simp only [Ad,Ae,Al,Ak,Aq]<;>omega
noncomputable def svcT (m:PV):Bo:=
 [115,101,114,118,105,99,101,32]++((m.fld 0).asStr++(ab9 (m.fld 2).asList++([32,123,10]++((m.fld 1).asList.flatMap aos++[125,10]))))
theorem atn (m:PV) (h:SvcOk m):(ab9 (m.fld 2).asList).length<=200000201/\((m.fld 1).asList.flatMap aos).length<=13120000000:=by have o:=adh _ h.few h.ok.note;have z:=auk aos 205000000 (m.fld 1).asList λx d=>axu x (h.ok.meth x d) (h.mfew x d);have H:205000000*(m.fld 1).asList.length<=205000000*64:=Nat.mul_le_mul (by omega) h.meths;grind
theorem bg4 (m:PV) (h:SvcOk m):(svcT m).length<=20000000000:=by obtain ⟨d,o⟩:=atn m h;have z:=h.ok.name;grind [svcT,List.length_append,List.length_cons,List.length_nil]
theorem a6q (m:PV) (h:SvcOk m) (b:Bo) (hb:b.length<=20000000000000):
 aa7 (S196_4step 0) ((),(m.fld 1).asList,((m.fld 1).asList.length:Int),(0:Int),b,m)=some ((),b++(m.fld 1).asList.flatMap aos,m):=by
 have hl:=h.meths
 have q:=abf (step:=S196_4step 0) (λk (b:Bo)=>((),(m.fld 1).asList,((m.fld 1).asList.length:Int),(k:Int),b,m)) (λb=>((),b,m)) (m.fld 1).asList .bad (λb x=>b++aos x) (λk b=>b.length<=20000000000000+205000000*k) (λk b z Z=>by
  have H:=ab7 z .bad;have d:=h.ok.meth _ H;have o:=h.mfew _ H;have O:=axu _ d o;have U:=d.name;have V:=adh _ o d.note;have W:=d.inn;have Y:=d.out;have M:=ags _ o d.note;have X:205000000*k<=205000000*64:=Nat.mul_le_mul (by omega) (by omega);refine ⟨?_,by grind⟩;simp only [S196_4step,S196_4,abp,aab,z,decide_true,Ad,Ah,M,Aa,abx (i:=k) (by omega),bhv];unfold aos ayg;cases (((((m.fld 1).asList.getD k .bad).fld 3).asInt==(3:Int))||((((m.fld 1).asList.getD k .bad).fld 3).asInt==(4:Int)))<;>cases (((((m.fld 1).asList.getD k .bad).fld 3).asInt==(2:Int))||((((m.fld 1).asList.getD k .bad).fld 3).asInt==(4:Int)))<;>simp (disch:=(first | omega | (simp only [Al,Ak,Aq];omega))) only [Ad,Ae,aj4,a0i,Aa,An,As,At]) (λb _=>by
  simp only [S196_4step,S196_4,abp,Nat.lt_irrefl,decide_false,Ae]) (m.fld 1).asList.length 0 b (by omega) (by omega)
 grind [aum]
theorem bnb (m:PV) (h:SvcOk m) (bs:Bo) (U:bs.length<=10000000000000):F196 0 () m bs=some (bs++svcT m):=by obtain ⟨H,M⟩:=atn m h;have O:=h.ok.name;have d:=ags _ h.few h.ok.note;have o:∀ c:Bo,c.length<=20000000000000->_:=λc z=>a6q m h c z;unfold F196 svcT;simp only [d,Aa,aaq];simp (disch:=(first | omega | (simp only [Al,Ak,Aq];omega))) only [aj4,a0h,o,Aa,An,At,As]
def defG (g:PV->Bo) (b:Bo) (x:PV):Bo:=(bif b==[] then b else b++[10])++g x
theorem a2f (g:PV->Bo):∀ (l:List PV) (b:Bo),(∀ x,x∈l->(g x).length<=20000000000)->(l.foldl (defG g) b).length<=b.length+20000000001*l.length:=by
 intro l;induction l with
 | nil=>intro b _;simp
 | cons x r m=>
  intro b h;have o:=h x (by simp);have z:=m (defG g b x) λy d=>h y (by simp [d]);have H:(defG g b x).length<=b.length+20000000001:=by unfold defG;grind
  grind
theorem lenB (b:Bo):decide ((b.length:Int)>(0:Int))=!(b==([]:Bo)):=by
 cases b with
 | nil=>rfl
 | cons x r=>grind
theorem ben (l:List PV) (V:l.length<=64) (h:∀ x,x∈l->MsgOk x) (b:Bo) (U:b.length<=3000000000000):F191 0 () l () b=some (l.foldl (defG msgT) b):=by
 have q:=abf (step:=S191_2step 0) (λk (b:Bo)=>((),(),l,(l.length:Int),(k:Int),b)) (λb=>b) l .bad (defG msgT) (λk b=>b.length<=3000000000000+20000000001*k) (λk b d O=>by
  have m:=h _ (ab7 d .bad);have H:=a3a _ m;have o:∀ c:Bo,c.length<=10000000000000->_:=λc z=>bml _ m c z;have M:20000000001*k<=20000000001*64:=Nat.mul_le_mul (by omega) (by omega);refine ⟨?_,?_⟩
  ·simp only [S191_2step,S191_2,abp,aab,d,decide_true,Ad,Ah,ay5,Aa,abx (i:=k) (by omega),lenB];unfold defG;cases W:(b==([]:Bo))<;>simp (disch:=(first | omega | (simp only [Al,Ak,Aq];omega))) only [Ap,Ao,Ad,Ae,wrOk,o,Aa]
  ·unfold defG;grind) (λb _=>by
  simp only [S191_2step,S191_2,abp,Nat.lt_irrefl,decide_false,Ae]) l.length 0 b (by omega) (by omega)
 rw [A4] at q;unfold F191;rw [aaq,show (0:Int)=((0:Nat):Int) from rfl,q.1];rfl
theorem a9r (l:List PV) (V:l.length<=64) (h:∀ x,x∈l->EnumOk x) (b:Bo) (U:b.length<=3000000000000):F193 0 () l () b=some (l.foldl (defG agu) b):=by
 have q:=abf (step:=S193_2step 0) (λk (b:Bo)=>((),(),l,(l.length:Int),(k:Int),b)) (λb=>b) l .bad (defG agu) (λk b=>b.length<=3000000000000+20000000001*k) (λk b d O=>by
  have m:=h _ (ab7 d .bad);have H:=aw4 _ m;have o:∀ c:Bo,c.length<=10000000000000->_:=λc z=>bi1 _ m c z;have M:20000000001*k<=20000000001*64:=Nat.mul_le_mul (by omega) (by omega);refine ⟨?_,?_⟩
  ·simp only [S193_2step,S193_2,abp,aab,d,decide_true,Ad,Ah,ay5,Aa,abx (i:=k) (by omega),lenB];unfold defG;cases W:(b==([]:Bo))<;>simp (disch:=(first | omega | (simp only [Al,Ak,Aq];omega))) only [Ap,Ao,Ad,Ae,wrOk,o,Aa]
  ·unfold defG;grind) (λb _=>by
  simp only [S193_2step,S193_2,abp,Nat.lt_irrefl,decide_false,Ae]) l.length 0 b (by omega) (by omega)
 rw [A4] at q;unfold F193;rw [aaq,show (0:Int)=((0:Nat):Int) from rfl,q.1];rfl
theorem bep (l:List PV) (V:l.length<=64) (h:∀ x,x∈l->SvcOk x) (b:Bo) (U:b.length<=3000000000000):F195 0 () l () b=some (l.foldl (defG svcT) b):=by
 have q:=abf (step:=S195_2step 0) (λk (b:Bo)=>((),(),l,(l.length:Int),(k:Int),b)) (λb=>b) l .bad (defG svcT) (λk b=>b.length<=3000000000000+20000000001*k) (λk b d O=>by
  have m:=h _ (ab7 d .bad);have H:=bg4 _ m;have o:∀ c:Bo,c.length<=10000000000000->_:=λc z=>bnb _ m c z;have M:20000000001*k<=20000000001*64:=Nat.mul_le_mul (by omega) (by omega);refine ⟨?_,?_⟩
  ·simp only [S195_2step,S195_2,abp,aab,d,decide_true,Ad,Ah,ay5,Aa,abx (i:=k) (by omega),lenB];unfold defG;cases W:(b==([]:Bo))<;>simp (disch:=(first | omega | (simp only [Al,Ak,Aq];omega))) only [Ap,Ao,Ad,Ae,wrOk,o,Aa]
  ·unfold defG;grind) (λb _=>by
  simp only [S195_2step,S195_2,abp,Nat.lt_irrefl,decide_false,Ae]) l.length 0 b (by omega) (by omega)
 rw [A4] at q;unfold F195;rw [aaq,show (0:Int)=((0:Nat):Int) from rfl,q.1];rfl
structure FileOk (f:PV):Prop where
 ok:OkFile f
 imports:(f.fld 2).asList.length<=16
 msgs:(f.fld 3).asList.length<=64
 msg:∀ x,x∈(f.fld 3).asList->MsgOk x
 enums:(f.fld 4).asList.length<=64
 enum:∀ x,x∈(f.fld 4).asList->EnumOk x
 svcs:(f.fld 5).asList.length<=64
 svc:∀ x,x∈(f.fld 5).asList->SvcOk x
def impT (x:PV):Bo:=[105,109,112,111,114,116,32]++(abi x.asStr++[59,10])
theorem a2o (x:PV) (h:x.asStr.length<=1048576):(impT x).length<=4194400:=by grind [adw,impT,List.length_append,List.length_cons,List.length_nil]
theorem axg (f:PV) (h:FileOk f) (b:Bo) (O:b.length<=10000000):
 aa7 (S85_6step 0) ((),(),(f.fld 2).asList,((f.fld 2).asList.length:Int),(0:Int),f,b)=some ((),(),f,b++(f.fld 2).asList.flatMap impT):=by
 have U:=h.imports
 have q:=abf (step:=S85_6step 0) (λk (b:Bo)=>((),(),(f.fld 2).asList,((f.fld 2).asList.length:Int),(k:Int),f,b)) (λb=>((),(),f,b)) (f.fld 2).asList .bad (λb x=>b++impT x) (λk b=>b.length<=10000000+4194400*k) (λk b d M=>by
  have m:=h.ok.importS _ (ab7 d .bad);have o:=a2o _ m;have z:=adw ((f.fld 2).asList.getD k .bad).asStr;have H:4194400*k<=4194400*16:=Nat.mul_le_mul (by omega) (by omega);refine ⟨?_,by grind⟩;simp only [S85_6step,S85_6,abp,aab,d,decide_true,Ad,Ah,agl _ m,Aa,abx (i:=k) (by omega)];simp (disch:=(first | omega | (simp only [Al,Ak,Aq];omega))) only [aj4,a0h,Aa];simp only [impT,An,As,At]) (λb _=>by
  simp only [S85_6step,S85_6,abp,Nat.lt_irrefl,decide_false,Ae]) (f.fld 2).asList.length 0 b (by omega) (by omega)
 grind [aum]
def topT (f:PV):Bo:=(bif (f.fld 1).asStr==[] then [] else [115,112,97,99,101,32]++((f.fld 1).asStr++[59,10]))++(f.fld 2).asList.flatMap impT
theorem bha (f:PV) (h:FileOk f):(topT f).length<=100000000:=by have m:=auk impT 4194400 (f.fld 2).asList λx d=>a2o x (h.ok.importS x d);have o:=h.ok.space;have z:4194400*(f.fld 2).asList.length<=4194400*16:=Nat.mul_le_mul (by omega) h.imports;unfold topT;cases ((f.fld 1).asStr==([]:Bo))<;>simp only [Ad,Ae,Al,Ak,Aq]<;>omega
noncomputable def akq (f:PV):Bo:=(f.fld 5).asList.foldl (defG svcT) ((f.fld 4).asList.foldl (defG agu) ((f.fld 3).asList.foldl (defG msgT) (topT f)))
theorem azz (f:PV) (h:FileOk f):(topT f).length<=100000000/\((f.fld 3).asList.foldl (defG msgT) (topT f)).length<=1300000000000/\((f.fld 4).asList.foldl (defG agu) ((f.fld 3).asList.foldl (defG msgT) (topT f))).length<=2600000000000:=by have m:=bha f h;have o:=a2f msgT (f.fld 3).asList (topT f) λx d=>a3a x (h.msg x d);have z:=a2f agu (f.fld 4).asList ((f.fld 3).asList.foldl (defG msgT) (topT f)) λx d=>aw4 x (h.enum x d);have H:20000000001*(f.fld 3).asList.length<=20000000001*64:=Nat.mul_le_mul (by omega) h.msgs;have M:20000000001*(f.fld 4).asList.length<=20000000001*64:=Nat.mul_le_mul (by omega) h.enums;grind
theorem a4a (f:PV) (h:FileOk f):F85 0 f=some (akq f):=by
 obtain ⟨U,V,W⟩:=azz f h;have X:=h.ok.space;have m:∀ c:Bo,c.length<=10000000->_:=λc O=>axg f h c O;have o:F191 0 () (f.fld 3).asList () (topT f)=_:=ben _ h.msgs h.msg (topT f) (by omega);have z:=a9r _ h.enums h.enum ((f.fld 3).asList.foldl (defG msgT) (topT f)) (by omega);have H:=bep _ h.svcs h.svc ((f.fld 4).asList.foldl (defG agu) ((f.fld 3).asList.foldl (defG msgT) (topT f))) (by omega);have d:topT f=(bif (f.fld 1).asStr==[] then [] else [115,112,97,99,101,32]++((f.fld 1).asStr++[59,10]))++(f.fld 2).asList.flatMap impT:=rfl;unfold F85 akq;cases M:((f.fld 1).asStr==([]:Bo)) with
 | true=>rw [M] at d;simp only [Ad,At] at d;simp (disch:=(first | omega | (simp only [Al,Ak,Aq];omega))) only [Ap,Ae,aaq,m,At,Aa,<-d,o,z,H,ah9]
 | false=>rw [M] at d;simp only [Ae,An,As,At] at d;simp (disch:=(first | omega | (simp only [Al,Ak,Aq];omega))) only [Ao,Ad,aj4,a0h,aaq,m,Aa,An,As,At,<-d,o,z,H,ah9]
end Go.Ab
namespace Go.Ab
open Go
set_option maxRecDepth 100000
theorem a92 {e:Int}{l:List PV}{t:Int} (h:errN e l t=0):e=0/\aii l t=0:=by unfold errN at h;grind
theorem aw6:∀ (l:List PV) (e:Int),errL l e=0->e=0/\∀ n,n∈l->aii (n.fld 0).asList (n.fld 1).asInt=0:=by
 intro l;induction l with
 | nil=>intro e h;exact ⟨h,λn m=>by cases m⟩
 | cons n r o=>intro e h;obtain ⟨d,z⟩:=o _ h;obtain ⟨H,M⟩:=a92 d;grind
theorem a5b {l:List PV}{t:Int} (h:aii l t=0):l.length<=40:=by grind [aii]
theorem as5 {f:PV} (h:ag4 f=0) {n:PV} (d:n∈ac2 f):(n.fld 0).asList.length<=40:=by grind [aqa,a5b,aw6]
theorem bkq {a b:Int} (d:a<=b) {x:PV} (h:ae7 a x=true):ae7 b x=true:=by unfold ae7 at*;grind
theorem bm4 {x:PV} (h:OkFld x) (d:agr x=true) (M:(x.fld 8).asList.length<=40):RowOk x:=by unfold agr a3m at d;simp only [Ag,Av] at d;obtain ⟨⟨⟨⟨m,o,z,H,_⟩,_⟩,_⟩,_⟩:=d;exact ⟨h,m,o,z,H,M⟩
theorem baf {f:PV} (h:OkFile f) (V:aeo f=true) (O:ag4 f=0) (W:aij f=true):FileOk f:=by
 unfold aeo at V;unfold aij awt at W;simp only [Ag,Av,Bc] at V W;obtain ⟨⟨X,Y⟩,a3⟩:=V;obtain ⟨⟨⟨⟨⟨⟨Z,c2⟩,c3⟩,c4⟩,c5⟩,c6⟩,c7⟩:=W;refine ⟨h,Z,c2,λm M=>?_,c3,λm M=>?_,c4,λm M=>?_⟩
 ·have U:=h.msg m M;have o:=X m M;have d:=c5 m M;unfold apr at o;unfold asn at d;simp only [Ag,Av,Bc] at o d;have z:∀ n,n∈ane m->n∈ac2 f:=λn O=>by
   grind [ac2,List.mem_append_left]
  refine ⟨U,λx H=>bm4 (U.field x H) (o.1.1 x H) ?_,d.1.1,d.1.2,λx H=>bkq (by decide) (o.2 x H),d.2,?_⟩
  ·exact as5 (n:=nv (x.fld 8).asList 2) O (z _ (List.mem_cons_of_mem _ (List.mem_map.2 ⟨x,H,rfl⟩)))
  ·exact as5 (n:=nv (m.fld 4).asList 1) O (z _ (List.mem_cons_self ..))
 ·have U:=h.enum m M;have o:=Y m M;have d:=c6 m M;unfold apq at o;unfold ams at d;simp only [Ag,Av,Bc] at o d;have z:∀ n,n∈ai1 m->n∈ac2 f:=λn O=>by
   grind [ac2,List.mem_append_left,List.mem_append_right]
  refine ⟨U,d.1,λx H=>?_,λx H=>?_,d.2,o.1,?_⟩
  ·have:=o.2 x H;unfold at0 at this;grind
  ·exact as5 (n:=nv (x.fld 2).asList 4) O (z _ (List.mem_cons_of_mem _ (List.mem_map.2 ⟨x,H,rfl⟩)))
  ·exact as5 (n:=nv (m.fld 4).asList 3) O (z _ (List.mem_cons_self ..))
 ·have U:=h.svc m M;have d:=c7 m M;unfold aws at d;simp only [Av] at d;have z:∀ n,n∈au2 m->n∈ac2 f:=λn O=>by
   grind [ac2,List.mem_append_right]
  refine ⟨U,d,λx H=>?_,?_⟩
  ·exact as5 (n:=nv (x.fld 4).asList 6) O (z _ (List.mem_cons_of_mem _ (List.mem_map.2 ⟨x,H,rfl⟩)))
  ·exact as5 (n:=nv (m.fld 2).asList 5) O (z _ (List.mem_cons_self ..))
noncomputable def chkF (f:PV):Int:=
 bif !al3 f then 8 else bif !aeo f then 1 else bif !ars f then 7 else bif ag4 f != 0 then ag4 f else bif !aij f then 3 else bif decide (((akq f).length:Int)>16384) then 3 else 0
theorem a6v (f:PV) (h:OkFile f):(ac2 f).length<=100000000:=by
 have z:=h.many;have e:∀ (g:PV->List PV) (i:Nat),(∀ m,(g m).length=(m.fld i).asList.length+1)->∀ l:List PV,(l.flatMap g).length=aeh l i:=by
  intro g i d l;induction l with
  | nil=>rfl
  | cons m r o=>rw [List.flatMap_cons,Al,o,d];rfl
 grind [ac2,List.length_append,ane,ai1,au2]
theorem bhu (f:PV) (h:OkFile f):F39 0 f=some (chkF f):=by
 have q:=at4 f (ac2 f) (a6v f h) (bbt f h) (ac2 f).length 0 (by omega);rw [A4,aqa] at q;unfold F39 chkF;simp only [bfw f h,Aa,a7f f h,bg8 f h,nl_eq f h,aaq];rw [show (0:Int)=((0:Nat):Int) from rfl,q];cases al3 f with
 | false=>rfl
 | true=>
  cases z:aeo f with
  | false=>rfl
  | true=>
   cases ars f with
   | false=>rfl
   | true=>
    by_cases d:ag4 f=0
    ·simp only [d,Ap,Ae,Bk,Ad,Aa,aba,a9n f h];cases H:aij f with
     | false=>rfl
     | true=>simp only [Ap,Ao,Ad,Ae,a4a f (baf h z d H),Aa];grind
    ·have m:(ag4 f==(0:Int))=false:=beqI d;have o:(ag4 f != (0:Int))=true:=bneI d;simp only [Ap,Ae,m,o,Aa,ab3];grind
theorem a2c {f:PV} (h:OkFile f) (d:chkF f=0):FileOk f:=by
 unfold chkF at d;cases m:al3 f<;>rw [m] at d
 ·cases d
 cases o:aeo f<;>rw [o] at d
 ·cases d
 cases z:ars f<;>rw [z] at d
 ·cases d
 simp only [Ap,Ae] at d;by_cases H:ag4 f=0
 ·grind [aij,baf]
 grind
theorem bga (f:PV) (h:OkFile f):F41 0 f=some (bif chkF f != 0 then [] else akq f):=by
 unfold F41;rw [bhu f h,Aa];by_cases d:chkF f=0
 ·grind [a4a,a2c]
 grind
end Go.Ab
namespace Go.Ab
open Go
set_option maxRecDepth 100000
theorem asm (v:PV):abq v.asList<=aar v:=by cases v<;>simp [PV.asList,abq,aar]
theorem awn (v:PV) (i:Nat):aar (v.fld i)<=aar v:=by
 unfold PV.fld;cases v with
 | agg xs=>
  show aar (xs.getD i .bad)<=abq xs+1;by_cases h:i<xs.length
  ·have:xs.getD i .bad∈xs:=by rw [afp h];exact List.getElem_mem h
   have:=aki this;omega
  ·have:xs.getD i .bad=.bad:=by simp [List.getD,Bj (Nat.le_of_not_lt h)]
   rw [this];simp [aar]
 | _=>simp [PV.parts,aar]
theorem bmem {xs:List PV}{n i:Nat} (d:abq xs<=n) (h:i<xs.length):aar (xs.getD i .bad)<=n:=by
 have:xs.getD i .bad∈xs:=by rw [afp h];exact List.getElem_mem h
 have:=aki this;omega
theorem bsub {v:PV}{n:Nat} (d:aar v<=n) (i:Nat):abq (v.fld i).asList<=n:=by have:=awn v i;have:=asm (v.fld i);omega
theorem blen {v:PV}{n:Nat} (d:aar v<=n) (i:Nat):(v.fld i).asList.length<=n:=by have:=bsub d i;have:=adq (v.fld i).asList;omega
theorem a3w (xs:List PV) (M:xs.length<=1048576):∃ n,F79 0 xs=some n:=by
 obtain ⟨r,m,_⟩:=alx (step:=S79_4step 0) (λx=>xs.length-x.2.2.toNat) (λx=>x.1=xs/\∃ i:Nat,x.2.2=(i:Int)/\i<=xs.length) (λ_=>True) (λx z=>by
  obtain ⟨a,n,j⟩:=x;have m:a=xs:=z.1;obtain ⟨i,o,H⟩:=z.2;simp only at o H;rw [m,o];by_cases d:i<xs.length
  ·refine Or.inl ⟨(xs,_,((i+1:Nat):Int)),by simp only [S79_4step,S79_4,aby,aab,d,decide_true,Ad,anu i (by omega)];rfl,⟨rfl,i+1,rfl,by omega⟩,?_⟩;show xs.length-((i+1:Nat):Int).toNat<xs.length-(i:Int).toNat;omega
  ·exact Or.inr ⟨n,by simp only [S79_4step,S79_4,aby,d,decide_false,Ae],trivial⟩) (xs,0,0) ⟨rfl,0,rfl,by omega⟩
 refine ⟨r,?_⟩;show (aa7 (S79_4step 0) (xs,0,0)).bind _=_;rw [m];rfl
theorem few_6 (a:PV) (H:aar a<=1048576) (n:Int):∃ r,aau 0 (S38_6step 0) ((),n,(0:Int),a)=some r/\(match r with | .inl _=>True | .inr y=>y.2.2=a):=by
 have Y:=blen H 3;refine alx (step:=S38_6step 0) (λx=>(a.fld 3).asList.length-x.2.2.1.toNat) (λx=>x.2.2.2=a/\∃ i:Nat,x.2.2.1=(i:Int)/\i<=(a.fld 3).asList.length) (λr=>match r with | .inl _=>True | .inr y=>y.2.2=a) (λx W=>?_) ((),n,0,a) ⟨rfl,0,rfl,by omega⟩;obtain ⟨u,n,j,d⟩:=x;obtain ⟨z,i,O,X⟩:=W;simp only at O z;subst O;subst z;by_cases m:i<(d.fld 3).asList.length
 ·have V:aar ((d.fld 3).asList.getD i .bad)<=1048576:=bmem (bsub H 3) m;obtain ⟨k,U⟩:=a3w (((d.fld 3).asList.getD i .bad).fld 3).asList (blen V 3);have o:S38_6step 0 ((),n,(i:Int),d)=(bif (bif (bif decide ((((((d.fld 3).asList.getD i .bad).fld 1).asList.length:Int))>(70:Int)) then true else decide ((((((d.fld 3).asList.getD i .bad).fld 2).asList.length:Int))>(70:Int))) then true else decide ((((((d.fld 3).asList.getD i .bad).fld 3).asList.length:Int))>(70:Int))) then some (.inr (.inl (false,d))) else some (.inl ((),IntKind.wrap .i64 (n+k),((i+1:Nat):Int),d))):=by
   simp only [S38_6step,S38_6,aby,aab,m,decide_true,Ad,imp,Ah,anu i (by omega),U,Aa]
  cases M:(bif (bif decide ((((((d.fld 3).asList.getD i .bad).fld 1).asList.length:Int))>(70:Int)) then true else decide ((((((d.fld 3).asList.getD i .bad).fld 2).asList.length:Int))>(70:Int))) then true else decide ((((((d.fld 3).asList.getD i .bad).fld 3).asList.length:Int))>(70:Int))) with
  | true=>rw [M] at o;exact Or.inr ⟨_,o,trivial⟩
  | false=>rw [M] at o;refine Or.inl ⟨_,o,⟨rfl,i+1,rfl,by omega⟩,?_⟩;show (d.fld 3).asList.length-((i+1:Nat):Int).toNat<(d.fld 3).asList.length-(i:Int).toNat;omega
 ·exact Or.inr ⟨_,by simp only [S38_6step,S38_6,aby,m,decide_false,Ae];rfl,rfl⟩
theorem bl0 (a:PV) (H:aar a<=1048576) (n:Int):∃ r,aau 0 (S38_13step 0) ((),n,(0:Int),a)=some r/\(match r with | .inl _=>True | .inr y=>y.2.2=a):=by
 have W:=blen H 4;refine alx (step:=S38_13step 0) (λx=>(a.fld 4).asList.length-x.2.2.1.toNat) (λx=>x.2.2.2=a/\∃ i:Nat,x.2.2.1=(i:Int)/\i<=(a.fld 4).asList.length) (λr=>match r with | .inl _=>True | .inr y=>y.2.2=a) (λx U=>?_) ((),n,0,a) ⟨rfl,0,rfl,by omega⟩;obtain ⟨u,n,j,d⟩:=x;obtain ⟨z,i,O,V⟩:=U;simp only at O z;subst O;subst z;by_cases m:i<(d.fld 4).asList.length
 ·have X:aar ((d.fld 4).asList.getD i .bad)<=1048576:=bmem (bsub H 4) m;have o:S38_13step 0 ((),n,(i:Int),d)=(bif (bif decide ((((((d.fld 4).asList.getD i .bad).fld 2).asList.length:Int))>(70:Int)) then true else decide ((((((d.fld 4).asList.getD i .bad).fld 3).asList.length:Int))>(70:Int))) then some (.inr (.inl (false,d))) else some (.inl ((),n,((i+1:Nat):Int),d))):=by
   simp only [S38_13step,S38_13,aby,aab,m,decide_true,Ad,imp,Ah,anu i (by omega)]
  cases M:(bif decide ((((((d.fld 4).asList.getD i .bad).fld 2).asList.length:Int))>(70:Int)) then true else decide ((((((d.fld 4).asList.getD i .bad).fld 3).asList.length:Int))>(70:Int))) with
  | true=>rw [M] at o;exact Or.inr ⟨_,o,trivial⟩
  | false=>rw [M] at o;refine Or.inl ⟨_,o,⟨rfl,i+1,rfl,by omega⟩,?_⟩;show (d.fld 4).asList.length-((i+1:Nat):Int).toNat<(d.fld 4).asList.length-(i:Int).toNat;omega
 ·exact Or.inr ⟨_,by simp only [S38_13step,S38_13,aby,m,decide_false,Ae];rfl,rfl⟩
theorem bl1 (a:PV) (H:aar a<=1048576) (n:Int):∃ r,aau 0 (S38_18step 0) ((),n,(0:Int),a)=some r/\(match r with | .inl _=>True | .inr y=>y.2=a):=by
 have W:=blen H 5;refine alx (step:=S38_18step 0) (λx=>(a.fld 5).asList.length-x.2.2.1.toNat) (λx=>x.2.2.2=a/\∃ i:Nat,x.2.2.1=(i:Int)/\i<=(a.fld 5).asList.length) (λr=>match r with | .inl _=>True | .inr y=>y.2=a) (λx U=>?_) ((),n,0,a) ⟨rfl,0,rfl,by omega⟩;obtain ⟨u,n,j,d⟩:=x;obtain ⟨z,i,O,V⟩:=U;simp only at O z;subst O;subst z;by_cases m:i<(d.fld 5).asList.length
 ·have X:aar ((d.fld 5).asList.getD i .bad)<=1048576:=bmem (bsub H 5) m;have o:S38_18step 0 ((),n,(i:Int),d)=(bif (decide ((((((d.fld 5).asList.getD i .bad).fld 1).asList.length:Int))>(70:Int))) then some (.inr (.inl (false,d))) else some (.inl ((),n,((i+1:Nat):Int),d))):=by
   simp only [S38_18step,S38_18,aby,aab,m,decide_true,Ad,imp,Ah,anu i (by omega)]
  cases M:(decide ((((((d.fld 5).asList.getD i .bad).fld 1).asList.length:Int))>(70:Int))) with
  | true=>rw [M] at o;exact Or.inr ⟨_,o,trivial⟩
  | false=>rw [M] at o;refine Or.inl ⟨_,o,⟨rfl,i+1,rfl,by omega⟩,?_⟩;show (d.fld 5).asList.length-((i+1:Nat):Int).toNat<(d.fld 5).asList.length-(i:Int).toNat;omega
 ·exact Or.inr ⟨_,by simp only [S38_18step,S38_18,aby,m,decide_false,Ae];rfl,rfl⟩
theorem bjc (a:PV) (d:aar a<=1048576):∃ b,F38 0 a=some b:=by
 unfold F38;obtain ⟨k,O⟩:=a3w (a.fld 2).asList (blen d 2);rw [O];generalize (bif (bif _ then true else _) then true else _)=c;cases c with
 | true=>exact ⟨false,rfl⟩
 | false=>
  simp only [Ae,Aa];obtain ⟨U,z,m⟩:=few_6 a d k;rw [z];simp only [Aa];cases U with
  | inl y=>exact ⟨_,rfl⟩
  | inr y=>
   simp only at m;simp only [aba,m];obtain ⟨V,H,o⟩:=bl0 a d y.2.1;rw [H];simp only [Aa];cases V with
   | inl y=>exact ⟨_,rfl⟩
   | inr y=>
    simp only at o;simp only [aba,o];obtain ⟨W,M,X⟩:=bl1 a d y.2.1;rw [M];simp only [Aa];cases W with
    | inl y=>exact ⟨_,rfl⟩
    | inr y=>exact ⟨_,rfl⟩
end Go.Ab
namespace Go.Ab
open Go
set_option maxRecDepth 100000
def avs (x y:PV):Bool:=((x.asStr==y.asStr))
theorem atm (x:PV):avs x x=true:=by simp [avs]
def amj (x y:PV):Bool:=(((x.fld 0).asInt==(y.fld 0).asInt))&&(((x.fld 1).asInt==(y.fld 1).asInt))
theorem arh (x:PV):amj x x=true:=by simp [amj]
def vEq (x y:PV):Bool:=(((x.fld 0).asInt==(y.fld 0).asInt))&&(((x.fld 1).asInt==(y.fld 1).asInt))&&(((x.fld 2).asStr==(y.fld 2).asStr))
theorem a4g (x:PV):vEq x x=true:=by simp [vEq]
def tEq (x y:PV):Bool:=(((x.fld 0).asInt==(y.fld 0).asInt))&&(((x.fld 1).asStr==(y.fld 1).asStr))
theorem bg5 (x:PV):tEq x x=true:=by simp [tEq]
def aen (x y:PV):Bool:=(((x.fld 0).asStr==(y.fld 0).asStr))&&(vEq (x.fld 1) (y.fld 1))
theorem aer (x:PV):aen x x=true:=by simp [aen,a4g]
def axb (x y:PV):Bool:=(((x.fld 0).asInt==(y.fld 0).asInt))&&(((x.fld 1).asStr==(y.fld 1).asStr))&&(((x.fld 2).asInt==(y.fld 2).asInt))&&(((x.fld 3).asInt==(y.fld 3).asInt))&&(tEq (x.fld 4) (y.fld 4))&&(((x.fld 5).asStr==(y.fld 5).asStr))&&(((x.fld 6).asBool==(y.fld 6).asBool))&&(vEq (x.fld 7) (y.fld 7))&&(eqL aen (x.fld 8).asList (y.fld 8).asList)
theorem a5v (x:PV):axb x x=true:=by simp [axb,bg5,a4g,ahq aer]
def au0 (x y:PV):Bool:=(((x.fld 0).asStr==(y.fld 0).asStr))&&(eqL axb (x.fld 1).asList (y.fld 1).asList)&&(eqL amj (x.fld 2).asList (y.fld 2).asList)&&(eqL avs (x.fld 3).asList (y.fld 3).asList)&&(eqL aen (x.fld 4).asList (y.fld 4).asList)
theorem a6r (x:PV):au0 x x=true:=by grind [au0,ahq,a5v,arh,atm,aer]
def aqf (x y:PV):Bool:=(((x.fld 0).asStr==(y.fld 0).asStr))&&(((x.fld 1).asInt==(y.fld 1).asInt))&&(eqL aen (x.fld 2).asList (y.fld 2).asList)
theorem a0d (x:PV):aqf x x=true:=by simp [aqf,ahq aer]
def alb (x y:PV):Bool:=(((x.fld 0).asStr==(y.fld 0).asStr))&&(((x.fld 1).asBool==(y.fld 1).asBool))&&(eqL amj (x.fld 3).asList (y.fld 3).asList)&&(eqL aen (x.fld 4).asList (y.fld 4).asList)&&(eqL aqf (x.fld 2).asList (y.fld 2).asList)
theorem azt (x:PV):alb x x=true:=by grind [alb,ahq,arh,aer,a0d]
def aqo (x y:PV):Bool:=(((x.fld 0).asStr==(y.fld 0).asStr))&&(((x.fld 1).asStr==(y.fld 1).asStr))&&(((x.fld 2).asStr==(y.fld 2).asStr))&&(((x.fld 3).asInt==(y.fld 3).asInt))&&(eqL aen (x.fld 4).asList (y.fld 4).asList)
theorem a0n (x:PV):aqo x x=true:=by simp [aqo,ahq aer]
def ayq (x y:PV):Bool:=(((x.fld 0).asStr==(y.fld 0).asStr))&&(eqL aen (x.fld 2).asList (y.fld 2).asList)&&(eqL aqo (x.fld 1).asList (y.fld 1).asList)
theorem a8c (x:PV):ayq x x=true:=by grind [ayq,ahq,aer,a0n]
def a2l (x y:PV):Bool:=(((x.fld 1).asStr==(y.fld 1).asStr))&&(eqL avs (x.fld 2).asList (y.fld 2).asList)&&(eqL au0 (x.fld 3).asList (y.fld 3).asList)&&(eqL alb (x.fld 4).asList (y.fld 4).asList)&&(eqL ayq (x.fld 5).asList (y.fld 5).asList)
theorem azx (x:PV):a2l x x=true:=by grind [a2l,ahq,atm,a6r,azt,a8c]
theorem a6i {f:PV->PV->Bool} (a b:List PV):decide (a.length=b.length)=true\/eqL f a b=false:=by grind [decide_eq_true,aud]
theorem aha (xs m:List PV) (H:abq xs<=1048576):F37 0 xs m=some (eqL aen xs m):=by
 have O:=adq xs;unfold F37;rw [neLen];by_cases h:xs.length=m.length
 ·have M:decide (xs.length=m.length)=true:=Aj h;have d:aa7 (S37_5step 0) (xs,m,((0:Nat):Int))=some (bif allF (λi=>aen (xs.getD i .bad) (m.getD i .bad)) 0 xs.length then .inr () else .inl false):=
   aix (λi=>(xs,m,(i:Int))) xs.length (λi=>aen (xs.getD i .bad) (m.getD i .bad)) (Sum.inl false:Bool⊕Unit) (Sum.inr ()) (λi z=>by
    have U:aar (xs.getD i .bad)<=1048576:=bmem H z;have o:i<m.length:=by omega
    simp only [S37_5step,S37_5,aby,aab,z,o,decide_true,Ad,Ah,imp,anu i (by omega)];grind [aen,vEq,aep,bne,asInt]) (by
    simp only [S37_5step,S37_5,aby,Nat.lt_irrefl,decide_false,Ae]) xs.length 0 (by omega)
  rw [ald .bad h] at d;simp only [M,Ap,Ae];show (aa7 (S37_5step 0) (xs,m,((0:Nat):Int))).bind _=_;rw [d];cases eqL aen xs m<;>rfl
 grind [aud]
theorem ayo (xs m:List PV) (H:abq xs<=1048576):F86 0 xs m=some (eqL avs xs m):=by
 have M:=adq xs;unfold F86;rw [a5o];by_cases h:xs.length=m.length
 ·have d:=ad8 (step:=S86_4step 0) (λb i=>(xs,m,b,(i:Int))) xs.length (λi=>avs (xs.getD i .bad) (m.getD i .bad)) (λb=>b) (λi z=>by
   have o:i<m.length:=by omega
   simp only [S86_4step,S86_4,aby,aab,z,o,decide_true,Ad,Ah,anu i (by omega)];simp only [avs,aep,Bool.and_true]) (λi=>by
   simp only [S86_4step,S86_4,Ae]) (by
   simp only [S86_4step,S86_4,aby,Nat.lt_irrefl,decide_false,Ad,Ae]) xs.length 0 true (by omega)
  rw [ald .bad h,Bool.true_and] at d;rw [Aj h];show (aa7 (S86_4step 0) (xs,m,true,((0:Nat):Int))).bind _=_;rw [d];rfl
 ·rw [Am h,aud h];show (aa7 (S86_4step 0) (xs,m,false,((0:Nat):Int))).bind _=_;have e:S86_4step 0 (xs,m,false,((0:Nat):Int))=some (.inr false):=by simp only [S86_4step,S86_4,Ae]
  rw [aaf e];rfl
theorem atf (xs m:List PV) (H:abq xs<=1048576):F197 0 xs m=some (eqL amj xs m):=by
 have M:=adq xs;unfold F197;rw [a5o];by_cases h:xs.length=m.length
 ·have d:=ad8 (step:=S197_4step 0) (λb i=>(xs,m,b,(i:Int))) xs.length (λi=>amj (xs.getD i .bad) (m.getD i .bad)) (λb=>b) (λi z=>by
   have o:i<m.length:=by omega
   simp only [S197_4step,S197_4,aby,aab,z,o,decide_true,Ad,Ah,anu i (by omega)];simp only [amj,aep,Bool.and_true]) (λi=>by
   simp only [S197_4step,S197_4,Ae]) (by
   simp only [S197_4step,S197_4,aby,Nat.lt_irrefl,decide_false,Ad,Ae]) xs.length 0 true (by omega)
  rw [ald .bad h,Bool.true_and] at d;rw [Aj h];show (aa7 (S197_4step 0) (xs,m,true,((0:Nat):Int))).bind _=_;rw [d];rfl
 ·rw [Am h,aud h];show (aa7 (S197_4step 0) (xs,m,false,((0:Nat):Int))).bind _=_;have e:S197_4step 0 (xs,m,false,((0:Nat):Int))=some (.inr false):=by simp only [S197_4step,S197_4,Ae]
  rw [aaf e];rfl
theorem bcq (x y:PV) (d:aar x<=1048576):F198 0 x y=some (axb x y):=by unfold F198;simp only [aep,af9,Aa,axb,tEq,vEq,aha _ _ (bsub d 8)];generalize ((x.fld 0).asInt==(y.fld 0).asInt)=m;generalize ((x.fld 1).asStr==(y.fld 1).asStr)=o;generalize ((x.fld 2).asInt==(y.fld 2).asInt)=z;generalize ((x.fld 3).asInt==(y.fld 3).asInt)=H;grind
theorem bbi (a c:PV) (o:aar a<=1048576) (b:Bool) (h:b=true->(a.fld 1).asList.length=(c.fld 1).asList.length):
 aau 0 (S87_4step 0) ((),(),b,(0:Int),a,c)=some (b&&eqL axb (a.fld 1).asList (c.fld 1).asList,a,c):=by
 have M:=blen o 1
 show aa7 (S87_4step 0) ((),(),b,((0:Nat):Int),a,c)=_
 cases b with
 | true=>
  have h:=h rfl
  have d:=ad8 (step:=S87_4step 0) (λb i=>((),(),b,(i:Int),a,c)) (a.fld 1).asList.length (λi=>axb ((a.fld 1).asList.getD i .bad) ((c.fld 1).asList.getD i .bad)) (λb=>(b,a,c)) (λi z=>by
   have H:aar ((a.fld 1).asList.getD i .bad)<=1048576:=bmem (bsub o 1) z;have m:i<(c.fld 1).asList.length:=by omega
   simp only [S87_4step,S87_4,aby,aab,z,m,decide_true,Ad,Ah,anu i (by omega),bcq _ _ H,Aa]) (λi=>by
   simp only [S87_4step,S87_4,Ae]) (by
   simp only [S87_4step,S87_4,aby,Nat.lt_irrefl,decide_false,Ad,Ae]) (a.fld 1).asList.length 0 true (by omega)
  rw [ald .bad h] at d
  exact d
 | false=>
  rw [Bool.false_and]
  exact aaf (by simp only [S87_4step,S87_4,Ae])
theorem bkj (x y:PV) (d:aar x<=1048576):F87 0 x y=some (au0 x y):=by unfold F87;simp only [aep,af9,Aa,a5o,atf _ _ (bsub d 2),ayo _ _ (bsub d 3),aha _ _ (bsub d 4)];rw [bbi x y d _ (by grind)];grind [au0,a6i,axb,decide,eqL,amj,avs,aen]
theorem bfp (a c:PV) (o:aar a<=1048576) (b:Bool) (h:b=true->(a.fld 2).asList.length=(c.fld 2).asList.length):
 aau 0 (S88_4step 0) ((),(),b,(0:Int),a,c)=some (b&&eqL aqf (a.fld 2).asList (c.fld 2).asList,a,c):=by
 have M:=blen o 2
 show aa7 (S88_4step 0) ((),(),b,((0:Nat):Int),a,c)=_
 cases b with
 | true=>
  have h:=h rfl
  have d:=ad8 (step:=S88_4step 0) (λb i=>((),(),b,(i:Int),a,c)) (a.fld 2).asList.length (λi=>aqf ((a.fld 2).asList.getD i .bad) ((c.fld 2).asList.getD i .bad)) (λb=>(b,a,c)) (λi z=>by
   have H:aar ((a.fld 2).asList.getD i .bad)<=1048576:=bmem (bsub o 2) z;have m:i<(c.fld 2).asList.length:=by omega
   simp only [S88_4step,S88_4,aby,aab,z,m,decide_true,Ad,Ah,anu i (by omega),aha _ _ (bsub H 2),aep,af9,Aa];grind [aqf,asInt,eqL,aen]) (λi=>by
   simp only [S88_4step,S88_4,Ae]) (by
   simp only [S88_4step,S88_4,aby,Nat.lt_irrefl,decide_false,Ad,Ae]) (a.fld 2).asList.length 0 true (by omega)
  rw [ald .bad h] at d
  exact d
 | false=>
  rw [Bool.false_and]
  exact aaf (by simp only [S88_4step,S88_4,Ae])
theorem bge (x y:PV) (d:aar x<=1048576):F88 0 x y=some (alb x y):=by unfold F88;simp only [aep,af9,Aa,a5o,atf _ _ (bsub d 3),aha _ _ (bsub d 4)];rw [bfp x y d _ (by grind)];grind [alb,a6i,aqf,decide,asBool,eqL,amj,aen]
theorem bfq (a c:PV) (o:aar a<=1048576) (b:Bool) (h:b=true->(a.fld 1).asList.length=(c.fld 1).asList.length):
 aau 0 (S89_4step 0) ((),(),b,(0:Int),a,c)=some (b&&eqL aqo (a.fld 1).asList (c.fld 1).asList,a,c):=by
 have M:=blen o 1
 show aa7 (S89_4step 0) ((),(),b,((0:Nat):Int),a,c)=_
 cases b with
 | true=>
  have h:=h rfl
  have d:=ad8 (step:=S89_4step 0) (λb i=>((),(),b,(i:Int),a,c)) (a.fld 1).asList.length (λi=>aqo ((a.fld 1).asList.getD i .bad) ((c.fld 1).asList.getD i .bad)) (λb=>(b,a,c)) (λi z=>by
   have H:aar ((a.fld 1).asList.getD i .bad)<=1048576:=bmem (bsub o 1) z;have m:i<(c.fld 1).asList.length:=by omega
   simp only [S89_4step,S89_4,aby,aab,z,m,decide_true,Ad,Ah,anu i (by omega),aha _ _ (bsub H 4),aep,af9,Aa];grind [aqo,asInt,eqL,aen]) (λi=>by
   simp only [S89_4step,S89_4,Ae]) (by
   simp only [S89_4step,S89_4,aby,Nat.lt_irrefl,decide_false,Ad,Ae]) (a.fld 1).asList.length 0 true (by omega)
  rw [ald .bad h] at d
  exact d
 | false=>
  rw [Bool.false_and]
  exact aaf (by simp only [S89_4step,S89_4,Ae])
theorem bkn (x y:PV) (d:aar x<=1048576):F89 0 x y=some (ayq x y):=by unfold F89;simp only [aep,af9,Aa,a5o,aha _ _ (bsub d 2)];rw [bfq x y d _ (by grind)];grind [ayq,a6i,aqo,decide,eqL,aen]
theorem bjx (a c:PV) (o:aar a<=1048576) (b:Bool) (h:b=true->(a.fld 3).asList.length=(c.fld 3).asList.length):
 aau 0 (S42_4step 0) ((),(),b,(0:Int),a,c)=some ((),(),b&&eqL au0 (a.fld 3).asList (c.fld 3).asList,a,c):=by
 have M:=blen o 3
 show aa7 (S42_4step 0) ((),(),b,((0:Nat):Int),a,c)=_
 cases b with
 | true=>
  have h:=h rfl
  have d:=ad8 (step:=S42_4step 0) (λb i=>((),(),b,(i:Int),a,c)) (a.fld 3).asList.length (λi=>au0 ((a.fld 3).asList.getD i .bad) ((c.fld 3).asList.getD i .bad)) (λb=>((),(),b,a,c)) (λi z=>by
   have H:aar ((a.fld 3).asList.getD i .bad)<=1048576:=bmem (bsub o 3) z;have m:i<(c.fld 3).asList.length:=by omega
   simp only [S42_4step,S42_4,aby,aab,z,m,decide_true,Ad,Ah,anu i (by omega),bkj _ _ H,Aa]) (λi=>by
   simp only [S42_4step,S42_4,Ae]) (by
   simp only [S42_4step,S42_4,aby,Nat.lt_irrefl,decide_false,Ad,Ae]) (a.fld 3).asList.length 0 true (by omega)
  rw [ald .bad h] at d
  exact d
 | false=>
  rw [Bool.false_and]
  exact aaf (by simp only [S42_4step,S42_4,Ae])
theorem bfo (a c:PV) (o:aar a<=1048576) (b:Bool) (h:b=true->(a.fld 4).asList.length=(c.fld 4).asList.length):
 aau 0 (S42_8step 0) ((),(),b,(0:Int),a,c)=some ((),(),b&&eqL alb (a.fld 4).asList (c.fld 4).asList,a,c):=by
 have M:=blen o 4
 show aa7 (S42_8step 0) ((),(),b,((0:Nat):Int),a,c)=_
 cases b with
 | true=>
  have h:=h rfl
  have d:=ad8 (step:=S42_8step 0) (λb i=>((),(),b,(i:Int),a,c)) (a.fld 4).asList.length (λi=>alb ((a.fld 4).asList.getD i .bad) ((c.fld 4).asList.getD i .bad)) (λb=>((),(),b,a,c)) (λi z=>by
   have H:aar ((a.fld 4).asList.getD i .bad)<=1048576:=bmem (bsub o 4) z;have m:i<(c.fld 4).asList.length:=by omega
   simp only [S42_8step,S42_8,aby,aab,z,m,decide_true,Ad,Ah,anu i (by omega),bge _ _ H,Aa]) (λi=>by
   simp only [S42_8step,S42_8,Ae]) (by
   simp only [S42_8step,S42_8,aby,Nat.lt_irrefl,decide_false,Ad,Ae]) (a.fld 4).asList.length 0 true (by omega)
  rw [ald .bad h] at d
  exact d
 | false=>
  rw [Bool.false_and]
  exact aaf (by simp only [S42_8step,S42_8,Ae])
theorem bjy (a c:PV) (o:aar a<=1048576) (b:Bool) (h:b=true->(a.fld 5).asList.length=(c.fld 5).asList.length):
 aau 0 (S42_12step 0) ((),(),b,(0:Int),a,c)=some (b&&eqL ayq (a.fld 5).asList (c.fld 5).asList,a,c):=by
 have M:=blen o 5
 show aa7 (S42_12step 0) ((),(),b,((0:Nat):Int),a,c)=_
 cases b with
 | true=>
  have h:=h rfl
  have d:=ad8 (step:=S42_12step 0) (λb i=>((),(),b,(i:Int),a,c)) (a.fld 5).asList.length (λi=>ayq ((a.fld 5).asList.getD i .bad) ((c.fld 5).asList.getD i .bad)) (λb=>(b,a,c)) (λi z=>by
   have H:aar ((a.fld 5).asList.getD i .bad)<=1048576:=bmem (bsub o 5) z;have m:i<(c.fld 5).asList.length:=by omega
   simp only [S42_12step,S42_12,aby,aab,z,m,decide_true,Ad,Ah,anu i (by omega),bkn _ _ H,Aa]) (λi=>by
   simp only [S42_12step,S42_12,Ae]) (by
   simp only [S42_12step,S42_12,aby,Nat.lt_irrefl,decide_false,Ad,Ae]) (a.fld 5).asList.length 0 true (by omega)
  rw [ald .bad h] at d
  exact d
 | false=>
  rw [Bool.false_and]
  exact aaf (by simp only [S42_12step,S42_12,Ae])
theorem bgh (x y:PV) (d:aar x<=1048576):F42 0 x y=some (a2l x y):=by unfold F42;simp only [aep,af9,Aa,a5o,ayo _ _ (bsub d 2)];rw [bjx x y d _ (by grind)];simp only [Aa];rw [bfo x y d _ (by grind)];simp only [Aa];rw [bjy x y d _ (by grind)];simp only [Aa];simp only [a2l];have m:=a6i (f:=au0) (x.fld 3).asList (y.fld 3).asList;generalize decide ((x.fld 3).asList.length=(y.fld 3).asList.length)=z at m ⊢;have o:=a6i (f:=alb) (x.fld 4).asList (y.fld 4).asList;generalize decide ((x.fld 4).asList.length=(y.fld 4).asList.length)=H at o ⊢;grind [a6i,ayq,decide,eqL,avs,au0,alb]
end Go.Ab
namespace Go.Ab
open Go
set_option maxRecDepth 100000
def bm9 (p:UInt8->Bool) (s:Bo):Prop:=∀ c r,s=c::r->p c=false
theorem bfd:((List.range 256).all λb=>(List.range 256).all λd=>!(hex2 b==hex2 d)||b==d)=true:=by kernel_rfl
theorem be4 {b d:Nat} (m:b<256) (o:d<256) (h:hex2 b=hex2 d):b=d:=by have:=Bc.1 bfd b (List.mem_range.2 m);grind
def a9k (b:UInt8) (c:Bo):Prop:=(c=[b]/\b≠34/\b≠92)\/(b=34/\c=[92,34])\/(b=92/\c=[92,92])\/(b=10/\c=[92,110])\/(b=9/\c=[92,116])\/(b=13/\c=[92,114])\/c=92::120::hex2 b.toNat
inductive Codes:Bo->Bo->Prop
 | nil:Codes [] []
 | cons {b:UInt8}{c r q:Bo}:a9k b c->Codes r q->Codes (b::r) (c++q)
theorem a9l:∀ (l:Bo) {r q:Bo},(∀ b,b∈l->b≠34/\b≠92)->Codes r q->Codes (l++r) (l++q):=by
 intro l;induction l with
 | nil=>grind
 | cons b l z=>intro r q m h;have d:=m b (by simp);show Codes (b::(l++r)) ([b]++(l++q));exact .cons (Or.inl ⟨rfl,d.1,d.2⟩) (z (λx o=>m x (by simp [o])) h)
theorem a9e {s:Bo}{i:Nat}{k:UInt8} (h:byteAt s i≠k.toNat):s.getD i 0≠k:=λe=>h (by grind [byteAt])
theorem apx {s:Bo}{i:Nat}{k:UInt8} (h:byteAt s i=k.toNat):s.getD i 0=k:=UInt8.toNat_inj.1 h
theorem aq5 (s:Bo):∀ (m i:Nat),s.length-i<=m->Codes (s.drop i) (abe s i):=by
 intro m;induction m with
 | zero=>intro i hm;rw [A3 (by omega),abe,if_neg (by omega)];exact .nil
 | succ m ih=>
  intro i hm;by_cases hi:i<s.length
  ·have hp:=ahy s i;have z:=ih (i+ado s i) (by omega);rw [abe,if_pos hi];unfold aoi;have X:abj s i<=1->ado s i=1:=λh=>by grind [ado]
   have d:∀ c:Bo,byteAt s i<128\/abj s i=0->a9k (s.getD i 0) c->Codes (s.drop i) (c++abe s (i+ado s i)):=λc hz hc=>by
    have h1:ado s i=1:=X (by
     rcases hz with h | h;· rw [aj0 s i h];grind
     ·omega)
    rw [h1] at z ⊢;rw [aa4 hi 0];exact .cons hc z
   by_cases H:byteAt s i=34
   ·rw [if_pos H];exact d _ (Or.inl (by omega)) (Or.inr (Or.inl ⟨apx H,rfl⟩))
   rw [if_neg H];by_cases M:byteAt s i=92
   ·rw [if_pos M];exact d _ (Or.inl (by omega)) (Or.inr (Or.inr (Or.inl ⟨apx M,rfl⟩)))
   rw [if_neg M];by_cases O:byteAt s i=10
   ·rw [if_pos O];exact d _ (Or.inl (by omega)) (Or.inr (Or.inr (Or.inr (Or.inl ⟨apx O,rfl⟩))))
   rw [if_neg O];by_cases U:byteAt s i=9
   ·rw [if_pos U];exact d _ (Or.inl (by omega)) (Or.inr (Or.inr (Or.inr (Or.inr (Or.inl ⟨apx U,rfl⟩)))))
   rw [if_neg U];by_cases V:byteAt s i=13
   ·rw [if_pos V];exact d _ (Or.inl (by omega)) (Or.inr (Or.inr (Or.inr (Or.inr (Or.inr (Or.inl ⟨apx V,rfl⟩))))))
   rw [if_neg V];by_cases Y:byteAt s i<32\/byteAt s i=127\/abj s i=0
   ·rw [if_pos Y];exact d _ (by omega) (Or.inr (Or.inr (Or.inr (Or.inr (Or.inr (Or.inr rfl))))))
   ·rw [if_neg Y];have Z:abj s i≠0:=by omega
    have W:ado s i=abj s i:=by unfold ado;rw [if_neg Z]
    rw [W] at z ⊢;have e:s.drop i=(s.drop i).take (abj s i)++s.drop (i+abj s i):=by rw [<-Bd,List.take_append_drop]
    rw [show Codes (s.drop i) _=Codes ((s.drop i).take (abj s i)++s.drop (i+abj s i)) _ by rw [<-e]];refine a9l _ (λb hb=>?_) z;obtain ⟨j,hj,rfl⟩:=List.mem_iff_getElem.1 hb;have ab:j<abj s i:=by grind
    have aa:i+j<s.length:=by grind
    have ej:((s.drop i).take (abj s i))[j]=s.getD (i+j) 0:=by grind
    rw [ej];have o:byteAt s (i+j)≠34/\byteAt s (i+j)≠92:=by
     have q0:byteAt s (i+0)=byteAt s i:=rfl;rcases arf (s.length-i) (byteAt s i) (byteAt s (i+1)) (byteAt s (i+2)) (byteAt s (i+3)) (by omega) with h | ⟨h,c⟩ | ⟨h,c⟩ | ⟨h,c⟩ | ⟨h,c⟩
     ·exact absurd h Z
     ·grind [abj]
     ·have h:abj s i=2:=h;have:j=0\/j=1:=by omega
      grind
     ·have h:abj s i=3:=h;have:j=0\/j=1\/j=2:=by omega
      grind
     ·have h:abj s i=4:=h;have:j=0\/j=1\/j=2\/j=3:=by omega
      grind
    exact ⟨a9e o.1,a9e o.2⟩
  grind
def digC (c:UInt8):Bool:=decide (48<=c.toNat/\c.toNat<=57)
theorem a2e {u:Nat} (m:u<100000000000000000000):∀ c,c∈decB u->digC c=true:=by rw [agn m];intro c d;exact Aj ((aik u).1 c d)
theorem bej:∀ f u,decF (f+1) u≠[]:=by intro f u;unfold decF;cases Nat.ble u 9<;>simp
theorem biq (u:Nat):decB u≠[]:=bej 19 u
theorem bfb:((List.range 16).all λb=>(List.range 16).all λd=>!(hexd b==hexd d)||b==d)=true:=by kernel_rfl
theorem bfc {b d:Nat} (m:b<16) (o:d<16) (h:hexd b=hexd d):b=d:=by have:=Bc.1 bfb b (List.mem_range.2 m);grind
theorem be7:∀ (n u v:Nat),u<16^n->v<16^n->hexN n u=hexN n v->u=v:=by
 intro n;induction n with
 | zero=>grind
 | succ n M=>
  intro u v z H h;rw [Nat.pow_succ] at z H;simp only [hexN] at h;have o:(hexN n (u / 16)).length=(hexN n (v / 16)).length:=by grind [ali]
  obtain ⟨d,m⟩:=List.append_inj h o;have O:=M (u / 16) (v / 16) (by omega) (by omega) d;have U:=bfc (Nat.mod_lt _ (by decide)) (Nat.mod_lt _ (by decide)) (by simpa using m);omega
theorem bfa:∀ (a b:Bo),(a.flatMap λc=>hex2 c.toNat)=(b.flatMap λc=>hex2 c.toNat)->a=b:=by
 intro a;induction a with
 | nil=>
  intro b h;cases b with
  | nil=>rfl
  | cons d b=>simp [hex2] at h
 | cons c a z=>
  intro b h;cases b with
  | nil=>simp [hex2] at h
  | cons d b=>simp only [List.flatMap_cons] at h;obtain ⟨m,o⟩:=List.append_inj h rfl;have:=UInt8.toNat_inj.1 (be4 c.toNat_lt d.toNat_lt m);grind
end Go.Ab
namespace Go.Ab
open Go
set_option maxRecDepth 100000
theorem anj {s:Bo} (h:aet s=true):∀ c,c∈s->alnB c=true:=by
 cases s with
 | nil=>all_goals grind
 | cons a r=>unfold aet at h;simp only [Ag,Bc] at h;intro c d;rcases Bl.1 d with rfl | d;all_goals grind [bbh]
theorem kw_at {k:Int} (h:adv k=true):∃ i:Nat,i<8/\k=(i:Int)+1:=by unfold adv at h;simp only [Ag,Av] at h;exact ⟨(k-1).toNat,by omega,by omega⟩
theorem ai2 {s:Bo} (h:noKw s=true) {k:Int} (g:adv k=true):s≠kw k:=by
 obtain ⟨i,H,rfl⟩:=kw_at g;intro e;unfold noKw at h;have d:∀ (n a:Nat),allF (λi=>!(kw ((i:Int)+1)==s)) a n=true->∀ j,a<=j->j<a+n->(kw ((j:Int)+1)==s)=false:=by
  intro n;induction n with
  | zero=>grind
  | succ n M=>intro a m j o z;simp only [allF,Ag] at m;grind
 have:=d 8 0 h i (by omega) (by omega);grind
def TyOk (t:PV):Prop:=tnP t=true/\0<=(t.fld 0).asInt/\(t.fld 0).asInt<=8
theorem ato {t:PV} (h:TyOk t):(adv (t.fld 0).asInt=true/\(t.fld 1).asStr=[]/\afa t=kw (t.fld 0).asInt)\/((t.fld 0).asInt=0/\ac5 (t.fld 1).asStr=true/\noKw (t.fld 1).asStr=true/\afa t=(t.fld 1).asStr):=by
 obtain ⟨d,o,z⟩:=h;unfold tnP at d;unfold afa;cases m:adv (t.fld 0).asInt with
 | true=>grind
 | false=>rw [m] at d;simp only [Ae,Ag] at d;grind [asInt,adv,decide_eq_true]
theorem act {k:Int}{v:PV} (h:ac4 k v=true):aa9 v=k/\vLists v=0/\(if afi k=true then aam v=0 else abn v=[]/\acb k (aam v)=true):=by unfold ac4 at h;grind
theorem a3z {k:Int}{v:PV} (h:ac4 k v=true):amm v=(bif k==1 then (bif aam v==1 then [116,114,117,101] else [102,97,108,115,101])
 else bif k==2 then alp (IntKind.wrap .i64 (aam v)) else bif k==3 then alp (IntKind.wrap .i64 (aam v)) else bif k==7 then abi (abn v) else decB (aam v).toNat):=by
 have d:=(act h).1
 grind [amm]
theorem amv {u v:Nat} (H:u<18446744073709551616) (M:v<18446744073709551616) (U:ab8 u=0->u=9221120237041090560) (nv:ab8 v=0->v=9221120237041090560) (e:ab2 u=ab2 v):u=v:=by
 have d:∀ w:Nat,w<18446744073709551616->ab8 w=1->w=9218868437227405312\/w=18442240474082181120:=λw O h=>by grind [ab8]
 unfold ab2 at e;by_cases m:ab8 u=0
 ·grind
 ·rw [beqI m] at e;by_cases o:ab8 u=1
  ·grind
  ·rw [beqI o] at e;by_cases v0:ab8 v=0
   ·grind
   ·rw [beqI v0] at e;by_cases z:ab8 v=1
    ·grind
    ·rw [beqI z] at e;simp only [Ae] at e;exact be7 16 u v (by omega) (by omega) (List.append_cancel_left e)
theorem bjz {k:Int}{v:PV} (h:ac4 k v=true) (o:k≠9):litT v=bif (k==6)||(k==8) then abi (af5 v) else af5 v:=by
 have d:=(act h).1;have m:aln v=false:=by unfold aln;grind
 grind [litT]
theorem a33 {k:Int}{v:PV} (h:ac4 k v=true):af5 v=bif k==6 then ab2 (aam v).toNat else bif k==8 then [120]++abi ((abn v).flatMap λb=>hex2 b.toNat) else amm v:=by have d:=(act h).1;grind [af5]
theorem arb {n:PV} (h:abk n=true):aeb n∈knownNames/\ac4 (aad (aeb n)) (nVal n)=true:=by unfold abk at h;simp only [Ag] at h;grind [aeb,knownNames,adt,absurd]
end Go.Ab
