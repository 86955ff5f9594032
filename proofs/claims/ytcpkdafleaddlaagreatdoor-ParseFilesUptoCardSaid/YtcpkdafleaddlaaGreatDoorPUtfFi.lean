/- UTF-8: what the printed functions compute. -/
import Derived.Test.YtcpkdafleaddlaaGreatDoorAbLawFi
set_option linter.unusedVariables false
set_option linter.unusedSimpArgs false
set_option linter.unnecessarySimpa false
namespace Go.Ab
open Go
theorem wadd {i k:Nat} (h:i+k<=9223372036854775807):IntKind.wrap .i64 ((i:Int)+(k:Int))=((i+k:Nat):Int):=by rw [<-Int.natCast_add];exact ago h
theorem aj0 {i:Nat} (h:i+1<=9223372036854775807):IntKind.wrap .i64 ((i:Int)+(1:Int))=((i+1:Nat):Int):=wadd (k:=1) h
theorem wadd2 {i:Nat} (h:i+2<=9223372036854775807):IntKind.wrap .i64 ((i:Int)+(2:Int))=((i+2:Nat):Int):=wadd (k:=2) h
theorem gb {d:Type} (b c:Bool) (k:Bool->Option d):((bif b then some c else some false).bind k)=k (b&&c):=by cases b<;>rfl
theorem gand (b c:Bool):(bif b then (b&&c) else false)=(b&&c):=by cases b<;>rfl
theorem aag {d:Type} (b:Bool) (x:d):(bif b then x else x)=x:=by cases b<;>rfl
theorem abh (a b:Nat):decide ((a:Int)<(b:Int))=decide (a<b):=by simp
def betw (s:Bq) (i m d:Nat):Bool:=decide (i<s.length/\m<=byteAt s i/\byteAt s i<=d)
theorem af1 (s:Bq) (i d m:Nat):F320 0 s (i:Int) (d:Int) (m:Int)=some (betw s i d m):=by
 have o:((s.getD i 0).toNat:Int)=(byteAt s i:Int):=rfl;by_cases h:i<s.length
 ·simp only [F320,abh,aab,h,decide_true,Ad,imp,Ag,o,betw,true_and,ge_iff_le,Int.ofNat_le,Bool.decide_and];cases decide (d<=byteAt s i)<;>rfl
 ·simp only [F320,abh,aab,h,decide_false,Ae,Ad,imp,Aj,betw,false_and]
def ahe (s:Bq):Nat->Nat->Bool
 | _,0=>true
 | i,n+1=>betw s i 128 191&&ahe s (i+1) n
theorem a7f:∀ (m:Nat) (s:Bq) (i n k:Nat),n-k=m->k<=n->i+n<=9223372036854775800->aaz (S319_3step 0) (s,(i:Int),(n:Int),(k:Int))=some (bif ahe s (i+k) (n-k) then .inr () else .inl false):=by
 intro m;induction m with
 | zero=>
  intro s i n k U O M;have z:k=n:=by omega
  subst z;rw [aac (y:=.inr ())]
  ·simp [ahe]
  ·simp [S319_3step,S319_3]
 | succ m V=>
  intro s i n k U O M;have d:k<n:=by omega
  have o:F320 0 s ((i+k:Nat):Int) (128:Int) (191:Int)=some (betw s (i+k) 128 191):=af1 s (i+k) 128 191;have e:n-k=(n-(k+1))+1:=by omega
  rw [e,ahe];cases H:betw s (i+k) 128 191 with
  | false=>
   rw [aac (y:=.inl false)]
   ·rfl
   ·rw [H] at o;simp only [S319_3step,S319_3,abh,d,decide_true,Ad,wadd (i:=i) (k:=k) (by omega),o,Aa,Aj]
  | true=>
   rw [aan (x1:=(s,(i:Int),(n:Int),((k+1:Nat):Int)))]
   ·rw [V s i n (k+1) (by omega) (by omega) M];rfl
   ·rw [H] at o;simp only [S319_3step,S319_3,abh,d,decide_true,Ad,wadd (i:=i) (k:=k) (by omega),o,Aa,Am,Ae,aj0 (i:=k) (by omega)]
theorem ao6 (s:Bq) (i n:Nat) (d:i+n<=9223372036854775800):F319 0 s (i:Int) (n:Int)=some (ahe s i n):=by have h:=a7f n s i n 0 (by omega) (by omega) d;unfold F319;rw [aal];have e:((0:Nat):Int)=(0:Int):=rfl;rw [<-e,h];simp only [Nat.add_zero,Nat.sub_zero];cases ahe s i n<;>rfl
theorem aij {c:Bool}{p:Prop} [Decidable p] {d:Option Int}{x r:Nat} (h:c=true ↔ p) (o:d=some (r:Int)):(bif c then some (x:Int) else d)=some ((if p then x else r:Nat):Int):=by
 by_cases m:p
 ·rw [h.2 m];simp [m]
 ·have:c=false:=by cases c with | false=>rfl | true=>exact absurd (h.1 rfl) m
  rw [this];simp [m,o]
theorem size_eq (s:Bq) (i:Nat) (hi:i<s.length) (hs:s.length<=9223372036854775000):F243 0 s (i:Int)=some (sizeAt s i:Int):=by
 have Z:((s.getD i 0).toNat:Int)=(byteAt s i:Int):=rfl;have o:F319 0 s ((i+1:Nat):Int) (1:Int)=some (ahe s (i+1) 1):=ao6 s (i+1) 1 (by omega);have z:F319 0 s ((i+1:Nat):Int) (2:Int)=some (ahe s (i+1) 2):=ao6 s (i+1) 2 (by omega);have H:F319 0 s ((i+1:Nat):Int) (3:Int)=some (ahe s (i+1) 3):=ao6 s (i+1) 3 (by omega);have M:F319 0 s ((i+2:Nat):Int) (1:Int)=some (ahe s (i+2) 1):=ao6 s (i+2) 1 (by omega);have O:F319 0 s ((i+2:Nat):Int) (2:Int)=some (ahe s (i+2) 2):=ao6 s (i+2) 2 (by omega);have V:F320 0 s ((i+1:Nat):Int) (160:Int) (191:Int)=some (betw s (i+1) 160 191):=af1 s (i+1) 160 191;have W:F320 0 s ((i+1:Nat):Int) (128:Int) (159:Int)=some (betw s (i+1) 128 159):=af1 s (i+1) 128 159;have X:F320 0 s ((i+1:Nat):Int) (144:Int) (191:Int)=some (betw s (i+1) 144 191):=af1 s (i+1) 144 191;have Y:F320 0 s ((i+1:Nat):Int) (128:Int) (143:Int)=some (betw s (i+1) 128 143):=af1 s (i+1) 128 143;unfold F243;simp only [aab,hi,decide_true,Ad,Ag,Z,aj0 (i:=i) (by omega),wadd2 (i:=i) (by omega),o,z,H,M,O,V,W,X,Y,gb,gand];unfold sizeAt acr;have nl:∀ k,(i+k<s.length)=(k<s.length-i):=λk=>propext ⟨λh=>by omega,λh=>by omega⟩;simp only [ahe,betw,Bool.and_true,Nat.add_assoc,Nat.reduceAdd,nl,<-Bool.decide_and];generalize byteAt s i=d at*;generalize byteAt s (i+1)=c1 at*;generalize byteAt s (i+2)=c2 at*;generalize byteAt s (i+3)=c3 at*;generalize s.length-i=n at*;clear o z H M O V W X Y nl Z;have U:∀ (k:Nat),(((d:Int)==(k:Int))=true ↔ d=k):=λk=>by simp;omega
 have hd:∀ (k:Nat),(((d:Int) != (k:Int))=true ↔ d≠k):=λk=>by simp;omega
 have m:∀ (a b:Bool),((bif a then b else false)=true ↔ a=true/\b=true):=λa b=>by cases a<;>simp
 refine aij (x:=1) (by simp only [Ay];omega) ?_;refine aij (x:=2) (by simp only [m,Ai,Ay];omega) ?_;refine aij (x:=3) (by have:=U 224;simp only [m,Ai,Ay];rw [show ((d:Int)==224)=((d:Int)==((224:Nat):Int)) from rfl,this];omega) ?_;refine aij (x:=3) (by have:=U 237;simp only [m,Ai,Ay];rw [show ((d:Int)==237)=((d:Int)==((237:Nat):Int)) from rfl,this];omega) ?_;refine aij (x:=3) (by have:=hd 237;simp only [m,Ai,Ay];rw [show ((d:Int) != 237)=((d:Int) != ((237:Nat):Int)) from rfl,this];omega) ?_;refine aij (x:=4) (by have:=U 240;simp only [m,Ai,Ay];rw [show ((d:Int)==240)=((d:Int)==((240:Nat):Int)) from rfl,this];omega) ?_;refine aij (x:=4) (by simp only [m,Ai,Ay];omega) ?_;refine aij (x:=4) (by have:=U 244;simp only [m,Ai,Ay];rw [show ((d:Int)==244)=((d:Int)==((244:Nat):Int)) from rfl,this];omega) ?_;rfl
theorem axk (s:Bq) (V:s.length<=9223372036854775000):∀ (m i:Nat),s.length-i<=m->i<=s.length->aaz (S324_3step 0) (s,(i:Int))=some (bif decide (ae0 s i=-1) then .inr () else .inl (ae0 s i)):=by
 intro m;induction m with
 | zero=>
  intro i U O;have:¬i<s.length:=by omega
  rw [afz,if_neg this];exact aac (by simp only [S324_3step,S324_3,abh,this,decide_false,Ae];rfl)
 | succ m W=>
  intro i U O;by_cases d:i<s.length
  ·rw [afz,if_pos d];have H:=size_eq s i d V;have o:=(as0 (s.length-i) (byteAt s i) (byteAt s (i+1)) (byteAt s (i+2)) (byteAt s (i+3)) (by omega)).1;by_cases z:sizeAt s i=0
   ·rw [if_pos z];rw [show decide ((i:Int)=-1)=false from Al (by omega)];exact aac (by simp only [S324_3step,S324_3,abh,d,decide_true,Ad,H,z,Aa];rfl)
   ·rw [if_neg z];rw [aan (x1:=(s,((i+sizeAt s i:Nat):Int)))]
    ·have:sizeAt s i<=s.length-i:=o;exact W _ (by omega) (by omega)
    ·have M:((sizeAt s i:Int)==(0:Int))=false:=by simp;omega
     have:sizeAt s i<=s.length-i:=o;simp only [S324_3step,S324_3,abh,d,decide_true,Ad,H,Aa,M,Ae,wadd (i:=i) (k:=sizeAt s i) (by omega)]
  ·rw [afz,if_neg d];exact aac (by simp only [S324_3step,S324_3,abh,d,decide_false,Ae];rfl)
theorem a6k (s:Bq) (m:s.length<=9223372036854775000):F324 0 s=some (bad s):=by
 have h:=axk s m s.length 0 (by omega) (by omega);unfold F324;rw [aal,show (0:Int)=((0:Nat):Int) from rfl,h];unfold bad;by_cases d:ae0 s 0=-1
 ·simp [d,sumE]
 ·simp [d,sumE]
theorem aow (s:Bq) (d:s.length<=9223372036854775000):F259 0 s=some (valid s):=by unfold F259;rw [a6k s d];rfl
theorem a0w (s:Bq):F230 0 s ([239,191,189]:Bq)=some (decide ((s.length:Int)>=3)&&(s.take 3==([239,191,189]:Bq))):=by
 unfold F230 F297;have e:((([239,191,189]:Bq).length:Nat):Int)=(3:Int):=rfl;simp only [e];by_cases h:(3:Int)<=(s.length:Int)
 ·have d:decide ((0:Int)<=0/\(0:Int)<=3/\(3:Int)<=(s.length:Int))=true:=by simp;omega
  simp only [d,imp,ge_iff_le,h,decide_true,Ad,Aa,Bool.true_and];rfl
 ·simp only [imp,ge_iff_le,h,decide_false,Ae,Aj,aag,Ad,Aa,Bool.false_and]
theorem azx (s:Bq) (i:Nat) (O:i<s.length):F310 0 s (i:Int) ((aaq s i).1:Int)=some (decide (sizeAt s i=0)):=by
 unfold F310;have o:decide ((0:Int)<=(i:Int)/\(i:Int)<=(s.length:Int)/\(s.length:Int)<=(s.length:Int))=true:=by simp;omega
 have z:=bck s i (by omega);have m:=ag8 s i O;have U:=(anv (s.length-i) (byteAt s i) (byteAt s (i+1)) (byteAt s (i+2)) (byteAt s (i+3))).1;by_cases H:(aaq s i).1=65533
 ·have d:(((aaq s i).1:Int)==(65533:Int))=true:=by simp;omega
  simp only [d,o,imp,Ad,Ag,a0w,z,Aa];rw [m];by_cases M:2<s.length-i/\byteAt s i=239/\byteAt s (i+1)=191/\byteAt s (i+2)=189
  ·simp only [M,and_self,decide_true,Am,not_true_eq_false,and_false,A7];have:(aaq s i).2≠0:=by grind [aaq]
   simp [this]
  grind
 ·have d:(((aaq s i).1:Int)==(65533:Int))=false:=by simp;omega
  simp only [d,imp,Ad,Ae,Aj,Aa];rw [m,if_neg (by simp [H])];have:(aaq s i).2≠0:=by grind [aaq]
  simp [this]
theorem a8a (s:Bq):∀ (m i:Nat),s.length-i<=m->i<=s.length->∃ y,aaz (S280_3step 0) (s,(),s,(i:Int))=some y/\(ae0 s i=-1->∃ z,y=.inr z)/\(ae0 s i≠-1->∃ z,y=.inl (ae0 s i,z)):=by
 intro m;induction m with
 | zero=>
  intro i W V;have d:¬i<s.length:=by omega
  rw [afz,if_neg d];refine ⟨_,aac (y:=.inr (s,(i:Int))) ?_,λ_=>⟨_,rfl⟩,λh=>absurd rfl h⟩;simp only [S280_3step,S280_3,Ag,d,decide_false,Ae]
 | succ m Y=>
  intro i W V;by_cases d:i<s.length
  ·rw [afz,if_pos d];have M:=azx s i d;have O:=ahu s i;have Z:=ag8 s i d;have H:=(as0 (s.length-i) (byteAt s i) (byteAt s (i+1)) (byteAt s (i+2)) (byteAt s (i+3)) (by omega)).1;by_cases o:sizeAt s i=0
   ·rw [if_pos o];refine ⟨.inl ((i:Int),s,((i+(aaq s i).2:Nat):Int)),aac ?_,λh=>by omega,λ_=>⟨_,rfl⟩⟩;simp only [S280_3step,S280_3,Ag,d,decide_true,Ad,O,M,o,Aa]
   ·rw [if_neg o];have U:sizeAt s i=(aaq s i).2:=by
     grind
    rw [aan (x1:=(s,(),s,((i+sizeAt s i:Nat):Int)))]
    ·have:sizeAt s i<=s.length-i:=H;exact Y _ (by omega) (by omega)
    ·have X:decide (sizeAt s i=0)=false:=Al o;rw [X] at M;simp only [S280_3step,S280_3,Ag,d,decide_true,Ad,O,M,Ae,Aa,U]
  grind
theorem bad_eq (s:Bq):F280 0 s=some (bad s):=by
 obtain ⟨y,h,m,o⟩:=a8a s s.length 0 (by omega) (by omega);unfold F280;rw [aal,h];unfold bad;by_cases d:ae0 s 0=-1
 ·obtain ⟨z,rfl⟩:=m d;rw [d];rfl
 ·obtain ⟨z,rfl⟩:=o d;rfl
theorem ate (s:Bq):F185 0 s=some (valid s):=by unfold F185;rw [bad_eq s];rfl
end Go.Ab
namespace Go.Ab
open Go
theorem atq {o:Type} (f:o->Bool) (d:o):∀ (xs m:List o),allF (λi=>f ((m++xs).getD i d)) m.length xs.length=xs.all f:=by
 intro xs;induction xs with
 | nil=>intro m;rfl
 | cons x r H=>
  intro m;simp only [Ao,allF,Bh];have z:(m++x::r).getD m.length d=x:=by simp [List.getD]
  rw [z];have:=H (m++[x]);rw [show m++x::r=m++[x]++r by simp,<-this];simp
theorem a2t {m:Type} (f:m->Bool) (d:m) (xs:List m):allF (λi=>f (xs.getD i d)) 0 xs.length=xs.all f:=atq f d xs []
def lowB (b:Nat):Bool:=decide (97<=b/\b<=122)
def capB (b:Nat):Bool:=decide (65<=b/\b<=90)
def digB (b:Nat):Bool:=decide (48<=b/\b<=57)
def letB (b:UInt8):Bool:=lowB b.toNat||capB b.toNat
def alnB (b:UInt8):Bool:=lowB b.toNat||capB b.toNat||digB b.toNat||decide (b.toNat=95)
theorem an9 {b:UInt8} (h:letB b=true):alnB b=true:=by unfold letB at h;unfold alnB;rw [h];rfl
def acj (s:Bq):Bool:=
 match s with
 | []=>false
 | c::r=>decide (r.length+1<=40)&&letB c&&r.all alnB
def ae2 (s:Bq):Bool:=decide (s.length<=120)&&(abb 46 s).all acj
def aik (s:Bq):Bool:=
 match s with
 | []=>ae2 []
 | c::r=>bif c==46 then ae2 r else ae2 (c::r)
theorem a2b (c:UInt8) (b:Bq):∀ a,abb c (a++c::b)=abb c a++abb c b:=by
 intro a;induction a with
 | nil=>simp [abb]
 | cons x a d=>
  simp only [Bb,abb];cases h:(x==c) with
  | true=>simp only [Ad,d,Bb]
  | false=>
   simp only [Ae,d];have:=ak4 c a;cases m:abb c a with
   | nil=>exact absurd m this
   | cons y q=>simp
theorem ao2 (c:UInt8):∀ b,c∉b->abb c b=[b]:=by
 intro b;induction b with
 | nil=>intro _;rfl
 | cons x b m=>
  intro h;simp only [Bl,not_or] at h;have d:(x==c)=false:=by rw [At];exact λe=>h.1 e.symm
  simp only [abb,d,Ae,m h.2]
def aug:Bq->Bq->Bool
 | part,[]=>acj part
 | part,b::r=>bif b==46 then acj part&&aug [] r else aug (part++[b]) r
def glue (d:Bq):List Bq->List Bq
 | []=>[d]
 | x::q=>(d++x)::q
theorem a8w:∀ (r d:Bq),aug d r=(glue d (abb 46 r)).all acj:=by
 intro r;induction r with
 | nil=>intro d;simp [aug,abb,glue]
 | cons b r o=>
  intro d;simp only [aug,abb];cases h:(b==46) with
  | true=>
   simp only [Ad,glue,List.append_nil,Bh,o];have:=ak4 46 r;cases m:abb 46 r with
   | nil=>exact absurd m this
   | cons x q=>simp [glue]
  | false=>
   simp only [Ae,o];have:=ak4 46 r;cases m:abb 46 r with
   | nil=>exact absurd m this
   | cons x q=>simp [glue]
theorem a4e (r:Bq):aug [] r=(abb 46 r).all acj:=by
 rw [a8w];have:=ak4 46 r;cases d:abb 46 r with
 | nil=>exact absurd d this
 | cons x q=>simp [glue]
end Go.Ab
namespace Go.Ab
open Go
set_option maxRecDepth 100000
theorem ace {m:Type}{l:List m}{i:Nat} (h:i<l.length) (d:m):l.getD i d∈l:=by grind
theorem aa9 {i:Nat} (h:i<=9223372036854775000):IntKind.wrap .i64 ((i:Int)+1)=((i+1:Nat):Int):=aj0 (by omega)
theorem geI (a b:Nat):decide ((a:Int)>=(b:Int))=decide (b<=a):=by grind
theorem leI (a b:Nat):decide ((a:Int)<=(b:Int))=decide (a<=b):=by grind
theorem neB (a b:Nat):((a:Int) != (b:Int))=!decide (a=b):=by grind
theorem eqB (a b:Nat):((a:Int)==(b:Int))=decide (a=b):=by grind
theorem a0a (b c:UInt8):decide (b.toNat=c.toNat)=(b==c):=by grind [UInt8.toNat_inj,decide_eq_false]
def clsN (b:Nat):Int:=bif lowB b then 1 else bif capB b then 2 else bif digB b then 3 else bif decide (b=95) then 4 else 0
theorem aym (b:Nat):F285 0 (b:Int)=some (clsN b):=by unfold F285 clsN;rw [show (97:Int)=((97:Nat):Int) from rfl,show (122:Int)=((122:Nat):Int) from rfl,show (65:Int)=((65:Nat):Int) from rfl,show (90:Int)=((90:Nat):Int) from rfl,show (48:Int)=((48:Nat):Int) from rfl,show (57:Int)=((57:Nat):Int) from rfl,show (95:Int)=((95:Nat):Int) from rfl];grind [geI,leI,eqB,lowB,capB,digB,Bool.decide_and,decide]
theorem a8f {b:Nat} (h:128<=b):clsN b=0:=by have d:lowB b=false:=Al (by omega);have m:capB b=false:=Al (by omega);have o:digB b=false:=Al (by omega);have z:decide (b=95)=false:=Al (by omega);simp only [clsN,d,m,o,z,Ae]
theorem cls0 (b:UInt8):(clsN b.toNat==0)=!alnB b:=by grind [clsN,alnB,lowB,capB,digB,decide]
theorem bd3 (b:UInt8):(bif (clsN b.toNat != 1) then (clsN b.toNat != 2) else false)=!letB b:=by grind [clsN,letB,lowB,capB,digB,decide]
def okAt (i:Nat) (b:UInt8):Bool:=alnB b&&(!decide (i=0)||letB b)
def aqm:Nat->Bq->Bool
 | _,[]=>true
 | i,b::r=>okAt i b&&aqm (i+1) r
theorem a1b:∀ (r:Bq) (i:Nat),aqm (i+1) r=r.all alnB:=by
 intro r;induction r with
 | nil=>intro i;rfl
 | cons b r d=>grind [aqm,okAt,decide_eq_false]
theorem a6c (s:Bq):∀ (m i:Nat),s.length-i<=m->i<=s.length->∃ z,aaz (S202_3step 0) (s,(),s,(i:Int))=some (bif aqm i (s.drop i) then .inr (s,z) else .inl (false,z)):=by
 intro m;induction m with
 | zero=>
  intro i hm Z;have o:¬i<s.length:=by omega
  rw [Aq (by omega)];exact ⟨_,aac (by simp only [S202_3step,S202_3,Ag,o,decide_false,Ae];rfl)⟩
 | succ m ih=>
  intro i hm Z;by_cases o:i<s.length
  ·have U:((i:Int)==(0:Int))=decide (i=0):=eqB i 0;rw [aaj o 0,aqm];by_cases X:byteAt s i<128
   ·have V:=afe s i X;have H:F285 0 (byteAt s i:Int)=some (clsN (s.getD i 0).toNat):=aym _;cases d:okAt i (s.getD i 0) with
    | true=>
     obtain ⟨z,hz⟩:=ih (i+1) (by omega) (by omega);refine ⟨z,?_⟩;rw [Bool.true_and,<-hz];refine aan ?_;unfold okAt at d;simp only [S202_3step,S202_3,Ag,o,decide_true,Ad,ahu,V,H,Aa,cls0,U];cases M:alnB (s.getD i 0) with
     | false=>grind
     | true=>
      rw [M] at d;cases O:decide (i=0) with
      | false=>rfl
      | true=>rw [O] at d;have W:=bd3 (s.getD i 0);grind
    | false=>
     refine ⟨(s,((i+1:Nat):Int)),aac ?_⟩;unfold okAt at d;simp only [S202_3step,S202_3,Ag,o,decide_true,Ad,ahu,V,H,Aa,cls0,U,Bool.false_and,Ae];cases M:alnB (s.getD i 0) with
     | false=>rfl
     | true=>
      rw [M] at d;cases O:decide (i=0) with
      | false=>grind
      | true=>rw [O] at d;have W:=bd3 (s.getD i 0);grind
   ·have Y:=anw s i (by omega);have H:=aym (aaq s i).1;rw [a8f Y] at H;have d:okAt i (s.getD i 0)=false:=by
     unfold okAt alnB lowB capB digB;have:byteAt s i=(s.getD i 0).toNat:=rfl;grind
    refine ⟨(s,((i+(aaq s i).2:Nat):Int)),aac ?_⟩;rw [d];simp only [S202_3step,S202_3,Ag,o,decide_true,Ad,ahu,H,Aa,Bool.false_and,Ae];rfl
  grind
theorem ah3 (s:Bq):F202 0 s=some (acj s):=by
 obtain ⟨z,H⟩:=a6c s s.length 0 (by omega) (by omega);unfold F202;rw [aal,H,A1];cases s with
 | nil=>rfl
 | cons c r=>
  rw [aqm,a1b];have d:decide (((c::r).length:Int)>=(1:Int))=true:=Ah (by grind);have m:decide (((c::r).length:Int)<=(40:Int))=decide (r.length+1<=40):=leI _ 40;have o:okAt 0 c=letB c:=by grind [okAt,letB,an9]
  rw [o,acj];cases letB c<;>cases r.all alnB<;>simp only [Bool.and_false,Bool.and_true,Bool.false_and,Bool.true_and,Ad,Ae,Aa,ab0,aa7,d,m]
theorem azo (b:Nat):F341 0 (b:Int)=some (lowB b):=by unfold F341 lowB;rw [show (97:Int)=((97:Nat):Int) from rfl,show (122:Int)=((122:Nat):Int) from rfl];simp only [geI,leI,Bool.decide_and];cases decide (97<=b)<;>rfl
theorem ap4 (b:Nat):F342 0 (b:Int)=some (capB b):=by unfold F342 capB;rw [show (65:Int)=((65:Nat):Int) from rfl,show (90:Int)=((90:Nat):Int) from rfl];simp only [geI,leI,Bool.decide_and];cases decide (65<=b)<;>rfl
theorem au7 (s:Bq) (O:s.length<=9223372036854770000):∀ k i,i+k=s.length->aaz (S295_5step 0) (s,(i:Int))=some (bif allF (λi=>alnB (s.getD i 0)) i k then .inr () else .inl false):=
 ah5 (λi=>(s,(i:Int))) s.length (λi=>alnB (s.getD i 0)) (Sum.inl false:Bool⊕Unit) (Sum.inr ()) (λi M=>by
  have d:=azo (s.getD i 0).toNat;have m:=ap4 (s.getD i 0).toNat;have o:(((s.getD i 0).toNat:Int) != (95:Int))=!decide ((s.getD i 0).toNat=95):=neB _ 95;have z:decide (((s.getD i 0).toNat:Int)<(48:Int))=!decide (48<=(s.getD i 0).toNat):=by rw [<-decide_not,decide_eq_decide];omega
  have H:decide (((s.getD i 0).toNat:Int)>(57:Int))=!decide ((s.getD i 0).toNat<=57):=by rw [<-decide_not,decide_eq_decide];omega
  simp only [S295_5step,S295_5,ay5,aab,M,decide_true,Ag,d,m,o,z,H,Aa,aa9 (i:=i) (by omega),Ad];unfold alnB digB;rw [Bool.decide_and];cases lowB (s.getD i 0).toNat<;>cases capB (s.getD i 0).toNat<;>cases decide ((s.getD i 0).toNat=95)<;>cases decide (48<=(s.getD i 0).toNat)<;>cases decide ((s.getD i 0).toNat<=57)<;>rfl) (by
  simp only [S295_5step,S295_5,ay5,Nat.lt_irrefl,decide_false,Ae])
theorem ai3 (s:Bq) (V:s.length<=9223372036854770000):F295 0 s=some (acj s):=by
 unfold F295;cases s with
 | nil=>rfl
 | cons c r=>
  have d:=au7 (c::r) V r.length 1 (by simp [Nat.add_comm]);rw [show ((1:Nat):Int)=(1:Int) from rfl] at d;have U:allF (λi=>alnB ((c::r).getD i 0)) 1 r.length=r.all alnB:=atq alnB 0 r [c];rw [U] at d;have m:(((c::r).length:Int)==(0:Int))=false:=Eq.trans (eqB (c::r).length 0) (by simp);have o:decide (((c::r).length:Int)>(40:Int))=!decide (r.length+1<=40):=by rw [<-decide_not,decide_eq_decide];simp only [Ao];omega
  have z:aaa (0:Int) (c::r).length=true:=by rw [show (0:Int)=((0:Nat):Int) from rfl,aab];simp
  have M:=azo c.toNat;have O:=ap4 c.toNat;have H:((((c::r).getD (0:Int).toNat 0).toNat:Nat):Int)=(c.toNat:Int):=rfl;rw [acj,letB];simp only [m,o,z,H,M,O,Ae,aal,d];cases decide (r.length+1<=40)<;>cases lowB c.toNat<;>cases capB c.toNat<;>cases r.all alnB<;>rfl
theorem a4f (s:Bq) (xs:List Bq) (o:xs.length<=9223372036854770000):aaz (S140_3step 0) (s,xs.map PV.str,((xs.map PV.str).length:Int),((0:Nat):Int))=some (bif xs.all acj then .inr s else .inl false):=by
 have h:=ah5 (step:=S140_3step 0) (λi=>(s,xs.map PV.str,((xs.map PV.str).length:Int),(i:Int))) (xs.map PV.str).length (λi=>acj ((xs.map PV.str).getD i .bad).asStr) (Sum.inl false:Bool⊕Bq) (Sum.inr s) (λi d=>by
  have m:i<xs.length:=by simpa using d
  simp only [S140_3step,S140_3,ay5,aab,d,decide_true,Ad,Ag,ah3,Aa,aa9 (i:=i) (by omega)];grind) (by
  simp only [S140_3step,S140_3,ay5,Nat.lt_irrefl,decide_false,Ae]) (xs.map PV.str).length 0 (by omega)
 rw [a2t (λx:PV=>acj x.asStr),List.all_map] at h;exact h
theorem aqw (c:UInt8):∀ s,(abb c s).length<=s.length+1:=by
 intro s;induction s with
 | nil=>simp [abb]
 | cons b r d=>simp only [abb];grind
theorem aun (s:Bq) (d:s.length<=1048576):ang 0 s ([46]:Bq)=some ((abb 46 s).map PV.str):=by
 unfold ang;have:Nat.blt s.length 4294967281=true:=by rw [Nat.blt_eq];omega
 grind
theorem akh (s:Bq) (d:s.length<=1048576):F140 0 s=some (ae2 s):=by have m:=aqw 46 s;unfold F140 ae2;have e:decide ((s.length:Int)<=(120:Int))=decide (s.length<=120):=leI _ 120;rw [aun s d,Aa,aal,show (0:Int)=((0:Nat):Int) from rfl,a4f s _ (by omega)];grind [abb,acj,sumE]
theorem au6 (s:Bq) (hs:s.length<=1048576):∀ (m i:Nat) (d:Bq),s.length-i<=m->i<=s.length->d.length<=i->
 ∃ y,aaz (S219_6step 0) (s,d,(i:Int))=some y/\sumE (λb=>some b) (λp=>some (acj p)) y=some (aug d (s.drop i))/\∀ p,y=.inr p->p.length<=s.length:=by
 intro m
 induction m with
 | zero=>
  intro i d hm hi hp
  have o:¬i<s.length:=by omega
  rw [Aq (by omega)]
  exact ⟨.inr d,aac (by simp only [S219_6step,S219_6,abh,o,decide_false,Ae]),rfl,λp h=>by cases h;omega⟩
 | succ m Z=>
  intro i d hm hi hp
  by_cases o:i<s.length
  ·rw [aaj o 0,aug];have z:(((s.getD i 0).toNat:Int) != (46:Int))=!(s.getD i 0==46):=by
    exact (neB (s.getD i 0).toNat 46).trans (congrArg (!·) (a0a (s.getD i 0) 46))
   cases Y:(s.getD i 0==46) with
   | false=>
    obtain ⟨y,M,O,U⟩:=Z (i+1) (d++[s.getD i 0]) (by omega) (by omega) (by simp;omega);refine ⟨y,?_,O,U⟩;rw [<-M];refine aan ?_;have V:decide ((0:Int)<=(i:Int)/\(i:Int)<=((i+1:Nat):Int)/\((i+1:Nat):Int)<=(s.length:Int))=true:=Ah (by omega);have X:(s.take (i+1)).drop i=[s.getD i 0]:=by rw [List.drop_take,show i+1-i=1 by omega,aaj o 0];rfl
    have W:decide (d.length+[s.getD i 0].length<=aau)=true:=Ah (by unfold aau;simp;omega);rw [Y] at z;simp only [S219_6step,S219_6,abh,o,decide_true,Ad,aab,Ag,z,Aj,aa9 (i:=i) (by omega),V,X,W]
   | true=>
    rw [Y] at z;simp only [Ad];cases H:acj d with
    | false=>refine ⟨.inl false,aac ?_,rfl,λp h=>by cases h⟩;simp only [S219_6step,S219_6,abh,o,decide_true,Ad,aab,Ag,z,Am,Ae,ai3 d (by omega),H,Aa,Aj]
    | true=>obtain ⟨y,M,O,U⟩:=Z (i+1) [] (by omega) (by omega) (by simp);refine ⟨y,?_,by rw [Bool.true_and];exact O,U⟩;rw [<-M];refine aan ?_;simp only [S219_6step,S219_6,abh,o,decide_true,Ad,aab,Ag,z,Am,Ae,ai3 d (by omega),H,Aa,aa9 (i:=i) (by omega)]
  ·rw [Aq (by omega)];exact ⟨.inr d,aac (by simp only [S219_6step,S219_6,abh,o,decide_false,Ae]),rfl,λp h=>by cases h;omega⟩
theorem ad4 (s:Bq) (z:s.length<=1048576):F219 0 s=some (ae2 s):=by
 obtain ⟨y,m,d,o⟩:=au6 s z s.length 0 [] (by omega) (by omega) (by simp);rw [A1,a4e] at d;unfold F219 ae2;have e:decide ((s.length:Int)>(120:Int))=!decide (s.length<=120):=by rw [<-decide_not,decide_eq_decide];omega
 rw [aal,show (0:Int)=((0:Nat):Int) from rfl,m,e,Aa];cases decide (s.length<=120) with
 | false=>rfl
 | true=>
  rw [Bool.true_and,<-d];cases y with
  | inl b=>rfl
  | inr p=>simp only [Am,Ae,aa7];rw [ai3 p (by have:=o p rfl;omega)];rfl
noncomputable def aip (s:Bq):Bool:=(F294 0 s).getD false
theorem alp (s:Bq):F294 0 s=some (aip s):=by unfold aip;simp only [F294,a8i,Option.getD_some]
theorem a7v (s:Bq):F200 0 s=some (aip s):=by rw [<-alp];rfl
noncomputable def asz (s:Bq):Bool:=acj s&&!aip s
noncomputable def defP (s:Bq):Bool:=ae2 s&&(abb 46 s).all λx=>!aip x
theorem asp (s:Bq) (hs:s.length<=1048576):∀ (k:Nat),k<=s.length->(46:UInt8)∉s.drop k->
 ∃ y,aaz (S293_3step 0) (s,(k:Int)-1)=some y/\((∃ W d,y=.inl (W,d)/\s=W++46::d/\(46:UInt8)∉d)\/(y=.inr s/\(46:UInt8)∉s)):=by
 intro k
 induction k with
 | zero=>
  intro _ M
  refine ⟨.inr s,aac ?_,Or.inr ⟨rfl,by simpa using M⟩⟩
  have:decide (((0:Nat):Int)-1>=(0:Int))=false:=Al (by omega)
  simp only [S293_3step,S293_3,this,Ae]
 | succ k ih=>
  intro hk M
  have e:((k+1:Nat):Int)-1=(k:Int):=by omega
  have m:k<s.length:=by omega
  have z:decide ((k:Int)>=(0:Int))=true:=Ah (by omega)
  have O:(((s.getD k 0).toNat:Int)==(46:Int))=(s.getD k 0==46):=by exact (eqB (s.getD k 0).toNat 46).trans (a0a (s.getD k 0) 46)
  rw [e]
  cases H:(s.getD k 0==46) with
  | true=>
   have o:s.getD k 0=46:=by simpa using H
   have U:decide ((0:Int)<=(0:Int)/\(0:Int)<=(k:Int)/\(k:Int)<=(s.length:Int))=true:=Ah (by omega)
   have V:decide ((0:Int)<=((k+1:Nat):Int)/\((k+1:Nat):Int)<=(s.length:Int)/\(s.length:Int)<=(s.length:Int))=true:=Ah (by omega)
   refine ⟨.inl (s.take k,s.drop (k+1)),aac ?_,Or.inl ⟨_,_,rfl,?_,M⟩⟩
   ·rw [H] at O;simp only [S293_3step,S293_3,z,Ad,aab,m,decide_true,Ag,O,U,aa9 (i:=k) (by omega),V,List.take_length];rfl
   ·rw [<-o,<-aaj m 0,List.take_append_drop]
  | false=>
   have o:s.getD k 0≠46:=by simpa using H
   obtain ⟨y,X,Y⟩:=ih (by omega) (by rw [aaj m 0];simp only [Bl,not_or];exact ⟨λe=>o e.symm,M⟩)
   refine ⟨y,?_,Y⟩
   rw [<-X]
   refine aan ?_
   rw [H] at O
   have Z:IntKind.wrap .i64 ((k:Int)-(1:Int))=(k:Int)-1:=abi (by omega) (by omega)
   simp only [S293_3step,S293_3,z,Ad,aab,m,decide_true,Ag,O,Ae,Z]
theorem axn (s:Bq) (M:s.length<=1048576):∃ m d,F293 0 s=some (m,d)/\((s=m++46::d/\(46:UInt8)∉d)\/(m=[]/\d=s/\(46:UInt8)∉s)):=by
 obtain ⟨y,H,o⟩:=asp s M s.length (by omega) (by simp);unfold F293;have O:IntKind.wrap .i64 ((s.length:Int)-(1:Int))=(s.length:Int)-1:=abi (by omega) (by omega);rw [aal,O,H];rcases o with ⟨m,d,rfl,o,z⟩ | ⟨rfl,z⟩
 ·exact ⟨m,d,rfl,Or.inl ⟨o,z⟩⟩
 ·exact ⟨[],s,rfl,Or.inr ⟨rfl,rfl,z⟩⟩
theorem a90 {s:Bq} (h:acj s=true):s≠[]:=by intro e;subst e;simp [acj] at h
end Go.Ab
namespace Go.Ab
open Go
set_option maxRecDepth 100000
theorem nbeq (a b:Nat):((a:Int)==(b:Int))=decide (a=b):=by
 by_cases h:a=b
 ·simp [h]
 ·simp [h];omega
theorem afb {n:Nat} (h:n<=4611686018427387904):decide (n<=aau)=true:=Ah h
theorem a0n:((List.range 256).all λb=>F311 0 (b:Int)==some (92::120::hex2 b))=true:=by kernel_rfl
theorem a3x {b:Nat} (h:b<256):F311 0 (b:Int)=some (92::120::hex2 b):=by have:=Bi.1 a0n b (List.mem_range.2 h);simpa using this
theorem a9w:((List.range 256).all λb=>F244 0 (b:Int)==some (hex2 b))=true:=by kernel_rfl
theorem bcz {b:Nat} (h:b<256):F244 0 (b:Int)=some (hex2 b):=by have:=Bi.1 a9w b (List.mem_range.2 h);simpa using this
theorem bch (s:Bq) (i:Nat) (z:i<s.length):F240 0 s (i:Int) ((aaq s i).1:Int)=some (ahj s i):=by
 unfold F240 ahj;have hw:=azx s i z;have hb:((s.getD ((i:Int)).toNat 0).toNat:Int)=(byteAt s i:Int):=rfl;have he:=a3x (ab4 s i);have hr:aaa (i:Int) s.length=true:=by rw [aab,Ah z]
 have V:(((aaq s i).1:Int)==(34:Int))=decide ((aaq s i).1=34):=nbeq _ 34;have W:(((aaq s i).1:Int)==(92:Int))=decide ((aaq s i).1=92):=nbeq _ 92;have M:(((aaq s i).1:Int)==(10:Int))=decide ((aaq s i).1=10):=nbeq _ 10;have k9:(((aaq s i).1:Int)==(9:Int))=decide ((aaq s i).1=9):=nbeq _ 9;have O:(((aaq s i).1:Int)==(13:Int))=decide ((aaq s i).1=13):=nbeq _ 13;have o:(((aaq s i).1:Int)==(127:Int))=decide ((aaq s i).1=127):=nbeq _ 127;have U:decide (((aaq s i).1:Int)<(32:Int))=decide ((aaq s i).1<32):=abh _ 32;simp only [V,W,M,k9,O,o,U,hw,hr,hb,he,Ad,Aa];by_cases d:byteAt s i<128
 ·rw [afe s i d,ai5 s i d];have m:=aj9 s i z (by rw [ai5 s i d];decide);rw [afe s i d,ai5 s i d] at m;simp only [m];by_cases X:byteAt s i=34
  ·simp [X]
  by_cases Y:byteAt s i=92
  ·simp [Y]
  by_cases Z:byteAt s i=10
  ·simp [Z]
  by_cases c4:byteAt s i=9
  ·simp [c4]
  by_cases c5:byteAt s i=13
  ·simp [c5]
  simp only [X,Y,Z,c4,c5,decide_false,Ae,A7];by_cases c6:byteAt s i<32
  ·simp [c6]
  ·by_cases c7:byteAt s i=127
   ·simp [c7]
   ·simp [c6,c7]
 ·have hh:=anw s i (by omega);have d1:decide ((aaq s i).1=34)=false:=Al (by omega);have d2:decide ((aaq s i).1=92)=false:=Al (by omega);have d3:decide ((aaq s i).1=10)=false:=Al (by omega);have d4:decide ((aaq s i).1=9)=false:=Al (by omega);have d5:decide ((aaq s i).1=13)=false:=Al (by omega);have d6:decide ((aaq s i).1=127)=false:=Al (by omega);have d7:decide ((aaq s i).1<32)=false:=Al (by omega);have e1:¬byteAt s i=34:=by omega
  have e2:¬byteAt s i=92:=by omega
  have e3:¬byteAt s i=10:=by omega
  have e4:¬byteAt s i=9:=by omega
  have e5:¬byteAt s i=13:=by omega
  have e6:¬byteAt s i=127:=by omega
  have e7:¬byteAt s i<32:=by omega
  simp only [d1,d2,d3,d4,d5,d6,d7,e1,e2,e3,e4,e5,e6,e7,Ae,Aj,Ad,Aa,A7,false_or];by_cases H:sizeAt s i=0
  ·simp [H]
  ·simp only [H,decide_false,Ae,A7];rw [aj9 s i z H]
theorem a1h (s:Bq):∀ (m i:Nat) (o:Bq),s.length-i<=m->i<=s.length->o.length+4*(s.length-i)<=140737488355328->
 ∃ z,aaz (S134_5step 0) (s,(),(),o,s,(i:Int))=some ((),o++aav s i,s,z):=by
 intro m
 induction m with
 | zero=>
  intro i o V O M
  have d:¬i<s.length:=by omega
  rw [aav,if_neg d]
  refine ⟨(i:Int),aac ?_⟩
  simp only [S134_5step,S134_5,Ag,d,decide_false,Ae,List.append_nil]
 | succ m Y=>
  intro i o V O M
  by_cases d:i<s.length
  ·have hp:=aos s i d;have Z:=aqx s i d;have U:=ad5 s i;obtain ⟨z,X⟩:=Y (i+ab1 s i) (o++ahj s i) (by omega) (by omega) (by rw [Bc];omega);refine ⟨z,?_⟩;rw [aav,if_pos d,<-Ax,<-X];refine aan ?_;have W:Nat.ble (o.length+(ahj s i).length) 140737488355328=true:=by rw [Nat.ble_eq];omega
   simp only [S134_5step,S134_5,Ag,d,decide_true,Ad,ahu,bch s i d,ba8 s i d,Aa,ab3,W]
  ·have H:¬i<s.length:=d;rw [aav,if_neg d];refine ⟨(i:Int),aac ?_⟩;simp only [S134_5step,S134_5,Ag,d,decide_false,Ae,List.append_nil]
theorem aot (s:Bq):(aa4 s).length<=4*s.length+2:=by have:=ag6 s s.length 0 (by omega);simp [aa4];omega
theorem asm (s:Bq) (M:s.length<=1048576):F134 0 s=some (aa4 s):=by
 obtain ⟨z,d⟩:=a1h s s.length 0 [34] (by omega) (by omega) (by simp;omega);have H:=ag6 s s.length 0 (by omega);unfold F134;have m:ab3 0 ([34]:Bq) []=some (1,.nilIface,[34]):=rfl;have o:Nat.ble (([34]++aav s 0).length+1) 140737488355328=true:=by rw [Nat.ble_eq];simp;omega
 simp only [m,Aa,aal,d];simp only [ab3,Ao,Ba,Nat.zero_add,o,Ad,Aa,avz];simp [aa4]
theorem aso (s:Bq) (hs:s.length<=9223372036854775000) (i:Nat) (m:Bq) (H:i<s.length) (hb:m.length<=4611686018427380000):
 S139_4step 0 (s,m,(i:Int))=some (.inl (s,m++ahj s i,((i+ab1 s i:Nat):Int))):=by
 have hz:=aoz s i H
 have U:((s.getD i 0).toNat:Int)=(byteAt s i:Int):=rfl
 have hr:aaa (i:Int) s.length=true:=by rw [aab,Ah H]
 have ab:((byteAt s i:Int)==(34:Int))=decide (byteAt s i=34):=nbeq _ 34
 have ad:((byteAt s i:Int)==(92:Int))=decide (byteAt s i=92):=nbeq _ 92
 have Y:((byteAt s i:Int)==(10:Int))=decide (byteAt s i=10):=nbeq _ 10
 have k9:((byteAt s i:Int)==(9:Int))=decide (byteAt s i=9):=nbeq _ 9
 have Z:((byteAt s i:Int)==(13:Int))=decide (byteAt s i=13):=nbeq _ 13
 have z:((byteAt s i:Int)==(127:Int))=decide (byteAt s i=127):=nbeq _ 127
 have aa:decide ((byteAt s i:Int)<(32:Int))=decide (byteAt s i<32):=abh _ 32
 have k0:((sizeAt s i:Int)==(0:Int))=decide (sizeAt s i=0):=nbeq _ 0
 have w1:IntKind.wrap .i64 ((i:Int)+(1:Int))=((i+1:Nat):Int):=aj0 (by omega)
 have w2:IntKind.wrap .i64 ((i:Int)+(sizeAt s i:Int))=((i+sizeAt s i:Nat):Int):=wadd (by omega)
 have V:decide ((0:Int)<=(i:Int)/\(i:Int)<=((i+sizeAt s i:Nat):Int)/\((i+sizeAt s i:Nat):Int)<=(s.length:Int))=true:=Ah (by omega)
 have X:(s.take (i+sizeAt s i)).drop i=(s.drop i).take (sizeAt s i):=by rw [List.drop_take];congr 1;omega
 have W:(bif decide (sizeAt s i=0) then ((i+1:Nat):Int) else ((i+sizeAt s i:Nat):Int))=((i+ab1 s i:Nat):Int):=by
  unfold ab1;by_cases h:sizeAt s i=0
  ·simp [h]
  ·simp [h]
 have o:∀ t:Bq,(bif decide (sizeAt s i=0) then some (Sum.inl (s,t,((i+1:Nat):Int))) else some (Sum.inl (s,t,((i+sizeAt s i:Nat):Int))))=(some (.inl (s,t,((i+ab1 s i:Nat):Int))):Option ((Bq×Bq×Int)⊕((Bq)))):=by intro t;rw [<-W];cases decide (sizeAt s i=0)<;>rfl
 simp only [S139_4step,S139_4,abh,H,decide_true,Ad,size_eq s i H hs,Aa,hr,U,ab,ad,Y,k9,Z,z,aa,k0,w1,w2,V,Ag,X,bcz (ab4 s i)]
 unfold ahj
 have l2:∀ a b:UInt8,decide (m.length+[a,b].length<=aau)=true:=λa b=>afb (by simp;omega)
 have l4:∀ a b c d:UInt8,decide ((m++[a,b]).length+[c,d].length<=aau)=true:=λa b c d=>afb (by simp;omega)
 have ls:decide (m.length+((s.drop i).take (sizeAt s i)).length<=aau)=true:=afb (by simp;omega)
 have l5:decide (m.length+2+2<=aau)=true:=afb (by omega)
 simp only [l2,ls,hex2,l4,Ad,o]
 by_cases c1:byteAt s i=34
 ·simp [c1]
 by_cases c2:byteAt s i=92
 ·simp [c2]
 by_cases c3:byteAt s i=10
 ·simp [c3]
 by_cases c4:byteAt s i=9
 ·simp [c4]
 by_cases c5:byteAt s i=13
 ·simp [c5]
 simp only [c1,c2,c3,c4,c5,decide_false,Ae,A7]
 by_cases M:byteAt s i<32
 ·simp [M,l5]
 ·by_cases O:byteAt s i=127
  ·simp [O,l5]
  ·by_cases c8:sizeAt s i=0
   ·simp [M,O,c8,l5]
   ·simp [M,O,c8]
theorem asn (s:Bq) (X:s.length<=1048576):∀ (m i:Nat) (o:Bq),s.length-i<=m->i<=s.length->o.length+4*(s.length-i)<=140737488355328->
 aaz (S139_4step 0) (s,o,(i:Int))=some (o++aav s i):=by
 intro m
 induction m with
 | zero=>
  intro i o O H z
  have d:¬i<s.length:=by omega
  rw [aav,if_neg d]
  refine aac ?_
  simp only [S139_4step,S139_4,abh,d,decide_false,Ae,List.append_nil]
 | succ m U=>
  intro i o O H z
  by_cases d:i<s.length
  ·have W:=aos s i d;have V:=aqx s i d;have M:=ad5 s i;rw [aav,if_pos d,<-Ax,<-U (i+ab1 s i) (o++ahj s i) (by omega) (by omega) (by rw [Bc];omega)];exact aan (aso s (by omega) i o d (by omega))
  ·rw [aav,if_neg d];refine aac ?_;simp only [S139_4step,S139_4,abh,d,decide_false,Ae,List.append_nil]
theorem aju (s:Bq) (d:s.length<=1048576):F139 0 s=some (aa4 s):=by have m:=asn s d s.length 0 [34] (by omega) (by omega) (by simp;omega);have o:=ag6 s s.length 0 (by omega);unfold F139;rw [aal,show (0:Int)=((0:Nat):Int) from rfl,m,Aa,afb (by simp;omega)];simp [aa4]
end Go.Ab
namespace Go.Ab
open Go
theorem bneI {a b:Int} (h:a≠b):(a != b)=true:=by simp [h]
theorem beqI {a b:Int} (h:a≠b):(a==b)=false:=by simp [h]
theorem a6f {d:Type} (b:Bool) (x y:d):(bif b then some x else some y)=some (bif b then x else y):=by cases b<;>rfl
def afl:Bq:=[100,101,112,114,101,99,97,116,101,100]
def am2:Bq:=[115,101,99,114,101,116]
def afm:Bq:=[105,100,101,109,112,111,116,101,110,116]
def a9s:Bq:=[100,111,99]
def ar7:Bq:=[97,108,105,97,115]
def ar9:Bq:=[114,111,117,116,101]
def ar8:Bq:=[111,119,110,101,114]
def asa:Bq:=[115,105,110,99,101]
def asb:Bq:=[117,110,116,105,108]
def am1:Bq:=[108,101,110,103,116,104]
def akr:Bq:=[116,105,109,101,111,117,116]
def a9u:Bq:=[109,105,110]
def a9t:Bq:=[109,97,120]
def ado:List Bq:=[afl,am2,afm,a9s,ar7,ar9,ar8,asa,asb,am1,akr,a9u,a9t]
noncomputable def aae (d:Bq):Int:=(F152 0 d).getD 0
theorem a1n (d:Bq):F152 0 d=some (aae d):=by unfold aae;simp only [F152,a6f,Option.getD_some]
theorem ax9 {d:Bq} (h:d∉ado):(d==afl)=false/\(d==am2)=false/\(d==afm)=false/\(d==a9s)=false/\(d==ar7)=false/\(d==ar9)=false/\(d==ar8)=false/\
 (d==asa)=false/\(d==asb)=false/\(d==am1)=false/\(d==akr)=false/\(d==a9u)=false/\(d==a9t)=false:=by
 simp only [ado,Bl,List.not_mem_nil,or_false,not_or] at h
 grind
theorem aji {d:Bq} (h:d∉ado):aae d=0:=by obtain ⟨M,O,U,V,W,X,Y,Z,h9,m,o,z,H⟩:=ax9 h;unfold afl at M;unfold am2 at O;unfold afm at U;unfold a9s at V;unfold ar7 at W;unfold ar9 at X;unfold ar8 at Y;unfold asa at Z;unfold asb at h9;unfold am1 at m;unfold akr at o;unfold a9u at z;unfold a9t at H;simp only [aae,F152,M,O,U,V,W,X,Y,Z,h9,m,o,z,H,Ae,Option.getD_some]
noncomputable def ar1:List (PV×PV):=(F145 0).getD []
theorem a9k:F145 0=some ar1:=by kernel_rfl
theorem aw2:ar1=[(.str afl,.agg [.int 1,.int 126]),(.str a9s,.agg [.int 7,.int 126]),(.str ar7,.agg [.int 7,.int 84]),(.str asa,.agg [.int 4,.int 84]),(.str asb,.agg [.int 4,.int 84]),(.str a9u,.agg [.int 3,.int 4]),(.str a9t,.agg [.int 3,.int 4]),
 (.str am1,.agg [.int 4,.int 4]),(.str am2,.agg [.int 1,.int 4]),(.str afm,.agg [.int 1,.int 64]),(.str akr,.agg [.int 4,.int 64]),(.str ar9,.agg [.int 7,.int 64]),(.str ar8,.agg [.int 7,.int 34])]:=by kernel_rfl
theorem auq {d:Bq} (h:d∉ado):PV.mget ar1 (.str d)=none:=by obtain ⟨M,O,U,V,W,X,Y,Z,h9,m,o,z,H⟩:=ax9 h;rw [aw2];simp only [PV.mget,List.find?,alg,M,O,U,V,W,X,Y,Z,h9,m,o,z,H,Option.map_none]
theorem a4w (d:Bq):F71 0 d=some (aae d):=by
 by_cases h:d∈ado
 ·simp only [ado,Bl,List.not_mem_nil,or_false] at h;rcases h with rfl | rfl | rfl | rfl | rfl | rfl | rfl | rfl | rfl | rfl | rfl | rfl | rfl;all_goals (refine Eq.trans (b:=_) ?_ rfl;kernel_rfl)
 ·rw [aji h];unfold F71;rw [a9k,Aa,auq h];rfl
def apv (v:PV):Int:=(v.fld 0).asInt
def ajd (v:PV):Int:=(v.fld 1).asInt
def aim (v:PV):Bq:=(v.fld 2).asStr
def vLists (v:PV):Nat:=(v.fld 3).asList.length+(v.fld 4).asList.length+(v.fld 5).asList.length+(v.fld 6).asList.length
def avh (v:PV):Prop:=vLists v<=1048576/\(aim v).length<=1048576/\0<=ajd v/\ajd v<18446744073709551616
def al6 (k:Int):Bool:=decide (1<=k/\k<=9)
def afo (k:Int):Bool:=k==7||k==8
def abx (k d:Int):Bool:=
 if k=1 then decide (d<=1) else if k=2 then decide (-2147483648<=IntKind.wrap .i64 d/\IntKind.wrap .i64 d<=2147483647) else if k=4 then decide (d<4294967296) else if k=9 then decide (d<2147483648) else true
def amo (k:Int) (v:PV):Bool:=
 al6 k&&(apv v==k)&&decide (vLists v=0)&&(if afo k then (ajd v==0)&&decide ((aim v).length<=4096)&&((k==8)||valid (aim v)) else (aim v==[])&&abx k (ajd v))
theorem bee (a b c d:List PV):(bif (bif (bif ((a.length:Int)==(0:Int)) then ((b.length:Int)==(0:Int)) else false) then ((c.length:Int)==(0:Int)) else false) then ((d.length:Int)==(0:Int)) else false)=decide (a.length+b.length+c.length+d.length=0):=by cases a<;>cases b<;>cases c<;>cases d<;>simp<;>omega
theorem ajt (k:Int) (v:PV) (hs:avh v):F153 0 k v=some (amo k v):=by
 have hv:F259 0 (aim v)=some (valid (aim v)):=aow _ (by have:=hs.2.1;omega);have X:(v.fld 0).asInt=apv v:=rfl;have Y:(v.fld 1).asInt=ajd v:=rfl;have Z:(v.fld 2).asStr=aim v:=rfl;have i1:(bif decide (k>=(1:Int)) then decide (k<=(9:Int)) else false)=al6 k:=by unfold al6;by_cases h:k>=1<;>simp [h]<;>omega
 have i2:(bif (k==(7:Int)) then true else (k==(8:Int)))=afo k:=by unfold afo;cases (k==7)<;>rfl
 unfold F153 F256 F257 F258;simp only [Aa,bee,i1,i2,X,Y,Z,hv,gb];unfold amo;have eL:(v.fld 3).asList.length+(v.fld 4).asList.length+(v.fld 5).asList.length+(v.fld 6).asList.length=vLists v:=rfl;simp only [eL];cases h1:al6 k
 ·simp
 cases W:(apv v==k)
 ·have:(apv v != k)=true:=by simp [bne,W]
  simp [this]
 have d:(apv v != k)=false:=by simp [bne,W]
 simp only [d,Am,Ae,Aj,Bool.true_and,Ad];cases h3:decide (vLists v=0)
 ·simp
 simp only [Am,Ae,Bool.true_and];cases h4:afo k
 ·simp only [Ae,A2,A7];cases h5:(aim v==[])
  ·simp
  simp only [Am,Ae,Bool.true_and];unfold abx;by_cases m:k=1
  ·subst m;simp
  have o:(k==1)=false:=by simp [m]
  simp only [o,Ae,if_neg m];by_cases z:k=2
  ·subst z;simp only [A9,Ad,A6,ge_iff_le,Bool.decide_and];cases decide (-2147483648<=IntKind.wrap .i64 (ajd v))<;>rfl
  have H:(k==2)=false:=by simp [z]
  simp only [H,Ae,if_neg z];by_cases M:k=4
  ·subst M;simp
  have O:(k==4)=false:=by simp [M]
  simp only [O,Ae,if_neg M];by_cases U:k=9
  ·subst U;simp
  have V:(k==9)=false:=by simp [U]
  simp only [V,Ae,if_neg U]
 ·simp only [Ad,A6];have hl:decide (((aim v).length:Int)<=4096)=decide ((aim v).length<=4096):=by simp;omega
  simp only [hl];cases (ajd v==0)<;>cases decide ((aim v).length<=4096)<;>cases (k==8)<;>simp
theorem ayv (k:Int) (v:PV) (hs:avh v):F146 0 k v=some (amo k v):=by
 have hv:F185 0 (aim v)=some (valid (aim v)):=ate _;have V:(v.fld 0).asInt=apv v:=rfl;have W:(v.fld 1).asInt=ajd v:=rfl;have X:(v.fld 2).asStr=aim v:=rfl;have i1:(bif decide (k>=(1:Int)) then decide (k<=(9:Int)) else false)=al6 k:=by grind [al6]
 have Y:(v.fld 3).asList.length+(v.fld 4).asList.length+(v.fld 5).asList.length+(v.fld 6).asList.length=vLists v:=rfl;have hL:=hs.1;have w1:IntKind.wrap .i64 (((v.fld 3).asList.length:Int)+((v.fld 4).asList.length:Int))=(((v.fld 3).asList.length+(v.fld 4).asList.length:Nat):Int):=wadd (by grind);have w2:IntKind.wrap .i64 ((((v.fld 3).asList.length+(v.fld 4).asList.length:Nat):Int)+((v.fld 5).asList.length:Int))=(((v.fld 3).asList.length+(v.fld 4).asList.length+(v.fld 5).asList.length:Nat):Int):=wadd (by grind);have w3:IntKind.wrap .i64 ((((v.fld 3).asList.length+(v.fld 4).asList.length+(v.fld 5).asList.length:Nat):Int)+((v.fld 6).asList.length:Int))=(((v.fld 3).asList.length+(v.fld 4).asList.length+(v.fld 5).asList.length+(v.fld 6).asList.length:Nat):Int):=wadd (by grind);have tk:∀ k:Int,(bif (k==(7:Int)) then true else (k==(8:Int)))=afo k:=λk=>by grind [afo]
 unfold F146 F248 F249 F250 F307;simp only [Aa,i1,tk,V,W,X,hv,gb,w1,w2,w3,Y];have d:(bif (k==(1:Int)) then some (decide (ajd v<=1)) else bif (k==(2:Int)) then some (bif decide (IntKind.wrap .i64 (ajd v)>=-2147483648) then decide (IntKind.wrap .i64 (ajd v)<=2147483647) else false) else
  bif (k==(9:Int)) then some (decide (ajd v<=2147483647)) else bif (k==(4:Int)) then some (decide (ajd v<=4294967295)) else some true)=some (abx k (ajd v)):=by
  unfold abx
  by_cases H:k=1
  ·subst H;simp
  have M:(k==1)=false:=by simp [H]
  simp only [M,Ae,if_neg H]
  by_cases k2:k=2
  ·grind
  grind
 rw [d];unfold amo;cases h1:al6 k
 ·simp
 cases U:(apv v==k)
 ·grind
 have Z:(apv v != k)=false:=by simp [bne,U]
 have m:apv v=k:=by simpa using U
 rw [m];have o:(k != k)=false:=by simp
 simp only [o,Am,Ae,Aj,Bool.true_and,Ad];by_cases h3:vLists v=0
 ·have z:decide ((vLists v:Int)>0)=false:=by simp;omega
  simp only [z,Ae,h3,decide_true,Bool.true_and];have hl:decide (((aim v).length:Int)>4096)=!decide ((aim v).length<=4096):=by grind
  cases h4:afo k
  ·simp only [Ae,A2,A7,Aa];have k7:(k != 7)=true:=by
    grind
   all_goals grind
  ·simp only [Ad,A6,Aa];have hr:abx k (ajd v)=true:=by
    all_goals grind
   simp only [hr,hl];have O:k=7\/k=8:=by all_goals grind
   rcases O with rfl | rfl;all_goals grind
 grind
end Go.Ab
namespace Go.Ab
open Go
set_option maxRecDepth 100000
theorem dig (d:Nat) (h:d<10):[PV.int (IntKind.wrap .u8 (IntKind.wrap .u64 ((48:Int)+(d:Int))))].map aat=[UInt8.ofNat (48+d)]:=by
 have:IntKind.wrap .u8 (IntKind.wrap .u64 ((48:Int)+(d:Int)))=((48+d:Nat):Int):=by rw [IntKind.wrap_u64,IntKind.wrap_u8];omega
 rw [this];rfl
def preD (u:Nat):Bq:=if u<10 then [] else Lib.decDigits (u / 10)
theorem asj (u:Nat):preD u++[UInt8.ofNat (48+u%10)]=Lib.decDigits u:=by
 have e:=Lib.decDigits.eq_1 u;unfold preD;rw [e];by_cases h:u<10
 ·rw [if_pos h,dif_pos h,Nat.mod_eq_of_lt h];rfl
 ·rw [if_neg h,dif_neg h]
theorem a8n:∀ (f u:Nat),(decF f u).length<=f:=by
 intro f;induction f with
 | zero=>intro u;simp [decF]
 | succ f d=>
  intro u;unfold decF;cases Nat.ble u 9 with
  | true=>simp
  | false=>have:=d (u / 10);simp;omega
theorem amw (u:Nat):(decB u).length<=20:=a8n 20 u
end Go.Ab
namespace Go.Ab
open Go
set_option maxRecDepth 100000
theorem a0x:((List.range 16).all λd=>(([48,49,50,51,52,53,54,55,56,57,97,98,99,100,101,102,103,104,105,106,107,108,109,110,111,112,113,114,115,116,117,118,119,120,121,122]:Bq).getD d 0)==hexd d)=true:=by kernel_rfl
theorem bbg {d:Nat} (h:d<16):(([48,49,50,51,52,53,54,55,56,57,97,98,99,100,101,102,103,104,105,106,107,108,109,110,111,112,113,114,115,116,117,118,119,120,121,122]:Bq).getD d 0)=hexd d:=by have:=Bi.1 a0x d (List.mem_range.2 h);simpa using this
theorem ahq (b:UInt8):aat (PV.int (b.toNat:Int))=b:=by show UInt8.ofNat ((b.toNat:Int)).toNat=b;rw [Ag,UInt8.ofNat_toNat]
theorem azm {d:Type} (l:List d) (i:Nat) (x:d) (h:i<l.length):(l.set i x).drop i=x::l.drop (i+1):=by rw [List.drop_set,if_neg (Nat.lt_irrefl i),Nat.sub_self,List.drop_eq_getElem_cons h];rfl
theorem a3f:∀ (k u i:Nat) (o:List PV),u<16^(k+1)->u<18446744073709551616->k+1<=i->i<=65->o.length=65->
 ∃ (V H:Nat) (m:List PV),aaz (S315_12step 0) ([],(u:Int),false,false,[],([]:Bq),(),(i:Int),(4:Int),(16:Int),(15:Int),PV.agg o)=some ([],(V:Int),false,false,[],([]:Bq),(),(H:Int),PV.agg m)/\
  V<16/\1<=H/\H<=65/\m.length=65/\hexd V::(m.drop H).map aat=hexF (k+1) u++(o.drop i).map aat:=by
 intro k
 induction k with
 | zero=>
  intro u i o hu M hi z W
  have d:u<16:=by simpa using hu
  have O:decide ((u:Int)>=(16:Int))=false:=Al (by omega)
  refine ⟨u,i,o,aac ?_,d,hi,z,W,?_⟩
  ·simp only [S315_12step,S315_12,O,Ae]
  ·rw [hexF,if_pos d];rfl
 | succ k ih=>
  intro u i o hu M hi z W
  by_cases d:u<16
  ·have O:decide ((u:Int)>=(16:Int))=false:=Al (by omega);refine ⟨u,i,o,aac ?_,d,by omega,z,W,?_⟩
   ·simp only [S315_12step,S315_12,O,Ae]
   ·rw [hexF,if_pos d];rfl
  ·have O:decide ((u:Int)>=(16:Int))=true:=Ah (by omega);have hm:u%16<16:=Nat.mod_lt _ (by decide);obtain ⟨V,H,m,h1,h2,h3,h4,h5,h6⟩:=ih (u / 16) (i-1) (o.set (i-1) (PV.int ((hexd (u%16)).toNat:Int))) (by rw [Nat.pow_succ] at hu;omega) (by omega) (by omega) (by omega) (by simp [W]);refine ⟨V,H,m,?_,h2,h3,h4,h5,?_⟩
   ·rw [<-h1];refine aan ?_;have hw:IntKind.wrap .i64 ((i:Int)-(1:Int))=((i-1:Nat):Int):=by
     rw [show (i:Int)-1=((i-1:Nat):Int) by omega];exact ago (by omega)
    have hb:af2 .and .u64 (u:Int) (15:Int)=((u%16:Nat):Int):=by have:=aj5 u 15 M (by decide);rw [show u &&& 15=u%16 from Nat.and_two_pow_sub_one_eq_mod u 4] at this;exact this
    have Y:aaa ((u%16:Nat):Int) (([48,49,50,51,52,53,54,55,56,57,97,98,99,100,101,102,103,104,105,106,107,108,109,110,111,112,113,114,115,116,117,118,119,120,121,122]:Bq).length)=true:=by rw [aab];exact Ah (Aw hm (by decide))
    have Z:aaa ((i-1:Nat):Int) 65=true:=by rw [aab];exact Ah (by omega)
    have X:decide ((0:Int)<=(4:Int))=true:=rfl;have U:(u:Int).fdiv (2^(min (4:Int).toNat (IntKind.bits .u64)))=((u / 16:Nat):Int):=by show (u:Int).fdiv 16=_;rw [Int.fdiv_eq_ediv_of_nonneg _ (by decide)];rfl
    simp only [S315_12step,S315_12,O,Ad,hw,hb,Y,Z,X,U,Ag,bbg hm];rfl
   ·rw [h6,show hexF (k+1+1) u=hexF (k+1) (u / 16)++[hexd (u%16)] by rw [hexF,if_neg d],Ax];congr 1;rw [azm _ _ _ (by omega),show i-1+1=i by omega,Bk,ahq];rfl
def a2r (o:((List PV)×Int×Bool×Bool×(List PV)×Bq×Unit×Int×PV)):Option ((List PV)×Bq):=
 let d:=IntKind.wrap .i64 (o.2.2.2.2.2.2.2.1-(1:Int))
 let z:=o.2.1
 bif aaa z (([48,49,50,51,52,53,54,55,56,57,97,98,99,100,101,102,103,104,105,106,107,108,109,110,111,112,113,114,115,116,117,118,119,120,121,122]:Bq).length) then
 let H:=((([48,49,50,51,52,53,54,55,56,57,97,98,99,100,101,102,103,104,105,106,107,108,109,110,111,112,113,114,115,116,117,118,119,120,121,122]:Bq).getD z.toNat 0).toNat:Int)
 bif aaa d 65 then
 bif o.2.2.1 then
  let m:=IntKind.wrap .i64 (d-(1:Int))
  bif aaa m 65 then
  bif o.2.2.2.1 then
   bif decide (0<=m/\m<65/\m<=(65:Int)/\(65:Int)<=65) then
   none
   else none
  else
   bif decide (0<=m/\m<65/\m<=(65:Int)/\(65:Int)<=65) then
   let M:=(((PV.agg ((PV.agg (o.2.2.2.2.2.2.2.2.parts.set d.toNat (PV.int H))).parts.set m.toNat (PV.int (45:Int)))).parts.drop m.toNat).take ((65:Int).toNat-m.toNat)).map aat
   some (o.2.2.2.2.1,M)
   else none
  else none
 else
  bif o.2.2.2.1 then
   bif decide (0<=d/\d<65/\d<=(65:Int)/\(65:Int)<=65) then
   none
   else none
  else
   bif decide (0<=d/\d<65/\d<=(65:Int)/\(65:Int)<=65) then
   let O:=(((PV.agg (o.2.2.2.2.2.2.2.2.parts.set d.toNat (PV.int H))).parts.drop d.toNat).take ((65:Int).toNat-d.toNat)).map aat
   some (o.2.2.2.2.1,O)
   else none
 else none
 else none
theorem a3e (u:Int):F315 0 [] u 16 false false=(aaz (S315_12step 0) ([],u,false,false,[],([]:Bq),(),(65:Int),(4:Int),(16:Int),(15:Int),PV.agg (List.replicate 65 (PV.int (0:Int))))).bind a2r:=by kernel_rfl
theorem fmt16 (u:Nat) (X:u<18446744073709551616):Lfmt 0 (u:Int) (16:Int)=some (hexF 16 u):=by
 obtain ⟨M,d,o,U,O,Z,h4,h5,V⟩:=a3f 15 u 65 (List.replicate 65 (PV.int (0:Int))) (by omega) X (by omega) (by omega) (by simp);have e:Lfmt 0 (u:Int) (16:Int)=(F315 0 [] (u:Int) 16 false false).bind λy=>some y.2:=rfl;rw [e,a3e,show (65:Int)=((65:Nat):Int) from rfl,U,Aa];have Y:IntKind.wrap .i64 ((d:Int)-(1:Int))=((d - 1:Nat):Int):=by rw [show (d:Int)-1=((d - 1:Nat):Int) by omega];exact ago (by omega)
 have z:aaa ((M:Nat):Int) (([48,49,50,51,52,53,54,55,56,57,97,98,99,100,101,102,103,104,105,106,107,108,109,110,111,112,113,114,115,116,117,118,119,120,121,122]:Bq).length)=true:=by rw [aab];exact Ah (Aw O (by decide))
 have H:aaa ((d - 1:Nat):Int) 65=true:=by rw [aab];exact Ah (by omega)
 have W:decide ((0:Int)<=((d - 1:Nat):Int)/\((d - 1:Nat):Int)<65/\((d - 1:Nat):Int)<=(65:Int)/\(65:Int)<=65)=true:=Ah (by omega);have m:(((PV.agg (o.set (d - 1) (PV.int ((hexd M).toNat:Int)))).parts.drop (d - 1)).take ((65:Int).toNat-(d - 1))).map aat=hexF 16 u:=by show (((o.set (d - 1) (PV.int ((hexd M).toNat:Int))).drop (d - 1)).take (65-(d - 1))).map aat=_;rw [List.take_of_length_le (by simp;omega),azm _ _ _ (by omega),show d - 1+1=d by omega,Bk,ahq,V];simp
 unfold a2r;simp only [Y,z,H,W,Ad,Ae,Ag,bbg O,PV.parts] at m ⊢;rw [m];rfl
theorem a3k (u:Nat) (z:u<18446744073709551616):F253 0 (u:Int)=some (adu u):=by
 have U:af2 .and .u64 (u:Int) (9218868437227405312:Int)=((u / 4503599627370496%2048*4503599627370496:Nat):Int):=by have:=aj5 u 9218868437227405312 z (by decide);rw [a73] at this;exact this
 have V:af2 .and .u64 (u:Int) (4503599627370495:Int)=((u%4503599627370496:Nat):Int):=by have:=aj5 u 4503599627370495 z (by decide);rw [a74] at this;exact this
 have H:(((u / 4503599627370496%2048*4503599627370496:Nat):Int)==(9218868437227405312:Int))=decide (u / 4503599627370496%2048=2047):=by refine (nbeq _ 9218868437227405312).trans ?_;rw [decide_eq_decide];omega
 have M:(((u / 4503599627370496%2048*4503599627370496:Nat):Int)==(0:Int))=decide (u / 4503599627370496%2048=0):=by refine (nbeq _ 0).trans ?_;rw [decide_eq_decide];omega
 have O:(((u%4503599627370496:Nat):Int)==(0:Int))=decide (u%4503599627370496=0):=nbeq _ 0;unfold F253 adu;simp only [U,V,H,M,O,bne];by_cases o:u / 4503599627370496%2048=2047
 ·have m:¬u / 4503599627370496%2048=0:=by omega
  by_cases d:u%4503599627370496=0
  ·rw [if_neg (by omega),if_pos (by omega)];simp [o,d]
  ·rw [if_pos (by omega)];simp [o,d]
 ·by_cases m:u / 4503599627370496%2048=0
  ·by_cases d:u%4503599627370496=0
   ·rw [if_neg (by omega),if_neg (by omega),if_pos (by omega)];simp [m,d]
   ·rw [if_neg (by omega),if_neg (by omega),if_neg (by omega),if_pos (by omega)];simp [m,d]
  ·rw [if_neg (by omega),if_neg (by omega),if_neg (by omega),if_neg (by omega)];simp [o,m]
theorem axl (u:Nat):F155 0 (u:Int)=some (adu u):=by
 have V:(u:Int).tmod (9223372036854775808:Int)=((u%9223372036854775808:Nat):Int):=rfl;have H:decide (((u%9223372036854775808:Nat):Int)>(9218868437227405312:Int))=decide (9218868437227405312<u%9223372036854775808):=by rw [decide_eq_decide];omega
 have M:(((u%9223372036854775808:Nat):Int)==(9218868437227405312:Int))=decide (u%9223372036854775808=9218868437227405312):=nbeq _ 9218868437227405312;have O:(((u%9223372036854775808:Nat):Int)==(0:Int))=decide (u%9223372036854775808=0):=nbeq _ 0;have U:decide (((u%9223372036854775808:Nat):Int)<(4503599627370496:Int))=decide (u%9223372036854775808<4503599627370496):=by rw [decide_eq_decide];omega
 unfold F155 adu;simp only [V,H,M,O,U];by_cases d:9218868437227405312<u%9223372036854775808
 ·simp [d]
 ·by_cases m:u%9223372036854775808=9218868437227405312
  ·simp [m]
  ·by_cases o:u%9223372036854775808=0
   ·simp [o]
   ·by_cases z:u%9223372036854775808<4503599627370496
    ·simp [d,m,o,z]
    ·simp [d,m,o,z]
def ae1 (u:Nat):Bq:=
 bif adu u==0 then [110,97,110] else bif adu u==1 then (bif decide (9223372036854775808<=u) then [45,105,110,102] else [105,110,102]) else [48,120]++hexN 16 u
theorem axq (n:Nat):Lib.repeatL ([48]:Bq) n=List.replicate n 48:=by
 induction n with
 | zero=>rfl
 | succ n d=>rw [List.replicate_succ,<-d];rfl
theorem anx (u:Nat) (d:u<18446744073709551616):F149 0 (u:Int)=some (ae1 u):=by
 obtain ⟨V,H⟩:(hexF 16 u).length<=16/\List.replicate (16-(hexF 16 u).length) 48++hexF 16 u=hexN 16 u:=a88 15 u (by omega);have O:af2 .and .u64 (u:Int) (9223372036854775808:Int)=((u / 9223372036854775808*9223372036854775808:Nat):Int):=by have:=aj5 u 9223372036854775808 d (by decide);rw [a77 u d] at this;exact this
 have m:(((u / 9223372036854775808*9223372036854775808:Nat):Int) != (0:Int))=decide (9223372036854775808<=u):=by rw [show (((u / 9223372036854775808*9223372036854775808:Nat):Int) != (0:Int))=!(((u / 9223372036854775808*9223372036854775808:Nat):Int)==((0:Nat):Int)) from rfl,nbeq,<-decide_not,decide_eq_decide];omega
 have U:IntKind.wrap .i64 ((16:Int)-((hexF 16 u).length:Int))=((16-(hexF 16 u).length:Nat):Int):=by rw [show (16:Int)-((hexF 16 u).length:Int)=((16-(hexF 16 u).length:Nat):Int) by omega];exact ago (by omega)
 have M:ak6 0 ([48]:Bq) ((16-(hexF 16 u).length:Nat):Int)=some (List.replicate (16-(hexF 16 u).length) 48):=by unfold ak6;rw [Ah (by omega),Ah (by omega),Ag,show Nat.ble (([48]:Bq).length*(16-(hexF 16 u).length)) 140737488355328=true by rw [Nat.ble_eq];simp;omega,axq];rfl
 have o:decide (([48,120]:Bq).length+(List.replicate (16-(hexF 16 u).length) (48:UInt8)).length<=aau)=true:=afb (by simp;omega);have z:decide ((([48,120]:Bq)++List.replicate (16-(hexF 16 u).length) (48:UInt8)).length+(hexF 16 u).length<=aau)=true:=afb (by simp;omega);unfold F149 ae1;simp only [a3k u d,Aa,O,m,F135,fmt16 u d,U,M,o,z,Ax,H];cases adu u==0<;>cases adu u==1<;>cases decide (9223372036854775808<=u)<;>rfl
end Go.Ab
namespace Go.Ab
open Go
set_option maxRecDepth 100000
end Go.Ab
namespace Go.Ab
open Go
set_option maxRecDepth 100000
theorem ao9 (s:Bq) (O:s.length<=1048576):((F141 0 s ([46]:Bq)).bind λV=>(F140 0 V).bind λW=>some W)=some (aik s):=by
 have U:F141 0 s ([46]:Bq)=some (match s with | []=>[] | c::r=>bif c==46 then r else c::r):=by
  unfold F141 F245 F297;cases s with
  | nil=>rfl
  | cons c r=>
   have d:decide (((c::r).length:Int)>=(([46]:Bq).length:Int))=true:=Ah (by simp only [Ao,Ba];omega);have m:decide ((0:Int)<=(0:Int)/\(0:Int)<=(([46]:Bq).length:Int)/\(([46]:Bq).length:Int)<=((c::r).length:Int))=true:=Ah (by simp only [Ao,Ba];omega);have o:decide ((0:Int)<=(([46]:Bq).length:Int)/\(([46]:Bq).length:Int)<=((c::r).length:Int)/\((c::r).length:Int)<=((c::r).length:Int))=true:=Ah (by simp only [Ao,Ba];omega);have z:(((c::r).take (([46]:Bq).length:Int).toNat).drop (0:Int).toNat==([46]:Bq))=(c==46):=by show ([c]==([46]:Bq))=_;simp
   have H:(((c::r).take ((c::r).length:Int).toNat).drop (([46]:Bq).length:Int).toNat)=r:=by show ((c::r).take (c::r).length).drop 1=r;rw [List.take_length];rfl
   simp only [d,m,o,z,H,imp,Ad,Aa];cases (c==46)<;>rfl
 rw [U,Aa];cases s with
 | nil=>rw [akh _ (by simp)];rfl
 | cons c r=>
  have M:(bif c==46 then r else c::r).length<=1048576:=by
   simp only [Ao] at O;cases (c==46)
   ·simp only [Ae,Ao];omega
   ·simp only [Ad];omega
  simp only [akh _ M,Aa,aik];cases (c==46)<;>rfl
end Go.Ab
namespace Go.Ab
open Go
set_option maxRecDepth 100000
end Go.Ab
namespace Go.Ab
open Go
set_option maxRecDepth 100000
theorem a9e:((List.range 256).all λb=>(List.range 256).all λd=>!(hex2 b==hex2 d)||b==d)=true:=by kernel_rfl
theorem a87 {b d:Nat} (m:b<256) (o:d<256) (h:hex2 b=hex2 d):b=d:=by have:=Bi.1 a9e b (List.mem_range.2 m);grind
def anq (b:UInt8) (c:Bq):Prop:=(c=[b]/\b≠34/\b≠92)\/(b=34/\c=[92,34])\/(b=92/\c=[92,92])\/(b=10/\c=[92,110])\/(b=9/\c=[92,116])\/(b=13/\c=[92,114])\/c=92::120::hex2 b.toNat
theorem a8g {b d:UInt8}{c e s t:Bq} (h:anq b c) (k:anq d e) (q:c++s=e++t):b=d/\s=t:=by
 have z:∀ {b d:UInt8}{s t:Bq},(92::120::hex2 b.toNat)++s=(92::120::hex2 d.toNat)++t->b=d/\s=t:=by
  intro b d s t q;simp only [Bb,List.cons.injEq,true_and] at q;have m:hex2 b.toNat=hex2 d.toNat:=by have:=congrArg (List.take 2) q;simpa [hex2] using this
  have o:s=t:=by have:=congrArg (List.drop 2) q;simpa [hex2] using this
  exact ⟨UInt8.toNat_inj.1 (a87 b.toNat_lt d.toNat_lt m),o⟩
 rcases h with ⟨rfl,H,M⟩ | ⟨rfl,rfl⟩ | ⟨rfl,rfl⟩ | ⟨rfl,rfl⟩ | ⟨rfl,rfl⟩ | ⟨rfl,rfl⟩ | rfl<;>
  rcases k with ⟨rfl,O,U⟩ | ⟨rfl,rfl⟩ | ⟨rfl,rfl⟩ | ⟨rfl,rfl⟩ | ⟨rfl,rfl⟩ | ⟨rfl,rfl⟩ | rfl<;>
  first
   | exact z q
   | (
    simp only [Bb,A3,List.cons.injEq,true_and] at q
    first
     | exact ⟨q.1,q.2⟩
     | exact ⟨rfl,q⟩
     | exact absurd q.1 (by assumption)
     | exact absurd q.1.symm (by assumption)
     | exact absurd q.1 (by decide)
     | exact absurd q (by decide))
inductive Codes:Bq->Bq->Prop
 | nil:Codes [] []
 | cons {b:UInt8}{c r q:Bq}:anq b c->Codes r q->Codes (b::r) (c++q)
theorem at0 {b:UInt8}{c s:Bq} (h:anq b c) {t:Bq} (q:c++s=34::t):False:=by
 rcases h with ⟨rfl,d,m⟩ | ⟨rfl,rfl⟩ | ⟨rfl,rfl⟩ | ⟨rfl,rfl⟩ | ⟨rfl,rfl⟩ | ⟨rfl,rfl⟩ | rfl
 ·simp only [Bb,A3,List.cons.injEq] at q;exact d q.1
 all_goals (simp only [Bb,A3,List.cons.injEq] at q;exact absurd q.1 (by decide))
theorem a3l {a x:Bq} (h:Codes a x):∀ {b y s t:Bq},Codes b y->x++34::s=y++34::t->a=b/\s=t:=by
 induction h with
 | nil=>
  intro b y s t k q;cases k with
  | nil=>simp at q;exact ⟨rfl,q⟩
  | cons d m=>rw [A3,Ax] at q;exact (at0 d q.symm).elim
 | cons d m o=>
  intro b y s t k q;cases k with
  | nil=>rw [A3,Ax] at q;exact (at0 d q).elim
  | cons kc z=>rw [Ax,Ax] at q;obtain ⟨rfl,q⟩:=a8g d kc q;obtain ⟨rfl,q⟩:=o z q;exact ⟨rfl,q⟩
theorem a3m:∀ (l:Bq) {r q:Bq},(∀ b,b∈l->b≠34/\b≠92)->Codes r q->Codes (l++r) (l++q):=by
 intro l;induction l with
 | nil=>grind
 | cons b l z=>intro r q m h;have d:=m b (by simp);show Codes (b::(l++r)) ([b]++(l++q));exact .cons (Or.inl ⟨rfl,d.1,d.2⟩) (z (λx o=>m x (by simp [o])) h)
theorem awa {s:Bq}{i:Nat}{k:UInt8} (h:byteAt s i≠k.toNat):s.getD i 0≠k:=λe=>h (by grind [byteAt])
theorem anm {s:Bq}{i:Nat}{k:UInt8} (h:byteAt s i=k.toNat):s.getD i 0=k:=UInt8.toNat_inj.1 h
theorem ae7 (s:Bq):∀ (m i:Nat),s.length-i<=m->Codes (s.drop i) (aav s i):=by
 intro m;induction m with
 | zero=>intro i hm;rw [Aq (by omega),aav,if_neg (by omega)];exact .nil
 | succ m ih=>
  intro i hm;by_cases hi:i<s.length
  ·have hp:=ad5 s i;have z:=ih (i+ab1 s i) (by omega);rw [aav,if_pos hi];unfold ahj;have X:sizeAt s i<=1->ab1 s i=1:=λh=>by grind [ab1]
   have d:∀ c:Bq,byteAt s i<128\/sizeAt s i=0->anq (s.getD i 0) c->Codes (s.drop i) (c++aav s (i+ab1 s i)):=λc hz hc=>by
    have h1:ab1 s i=1:=X (by
     rcases hz with h | h;· rw [ai5 s i h];grind
     ·omega)
    rw [h1] at z ⊢;rw [aaj hi 0];exact .cons hc z
   by_cases H:byteAt s i=34
   ·rw [if_pos H];exact d _ (Or.inl (by omega)) (Or.inr (Or.inl ⟨anm H,rfl⟩))
   rw [if_neg H];by_cases M:byteAt s i=92
   ·rw [if_pos M];exact d _ (Or.inl (by omega)) (Or.inr (Or.inr (Or.inl ⟨anm M,rfl⟩)))
   rw [if_neg M];by_cases O:byteAt s i=10
   ·rw [if_pos O];exact d _ (Or.inl (by omega)) (Or.inr (Or.inr (Or.inr (Or.inl ⟨anm O,rfl⟩))))
   rw [if_neg O];by_cases U:byteAt s i=9
   ·rw [if_pos U];exact d _ (Or.inl (by omega)) (Or.inr (Or.inr (Or.inr (Or.inr (Or.inl ⟨anm U,rfl⟩)))))
   rw [if_neg U];by_cases V:byteAt s i=13
   ·rw [if_pos V];exact d _ (Or.inl (by omega)) (Or.inr (Or.inr (Or.inr (Or.inr (Or.inr (Or.inl ⟨anm V,rfl⟩))))))
   rw [if_neg V];by_cases Y:byteAt s i<32\/byteAt s i=127\/sizeAt s i=0
   ·rw [if_pos Y];exact d _ (by omega) (Or.inr (Or.inr (Or.inr (Or.inr (Or.inr (Or.inr rfl))))))
   ·rw [if_neg Y];have Z:sizeAt s i≠0:=by omega
    have W:ab1 s i=sizeAt s i:=by unfold ab1;rw [if_neg Z]
    rw [W] at z ⊢;have e:s.drop i=(s.drop i).take (sizeAt s i)++s.drop (i+sizeAt s i):=by rw [<-A8,List.take_append_drop]
    rw [show Codes (s.drop i) _=Codes ((s.drop i).take (sizeAt s i)++s.drop (i+sizeAt s i)) _ by rw [<-e]];refine a3m _ (λb hb=>?_) z;obtain ⟨j,hj,rfl⟩:=List.mem_iff_getElem.1 hb;have ab:j<sizeAt s i:=by grind
    have aa:i+j<s.length:=by grind
    have ej:((s.drop i).take (sizeAt s i))[j]=s.getD (i+j) 0:=by grind
    rw [ej];have o:byteAt s (i+j)≠34/\byteAt s (i+j)≠92:=by
     have q0:byteAt s (i+0)=byteAt s i:=rfl;rcases ajx (s.length-i) (byteAt s i) (byteAt s (i+1)) (byteAt s (i+2)) (byteAt s (i+3)) (by omega) with h | ⟨h,c⟩ | ⟨h,c⟩ | ⟨h,c⟩ | ⟨h,c⟩
     ·exact absurd h Z
     ·grind [sizeAt]
     ·have h:sizeAt s i=2:=h;have:j=0\/j=1:=by omega
      grind
     ·have h:sizeAt s i=3:=h;have:j=0\/j=1\/j=2:=by omega
      grind
     ·have h:sizeAt s i=4:=h;have:j=0\/j=1\/j=2\/j=3:=by omega
      grind
    exact ⟨awa o.1,awa o.2⟩
  grind
theorem a6h {a b s t:Bq} (h:aa4 a++s=aa4 b++t):a=b/\s=t:=by have d:=ae7 a a.length 0 (by omega);have m:=ae7 b b.length 0 (by omega);rw [A1] at d m;unfold aa4 at h;simp only [Bb,Ax,List.cons.injEq,true_and,A3] at h;exact a3l d m h
def digC (c:UInt8):Bool:=decide (48<=c.toNat/\c.toNat<=57)
theorem a9c:((List.range 16).all λb=>(List.range 16).all λd=>!(hexd b==hexd d)||b==d)=true:=by kernel_rfl
theorem a9d {b d:Nat} (m:b<16) (o:d<16) (h:hexd b=hexd d):b=d:=by have:=Bi.1 a9c b (List.mem_range.2 m);grind
theorem a9a:∀ (n u v:Nat),u<16^n->v<16^n->hexN n u=hexN n v->u=v:=by
 intro n;induction n with
 | zero=>grind
 | succ n M=>
  intro u v z H h;rw [Nat.pow_succ] at z H;simp only [hexN] at h;have o:(hexN n (u / 16)).length=(hexN n (v / 16)).length:=by grind [aru]
  obtain ⟨d,m⟩:=List.append_inj h o;have O:=M (u / 16) (v / 16) (by omega) (by omega) d;have U:=a9d (Nat.mod_lt _ (by decide)) (Nat.mod_lt _ (by decide)) (by simpa using m);omega
end Go.Ab
namespace Go.Ab
open Go
set_option maxRecDepth 100000
end Go.Ab
namespace Go.Ab
open Go
set_option maxRecDepth 100000
theorem aih {d:Type} (l:List d) (i:Nat):(l.take ((l.length:Int)).toNat).drop ((i:Int)).toNat=l.drop i:=by simp
theorem ao0 {d:Type} (l:List d) {i:Nat} (h:i<=l.length):decide (0<=(i:Int)/\(i:Int)<=(l.length:Int)/\(l.length:Int)<=(l.length:Int))=true:=Ah (by omega)
theorem agc (c:UInt8):F231 0 (c.toNat:Int)=some (letB c):=by unfold F231 letB lowB capB;rw [show (97:Int)=((97:Nat):Int) from rfl,show (122:Int)=((122:Nat):Int) from rfl,show (65:Int)=((65:Nat):Int) from rfl,show (90:Int)=((90:Nat):Int) from rfl];grind [geI,leI,Bool.decide_and,decide]
theorem aj8 (c:UInt8):F232 0 (c.toNat:Int)=some (digC c):=by unfold F232 digC;rw [show (48:Int)=((48:Nat):Int) from rfl,show (57:Int)=((57:Nat):Int) from rfl];grind [geI,leI,Bool.decide_and,decide]
theorem a4g (c:UInt8):F235 0 (c.toNat:Int)=some (alnB c):=by grind [F235,decide,eqB,agc,aj8,letB,digC,alnB,digB,lowB,capB]
def runN (p:UInt8->Bool) (l:List UInt8):Nat:=(l.takeWhile p).length
theorem aid (p:UInt8->Bool) (l:List UInt8):runN p l<=l.length:=by
 unfold runN;induction l with
 | nil=>simp
 | cons c r d=>grind [List.takeWhile_cons]
theorem acz (p:UInt8->Bool) (c:UInt8) (r:List UInt8):runN p (c::r)=if p c=true then runN p r+1 else 0:=by grind [runN,List.takeWhile_cons]
theorem asu {p:UInt8->Bool}{step:(List UInt8×Unit×Int)->Option ((List UInt8×Unit×Int)⊕Int)} (s:List UInt8)
 (O:∀ i:Nat,i<s.length->step (s,(),(i:Int))=some (bif p (s.getD i 0) then .inl (s,(),((i+1:Nat):Int)) else .inr (i:Int)))
 (o:step (s,(),(s.length:Int))=some (.inr (s.length:Int))):∀ m i:Nat,s.length-i<=m->i<=s.length->aaz step (s,(),(i:Int))=some ((i+runN p (s.drop i):Nat):Int):=by
 intro m
 induction m with
 | zero=>
  intro i H z
  have:i=s.length:=by omega
  subst this
  rw [aac o,List.drop_length];rfl
 | succ m U=>
  intro i H z
  by_cases d:i<s.length
  ·rw [aaj d 0,acz];cases M:p (s.getD i 0) with
   | true=>have h:=O i d;rw [M] at h;rw [aan h,U (i+1) (by omega) (by omega)];grind
   | false=>grind [aac]
  grind
theorem azk (s:List UInt8) (m:s.length<=1048576):F124_v1 0 s ()=some ((runN alnB s:Nat):Int):=by
 have h:=asu (p:=alnB) (step:=S124_v1_3step 0) s (λi d=>by
  simp only [S124_v1_3step,S124_v1_3,abh,d,decide_true,aab,imp,Ad,Ag,a4g,Aa,Am,Bool.false_or,Bool.true_or,aa9 (show i<=9223372036854775000 by omega)];grind) (by
  simp only [S124_v1_3step,S124_v1_3,abh,Nat.lt_irrefl,decide_false,aab,imp,Ae,Aj,Bool.true_or,Ad,Aa]) s.length 0 (by omega) (by omega)
 unfold F124_v1;rw [aal,show (0:Int)=((0:Nat):Int) from rfl,h,A1,Nat.zero_add];rfl
theorem a6r (s:List UInt8) (m:s.length<=1048576):F124_v2 0 s ()=some ((runN digC s:Nat):Int):=by
 have h:=asu (p:=digC) (step:=S124_v2_3step 0) s (λi d=>by
  simp only [S124_v2_3step,S124_v2_3,abh,d,decide_true,aab,imp,Ad,Ag,aj8,Aa,Am,Bool.false_or,Bool.true_or,aa9 (show i<=9223372036854775000 by omega)];grind) (by
  simp only [S124_v2_3step,S124_v2_3,abh,Nat.lt_irrefl,decide_false,aab,imp,Ae,Aj,Bool.true_or,Ad,Aa]) s.length 0 (by omega) (by omega)
 unfold F124_v2;rw [aal,show (0:Int)=((0:Nat):Int) from rfl,h,A1,Nat.zero_add];rfl
def eat:List UInt8->Nat
 | []=>0
 | c::r=>if alnB c=true then eat r+1 else if c=46 then (match r with | d::_=>if letB d=true then eat r+1 else 0 | []=>0) else 0
theorem aek (c:UInt8) (r:List UInt8):eat (c::r)=if alnB c=true then eat r+1 else if c=46 then (match r with | d::_=>if letB d=true then eat r+1 else 0 | []=>0) else 0:=by rw [eat.eq_def]
theorem awk:∀ l:List UInt8,eat l=runN alnB l+eat (l.drop (runN alnB l)):=by
 intro l;induction l with
 | nil=>rfl
 | cons c r d=>
  rw [acz];by_cases h:alnB c=true
  ·rw [if_pos h,List.drop_succ_cons];have:eat (c::r)=eat r+1:=by rw [aek,if_pos h]
   grind
  grind
theorem am6 (p:UInt8->Bool):∀ (l:List UInt8) (c:UInt8) (r:List UInt8),l.drop (runN p l)=c::r->p c=false:=by
 intro l;induction l with
 | nil=>grind
 | cons x l d=>intro c r h;rw [acz] at h;grind
theorem aoi (s:List UInt8) (X:s.length<=1048576) (i:Nat) (W:i<=s.length) (d:s.length<=i+runN alnB (s.drop i)+1):aaz (S234_5step 0) (s,(i:Int))=some ((i+eat (s.drop i):Nat):Int):=by
 have z:=aid alnB (s.drop i);rw [Ar] at z;have H:=azk (s.drop i) (by grind);have o:=awk (s.drop i);have m:=am6 alnB (s.drop i);rw [A8] at o m;generalize runN alnB (s.drop i)=k at z H o m d;have O:IntKind.wrap .i64 ((i:Int)+((k:Nat):Int))=((i+k:Nat):Int):=by grind [abi]
 have Y:IntKind.wrap .i64 (((i+k:Nat):Int)+1)=((i+k+1:Nat):Int):=aa9 (by omega);have M:decide (((i+k+1:Nat):Int)>=(s.length:Int))=true:=Ah (by omega);have U:eat (s.drop (i+k))=0:=by
  cases V:s.drop (i+k) with
  | nil=>rfl
  | cons c r=>have X:=congrArg List.length V;grind [List.length_drop,List.length_cons,List.eq_nil_of_length_eq_zero,aek]
 refine (aac (y:=((i+k:Nat):Int)) ?_).trans (by rw [o,U];rfl);simp only [S234_5step,S234_5,ao0 s W,Ad,aih,H,Aa,O,Y,M,imp,Am,Aj,Bool.true_or,Ae,aag]
theorem ama (s:List UInt8) (hl:s.length<=1048576):∀ m i:Nat,s.length-i<=m->i<=s.length->aaz (S234_5step 0) (s,(i:Int))=some ((i+eat (s.drop i):Nat):Int):=by
 intro m;induction m with
 | zero=>grind [aoi]
 | succ m ih=>
  intro i hm hi;by_cases H:s.length<=i+runN alnB (s.drop i)+1
  ·grind [aoi]
  ·have Y:=aid alnB (s.drop i);rw [Ar] at Y;have Z:=azk (s.drop i) (by grind);have U:=awk (s.drop i);have z:=am6 alnB (s.drop i);rw [A8] at U z;generalize runN alnB (s.drop i)=k at Y Z U z H;have e3:IntKind.wrap .i64 ((i:Int)+((k:Nat):Int))=((i+k:Nat):Int):=by grind [abi]
   have hw:IntKind.wrap .i64 (((i+k:Nat):Int)+1)=((i+k+1:Nat):Int):=aa9 (by omega);have e2:decide (((i+k+1:Nat):Int)>=(s.length:Int))=false:=Al (by omega);have M:i+k<s.length:=by omega
   have O:i+k+1<s.length:=by omega
   have V:=aaj M (0:UInt8);have W:=aaj O (0:UInt8);have X:=z _ _ V;have step:S234_5step 0 (s,(i:Int))=some (bif (s.getD (i+k) 0==46)&&letB (s.getD (i+k+1) 0) then .inl (s,((i+k+1:Nat):Int)) else .inr ((i+k:Nat):Int)):=by
    have hb:(((s.getD (i+k) 0).toNat:Int) != (46:Int))=!(s.getD (i+k) 0==46):=by rw [show (46:Int)=(((46:UInt8).toNat:Nat):Int) from rfl,neB,a0a]
    simp only [S234_5step,S234_5,ao0 s hi,Ad,aih,Z,Aa,e3,hw,e2,imp,Am,Aj,Bool.false_or,Bool.true_or,Ae,aab,M,O,decide_true,Ag,List.take_length,hb,Bool.or_true,agc];cases (s.getD (i+k) 0==46)<;>cases letB (s.getD (i+k+1) 0)<;>simp
   by_cases o:((s.getD (i+k) 0==46)&&letB (s.getD (i+k+1) 0))=true
   ·rw [o] at step;rw [aan step,ih (i+k+1) (by omega) (by omega),U,V,aek,X];simp only [Ai,Bo] at o;rw [if_neg (by simp),if_pos o.1,W];simp only [o.2,A6];grind
   ·have o:((s.getD (i+k) 0==46)&&letB (s.getD (i+k+1) 0))=false:=by simpa using o
    rw [o] at step;rw [aac step,U,V,aek,X];have:(if s.getD (i+k) 0=46 then (match s.drop (i+k+1) with | d::_=>if letB d=true then eat (s.drop (i+k+1))+1 else 0 | []=>0) else 0)=0:=by split;all_goals grind
    grind
theorem a0u {t:List UInt8} (h:ae2 t=true):∃ c r,t=c::r/\letB c=true:=by
 unfold ae2 at h;simp only [Ai] at h;cases t with
 | nil=>grind [absurd,abb,acj]
 | cons c r=>
  refine ⟨c,r,rfl,?_⟩;have d:=h.2;simp only [abb] at d;cases o:(c==46) with
  | true=>grind [acj]
  | false=>rw [o] at d;simp only [Ae] at d;split at d<;>simp only [Bh,Ai] at d<;>(have m:=d.1;unfold acj at m;grind)
end Go.Ab
namespace Go.Ab
open Go
set_option maxRecDepth 100000
theorem ab9 {m:Type}{l:List m}{i:Nat}{c:m}{r:List m} (d:m) (h:l.drop i=c::r):i<l.length/\l.getD i d=c/\l.drop (i+1)=r:=by
 have o:i<l.length:=by have:=congrArg List.length h;grind
 grind [aaj,List.cons.injEq]
theorem bqI {c k:UInt8}{n:Int} (h:n=((k.toNat:Nat):Int)):((c.toNat:Int)==n)=(c==k):=by rw [h,eqB,a0a]
theorem in0 {d:Type} (c:d) (r:List d):aaa (0:Int) (c::r).length=true:=by rw [show (0:Int)=((0:Nat):Int) from rfl,aab];simp
def aig (c:UInt8):Bool:=decide (0<=Lib.indexByte ([123,125,91,93,40,41,60,62,61,59,44,64,45]:List UInt8) c)
theorem a6z (c:UInt8):F142 0 [c]=some (aig c):=rfl
theorem pre2 (c:UInt8) (r:List UInt8) (h:c≠47):F230 0 (c::r) ([47,47]:List UInt8)=some false:=by
 unfold F230 F297;have e:((([47,47]:List UInt8).length:Nat):Int)=(2:Int):=rfl;simp only [e];by_cases d:(2:Int)<=((c::r).length:Int)
 ·have m:decide ((0:Int)<=0/\(0:Int)<=2/\(2:Int)<=((c::r).length:Int))=true:=Ah ⟨by omega,by omega,d⟩;have o:(((c::r).take (2:Int).toNat).drop (0:Int).toNat==([47,47]:List UInt8))=false:=by
   grind
  rw [Ah (show ((c::r).length:Int)>=(2:Int) from d)];simp only [m,o,imp,Ad,Aa,Am]
 ·simp only [imp,ge_iff_le,d,decide_false,Ae,Aj,aag,Ad,Aa,Bool.false_and]
def ady (c:UInt8) (r:List UInt8):Bool:=letB c||(c==46&&(match r with | d::_=>letB d | []=>false))
def noSp (c:UInt8):Prop:=c≠32/\c≠9/\c≠13/\c≠10/\c≠47
theorem bau (c:UInt8) (r:List UInt8) (h:noSp c):F123 0 (c::r)=some (bif ady c r then 3 else bif digC c then 4 else bif c==34 then 5 else bif aig c then 6 else 0):=by
 obtain ⟨U,V,W,X,Y⟩:=h;have g:∀ k:UInt8,c≠k->(c==k)=false:=λk h=>At.2 h;have H:(((c::r).take (1:Int).toNat).drop (0:Int).toNat)=[c]:=rfl;have M:decide ((0:Int)<=(0:Int)/\(0:Int)<=(1:Int)/\(1:Int)<=((c::r).length:Int))=true:=Ah (by grind);have O:(c::r).getD (0:Int).toNat 0=c:=rfl;unfold F123;simp only [in0,H,M,O,Ad,bqI (c:=c) (k:=32) (n:=32) rfl,bqI (c:=c) (k:=9) (n:=9) rfl,bqI (c:=c) (k:=13) (n:=13) rfl,bqI (c:=c) (k:=10) (n:=10) rfl,bqI (c:=c) (k:=46) (n:=46) rfl,bqI (c:=c) (k:=34) (n:=34) rfl,g 32 U,g 9 V,g 13 W,g 10 X,Ae,pre2 c r Y,Aa,agc,aj8,a6z];unfold ady;cases r with
 | nil=>have m:decide ((([c]:List UInt8).length:Int)>(1:Int))=false:=rfl;simp only [m,aag,imp,Aj,Bool.true_or,Bool.or_true,Ad,Ae,Aa,Bool.and_false,Bool.or_false];grind
 | cons d r=>
  have m:decide (((c::d::r).length:Int)>(1:Int))=true:=Ah (by grind);have o:aaa (1:Int) (c::d::r).length=true:=by rw [show (1:Int)=((1:Nat):Int) from rfl,aab];simp
  have z:(c::d::r).getD (1:Int).toNat 0=d:=rfl;simp only [m,o,z,imp,agc,aag,Bool.true_or,Bool.or_true,Ad];grind
theorem a7j (s:List UInt8) (d:s.length<=1048576):∃ y,F141 0 s ([46]:List UInt8)=some y/\F140 0 y=some (aik s):=by
 have h:=ao9 s d;cases m:F141 0 s ([46]:List UInt8) with
 | none=>grind
 | some y=>grind
end Go.Ab
