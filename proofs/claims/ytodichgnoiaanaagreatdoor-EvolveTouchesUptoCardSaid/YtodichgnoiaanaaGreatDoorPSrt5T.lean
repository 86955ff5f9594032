/- Changes are sorted: the whole sort. -/
import Derived.Test.YtodichgnoiaanaaGreatDoorPSrt3T
set_option linter.unusedVariables false
set_option linter.unusedSimpArgs false
set_option linter.unnecessarySimpa false
namespace Go.Ab
open Go
set_option maxRecDepth 100000
inductive Ch (s:Nat):List PV->Prop
 | last {S:List PV}:S.length<=s->Srt S->Ch s S
 | cons {S R:List PV}:S.length=s->Srt S->Ch s R->Ch s (S++R)
theorem Ch.split {s:Nat}{R:List PV} (h:Ch s R) (J:s<=R.length):∃ S o,R=S++o/\S.length=s/\Srt S/\Ch s o:=by
 cases h with
 | last H z=>exact ⟨R,[],by simp,by omega,z,.last (by simp) List.Pairwise.nil⟩
 | cons H z I=>grind
theorem Ch.srt {s:Nat}{R:List PV} (h:Ch s R) (I:R.length<=s):Srt R:=by
 cases h with
 | last z o=>exact o
 | cons z o H=>grind [List.length_eq_zero_iff]
theorem OkL.mid {D S h Q:List PV} (o:OkL (D++(S++Q))) (p:h.Perm S):OkL ((D++h)++Q):=o.perm (by grind [List.append_assoc,List.Perm.append_left,List.Perm.append_right])
theorem ph1 {n:Nat}:∀ (k:Nat) (R D:List PV),R.length<=k->OkL (D++R)->n=D.length+R.length->
 ∃ (a:Nat) (xs:List PV) (H:List PV),aa3 (S128_3step 0) ((),(n:Int),(),(20:Int),((D.length:Nat):Int),((D.length+20:Nat):Int),D++R)=some ((),(n:Int),(),(20:Int),(a:Int),xs)/\
  H.Perm R/\Ch 20 H/\F168 0 () (a:Int) (n:Int) () xs=some (D++H):=by
 intro k
 induction k with
 | zero=>
  intro R D hk z Z
  have:R=[]:=List.length_eq_zero_iff.1 (by omega)
  subst this
  have I:decide (((D.length+20:Nat):Int)<=(n:Int))=false:=An (by grind)
  obtain ⟨h,o,M,J⟩:=ars (a:=D.length) (b:=n) (U:=D) (S:=[]) (Q:=[]) rfl Z (by simpa using z)
  have:h=[]:=o.eq_nil
  subst this
  refine ⟨D.length,D++[],[],aai ?_,List.Perm.refl _,.last (by simp) List.Pairwise.nil,by simpa using J⟩
  simp only [S128_3step,S128_3,I,Ah]
 | succ k ih=>
  intro R D hk z Z
  have hl:=z.1
  simp only [Al] at hl
  by_cases ab:20<=R.length
  ·have O:R=R.take 20++R.drop 20:=(List.take_append_drop _ _).symm;generalize hS:R.take 20=S at O;generalize hT:R.drop 20=T at O;have lS:S.length=20:=by grind
   subst O;obtain ⟨h,o,M,J⟩:=ars (a:=D.length) (b:=D.length+20) (U:=D) (S:=S) (Q:=T) rfl (by omega) z;have aa:h.length=20:=by rw [o.length_eq,lS]
   obtain ⟨a,xs,H,r1,r2,r3,r4⟩:=ih T (D++h) (by grind) (z.mid o) (by grind);refine ⟨a,xs,h++H,?_,List.Perm.append o r2,.cons aa M r3,by rw [r4];simp⟩;have I:decide (((D.length+20:Nat):Int)<=(n:Int))=true:=Ag (by grind);rw [aao (x1:=((),(n:Int),(),(20:Int),(((D++h).length:Nat):Int),(((D++h).length+20:Nat):Int),(D++h)++T))]
   ·exact r1
   ·have w:IntKind.wrap .i64 (((D.length+20:Nat):Int)+(20:Int))=(((D++h).length+20:Nat):Int):=by
     have:=asu (a:=D.length+20) (i:=20) (by omega);grind
    simp only [S128_3step,S128_3,I,Af,J,Aa,w];simp_all
  ·have I:decide (((D.length+20:Nat):Int)<=(n:Int))=false:=An (by omega);obtain ⟨h,o,M,J⟩:=ars (a:=D.length) (b:=n) (U:=D) (S:=R) (Q:=[]) rfl Z (by simpa using z);refine ⟨D.length,D++R,h,aai ?_,o,.last (by rw [o.length_eq];omega) M,by simpa using J⟩;simp only [S128_3step,S128_3,I,Ah]
theorem ph2 {n s:Nat} (hs:1<=s) (ab:s<=100000000):∀ (k:Nat) (R D:List PV),R.length<=k->Ch s R->OkL (D++R)->n=D.length+R.length->
 ∃ (a:Nat) (xs:List PV) (o:List PV),aa3 (S128_10step 0) ((),(n:Int),(),(s:Int),((D.length:Nat):Int),((D.length+2*s:Nat):Int),D++R)=some ((),(n:Int),(),(s:Int),(a:Int),xs)/\a<=n/\
  o.Perm R/\Ch (2*s) o/\(bif decide (((a+s:Nat):Int)<(n:Int)) then F169 0 () (a:Int) ((a+s:Nat):Int) (n:Int) () xs else some xs)=some (D++o):=by
 intro k
 induction k with
 | zero=>
  intro R D hk Z J I
  have:R=[]:=List.length_eq_zero_iff.1 (by omega)
  subst this
  simp only [Aw,Nat.add_zero] at I
  have z:decide (((D.length+2*s:Nat):Int)<=(n:Int))=false:=An (by omega)
  have h:decide (((D.length+s:Nat):Int)<(n:Int))=false:=An (by omega)
  refine ⟨D.length,D++[],[],aai ?_,by omega,List.Perm.refl _,.last (by simp) List.Pairwise.nil,by rw [h];rfl⟩
  simp only [S128_10step,S128_10,z,Ah]
 | succ k ih=>
  intro R D hk Z J I
  have hl:=J.1
  simp only [Al] at hl
  by_cases h2:2*s<=R.length
  ·obtain ⟨S1,R1,rfl,l1,o1,c1⟩:=Z.split (by omega);simp only [Al] at h2 hl hk I;obtain ⟨S2,M,rfl,l2,o2,c2⟩:=c1.split (by omega);simp only [Al] at h2 hl hk I;obtain ⟨C,O,e2,e3⟩:=avf (a:=D.length) (m:=D.length+s) (b:=D.length+2*s) (P:=D) (A:=S1) (B:=S2) (Q:=M) rfl (by omega) (by omega) (by grind) (by grind) o1 o2 J;have lC:C.length=2*s:=by rw [O.length_eq,Al];omega
   have aa:OkL ((D++C)++M):=J.perm (by grind [List.append_assoc,List.Perm.append_left,List.Perm.append_right])
   obtain ⟨a,xs,o,r1,r0,r2,r3,r4⟩:=ih M (D++C) (by omega) c2 aa (by grind);refine ⟨a,xs,C++o,?_,r0,?_,.cons lC e2 r3,by rw [r4];simp⟩
   ·have z:decide (((D.length+2*s:Nat):Int)<=(n:Int))=true:=Ag (by omega);rw [aao (x1:=((),(n:Int),(),(s:Int),(((D++C).length:Nat):Int),(((D++C).length+2*s:Nat):Int),(D++C)++M))]
    ·exact r1
    ·have w1:IntKind.wrap .i64 ((D.length:Int)+(s:Int))=((D.length+s:Nat):Int):=asu (by omega);have w2:IntKind.wrap .i64 ((2:Int)*(s:Int))=((2*s:Nat):Int):=by grind [abe]
     have w3:IntKind.wrap .i64 (((D.length+2*s:Nat):Int)+((2*s:Nat):Int))=((D.length+2*s+2*s:Nat):Int):=asu (by omega);simp only [S128_10step,S128_10,z,Af,w1,e3,Aa,w2,w3];simp_all
   grind
  ·have z:decide (((D.length+2*s:Nat):Int)<=(n:Int))=false:=An (by omega);have H:S128_10step 0 ((),(n:Int),(),(s:Int),((D.length:Nat):Int),((D.length+2*s:Nat):Int),D++R)=some (.inr ((),(n:Int),(),(s:Int),((D.length:Nat):Int),D++R)):=by
    simp only [S128_10step,S128_10,z,Ah]
   by_cases h1:s<R.length
   ·have h:decide (((D.length+s:Nat):Int)<(n:Int))=true:=Ag (by omega);obtain ⟨S1,R1,rfl,l1,o1,c1⟩:=Z.split (by omega);simp only [Al] at h2 hl hk I h1;obtain ⟨C,O,e2,e3⟩:=avf (a:=D.length) (m:=D.length+s) (b:=n) (P:=D) (A:=S1) (B:=R1) (Q:=[]) rfl (by omega) (by omega) (by grind) (by grind) o1 (c1.srt (by omega)) (by simpa using J);refine ⟨D.length,_,C,aai H,by omega,O,.last (by rw [O.length_eq,Al];omega) e2,?_⟩;grind
   ·have h:decide (((D.length+s:Nat):Int)<(n:Int))=false:=An (by omega);refine ⟨D.length,_,R,aai H,by omega,List.Perm.refl _,.last (by omega) (Z.srt (by omega)),?_⟩;grind
theorem ph3 {n:Nat}:∀ (k s:Nat) (xs:List PV),n<=s+k->1<=s->s<=400000000->Ch s xs->OkL xs->n=xs.length->
 ∃ ys:List PV,aa3 (S128_8step 0) ((),(n:Int),(),(s:Int),xs)=some ys/\ys.Perm xs/\Srt ys:=by
 intro k
 induction k with
 | zero=>
  intro s xs hk Z I o h H
  have z:decide ((s:Int)<(n:Int))=false:=An (by omega)
  refine ⟨xs,aai ?_,List.Perm.refl _,o.srt (by omega)⟩
  simp only [S128_8step,S128_8,z,Ah]
 | succ k ih=>
  intro s xs hk Z I o h H
  have hl:=h.1
  by_cases aa:s<n
  ·have z:decide ((s:Int)<(n:Int))=true:=Ag (by omega);obtain ⟨a,zs,O,r1,r0,M,r3,r4⟩:=ph2 (n:=n) Z (by omega) xs.length xs [] (Nat.le_refl _) o (by simpa using h) (by simpa using H);obtain ⟨ys,q1,q2,q3⟩:=ih (2*s) O (by omega) (by omega) (by omega) r3 (h.perm M) (by rw [M.length_eq];exact H);refine ⟨ys,?_,q2.trans M,q3⟩;have w1:IntKind.wrap .i64 ((2:Int)*(s:Int))=((2*s:Nat):Int):=by grind [abe]
   have w2:IntKind.wrap .i64 ((a:Int)+(s:Int))=((a+s:Nat):Int):=asu (by omega);have w3:IntKind.wrap .i64 ((s:Int)*(2:Int))=((2*s:Nat):Int):=by grind
   have J:aaf 0 (S128_10step 0) ((),(n:Int),(),(s:Int),(0:Int),((2*s:Nat):Int),xs)=some ((),(n:Int),(),(s:Int),(a:Int),zs):=by
    have e:(([]:List PV).length+2*s)=2*s:=by simp
    rw [e] at r1;exact r1
   rw [aao (x1:=((),(n:Int),(),((2*s:Nat):Int),O))]
   ·exact q1
   ·simp only [S128_8step,S128_8,z,Af,w1,J,Aa,w2,w3];grind
  grind
theorem bcx {xs:List PV} (h:OkL xs):∃ ys:List PV,F79 0 () () xs=some ys/\ys.Perm xs/\Srt ys:=by have M:=h.1;obtain ⟨a,zs,z,Z,o,J,r4⟩:=ph1 (n:=xs.length) xs.length xs [] (Nat.le_refl _) (by simpa using h) (by simp);obtain ⟨ys,O,H,I⟩:=ph3 (n:=xs.length) xs.length 20 z (by omega) (by omega) (by omega) J (h.perm o) o.length_eq.symm;refine ⟨ys,?_,H.trans o,I⟩;grind [F79,F128,aaf,S128_3step,F168,S128_8step]
end Go.Ab
namespace Go.Ab
open Go
set_option maxRecDepth 100000
def trn (k:Int):Int:=(F40 0 k).getD 0
def aed (x:PV):PV:=.agg [.int (trn (chK x)),.str (chD x),.int (chN x),.str (chW x),.str (chO x)]
theorem a6p {x y:PV} (h:atd (aed x) (aed y)=true):aed x=aed y:=by simp only [atd,Aj,beq_iff_eq] at h;obtain ⟨⟨⟨⟨o,z⟩,H⟩,I⟩,J⟩:=h;have M:trn (chK x)=trn (chK y):=o;have O:chD x=chD y:=z;have Z:chN x=chN y:=H;have e4:chW x=chW y:=I;have e5:chO x=chO y:=J;grind [aed]
theorem a8x {x y:PV} (h:leC x y) (o:leC y x):atd x y=true:=by have:=Lin.cmpC.anti x y;unfold leC at h o;grind [a2j]
theorem a08 {l xs ys:List PV} (h:xs.Perm (l.map aed)) (o:ys.Perm (l.map aed)) (I:Srt xs) (J:Srt ys):xs=ys:=by refine List.Perm.eq_of_pairwise (le:=leC) (λa b z H M O=>?_) I J (h.trans o.symm);obtain ⟨u,_,rfl⟩:=List.mem_map.1 (h.mem_iff.1 z);obtain ⟨v,_,rfl⟩:=List.mem_map.1 (o.mem_iff.1 H);grind [a6p,a8x]
theorem a6a {xs:List PV} (h:OkL xs):∃ ys:List PV,F33 0 xs=some ys/\ys.Perm xs/\Srt ys:=by obtain ⟨ys,H,o,z⟩:=bcx h;refine ⟨ys,?_,o,z⟩;have I:=h.1;grind [F78_v2,F78_v1,decide_eq_true,aae,F33]
end Go.Ab
