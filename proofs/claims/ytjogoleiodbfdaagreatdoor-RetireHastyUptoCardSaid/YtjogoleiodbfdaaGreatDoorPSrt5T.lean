/- Changes are sorted: the whole sort. -/
import Derived.Test.YtjogoleiodbfdaaGreatDoorPSrt3T
set_option linter.unusedVariables false
set_option linter.unusedSimpArgs false
set_option linter.unnecessarySimpa false
namespace Go.Ab
open Go
set_option maxRecDepth 100000
inductive Ch (s:Nat):List PV->Prop
 | last {S:List PV}:S.length<=s->Srt S->Ch s S
 | cons {S R:List PV}:S.length=s->Srt S->Ch s R->Ch s (S++R)
theorem Ch.split {s:Nat}{R:List PV} (h:Ch s R) (M:s<=R.length):∃ S H,R=S++H/\S.length=s/\Srt S/\Ch s H:=by
 cases h with
 | last I o=>exact ⟨R,[],by simp,by omega,o,.last (by simp) List.Pairwise.nil⟩
 | cons I o J=>exact ⟨_,_,rfl,I,o,J⟩
theorem Ch.srt {s:Nat}{R:List PV} (h:Ch s R) (I:R.length<=s):Srt R:=by
 cases h with
 | last H o=>exact o
 | cons H o J=>rename_i S R;have:R=[]:=List.length_eq_zero_iff.1 (by simp at I;omega);subst this;simpa using o
theorem OkL.mid {D S h Q:List PV} (o:OkL (D++(S++Q))) (p:h.Perm S):OkL ((D++h)++Q):=o.perm (by rw [Ar];exact List.Perm.append_left D (List.Perm.append_right Q p))
theorem ph1 {n:Nat}:∀ (k:Nat) (R D:List PV),R.length<=k->OkL (D++R)->n=D.length+R.length->
 ∃ (a:Nat) (xs:List PV) (M:List PV),aa9 (S101_3step 0) ((),(n:Int),(),(20:Int),((D.length:Nat):Int),((D.length+20:Nat):Int),D++R)=some ((),(n:Int),(),(20:Int),(a:Int),xs)/\
  M.Perm R/\Ch 20 M/\F134 0 () (a:Int) (n:Int) () xs=some (D++M):=by
 intro k
 induction k with
 | zero=>
  intro R D hk J I
  have:R=[]:=List.length_eq_zero_iff.1 (by omega)
  subst this
  have O:decide (((D.length+20:Nat):Int)<=(n:Int))=false:=An (by simp at I;omega)
  obtain ⟨h,o,s2,Z⟩:=ap2 (a:=D.length) (b:=n) (U:=D) (S:=[]) (Q:=[]) rfl I (by simpa using J)
  have:h=[]:=o.eq_nil
  subst this
  refine ⟨D.length,D++[],[],aah ?_,List.Perm.refl _,.last (by simp) List.Pairwise.nil,by simpa using Z⟩
  simp only [S101_3step,S101_3,O,Ah]
 | succ k ih=>
  intro R D hk J I
  have hl:=J.1
  simp only [Ak] at hl
  by_cases aa:20<=R.length
  ·have eR:R=R.take 20++R.drop 20:=(List.take_append_drop _ _).symm;generalize hS:R.take 20=S at eR;generalize hT:R.drop 20=T at eR;have lS:S.length=20:=by rw [<-hS,List.length_take];omega
   subst eR;obtain ⟨h,o,s2,Z⟩:=ap2 (a:=D.length) (b:=D.length+20) (U:=D) (S:=S) (Q:=T) rfl (by omega) J;have H:h.length=20:=by rw [o.length_eq,lS]
   obtain ⟨a,xs,M,r1,r2,r3,r4⟩:=ih T (D++h) (by simp at hk;omega) (J.mid o) (by simp at I ⊢;omega);refine ⟨a,xs,h++M,?_,List.Perm.append o r2,.cons H s2 r3,by rw [r4];simp⟩;have O:decide (((D.length+20:Nat):Int)<=(n:Int))=true:=Ag (by simp at I;omega);rw [aaq (x1:=((),(n:Int),(),(20:Int),(((D++h).length:Nat):Int),(((D++h).length+20:Nat):Int),(D++h)++T))]
   ·exact r1
   ·have w:IntKind.wrap .i64 (((D.length+20:Nat):Int)+(20:Int))=(((D++h).length+20:Nat):Int):=by
     have:=aqx (a:=D.length+20) (i:=20) (by omega);rw [Ak,H];exact this
    simp only [S101_3step,S101_3,O,Af,Z,Aa,w];rw [Ak,H,Ar]
  ·have O:decide (((D.length+20:Nat):Int)<=(n:Int))=false:=An (by omega);obtain ⟨h,o,s2,Z⟩:=ap2 (a:=D.length) (b:=n) (U:=D) (S:=R) (Q:=[]) rfl I (by simpa using J);refine ⟨D.length,D++R,h,aah ?_,o,.last (by rw [o.length_eq];omega) s2,by simpa using Z⟩;simp only [S101_3step,S101_3,O,Ah]
theorem ph2 {n s:Nat} (hs:1<=s) (ab:s<=100000000):∀ (k:Nat) (R D:List PV),R.length<=k->Ch s R->OkL (D++R)->n=D.length+R.length->
 ∃ (a:Nat) (xs:List PV) (H:List PV),aa9 (S101_10step 0) ((),(n:Int),(),(s:Int),((D.length:Nat):Int),((D.length+2*s:Nat):Int),D++R)=some ((),(n:Int),(),(s:Int),(a:Int),xs)/\a<=n/\
  H.Perm R/\Ch (2*s) H/\(bif decide (((a+s:Nat):Int)<(n:Int)) then F135 0 () (a:Int) ((a+s:Nat):Int) (n:Int) () xs else some xs)=some (D++H):=by
 intro k
 induction k with
 | zero=>
  intro R D hk hc Z O
  have:R=[]:=List.length_eq_zero_iff.1 (by omega)
  subst this
  simp only [Ao,Nat.add_zero] at O
  have J:decide (((D.length+2*s:Nat):Int)<=(n:Int))=false:=An (by omega)
  have h:decide (((D.length+s:Nat):Int)<(n:Int))=false:=An (by omega)
  refine ⟨D.length,D++[],[],aah ?_,by omega,List.Perm.refl _,.last (by simp) List.Pairwise.nil,by rw [h];rfl⟩
  simp only [S101_10step,S101_10,J,Ah]
 | succ k ih=>
  intro R D hk hc Z O
  have hl:=Z.1
  simp only [Ak] at hl
  by_cases h2:2*s<=R.length
  ·obtain ⟨S1,R1,rfl,l1,o1,c1⟩:=hc.split (by omega);simp only [Ak] at h2 hl hk O;obtain ⟨S2,I,rfl,l2,o2,c2⟩:=c1.split (by omega);simp only [Ak] at h2 hl hk O;obtain ⟨C,o,e2,e3⟩:=as2 (a:=D.length) (m:=D.length+s) (b:=D.length+2*s) (P:=D) (A:=S1) (B:=S2) (Q:=I) rfl (by omega) (by omega) (by intro e;subst e;simp at l1;omega) (by intro e;subst e;simp at l2;omega) o1 o2 Z;have lC:C.length=2*s:=by rw [o.length_eq,Ak];omega
   have aa:OkL ((D++C)++I):=Z.perm (by rw [Ar];refine List.Perm.append_left D ?_;rw [<-Ar S1];exact List.Perm.append_right I o)
   obtain ⟨a,xs,H,r1,r0,r2,r3,r4⟩:=ih I (D++C) (by omega) c2 aa (by rw [Ak];omega);refine ⟨a,xs,C++H,?_,r0,?_,.cons lC e2 r3,by rw [r4];simp⟩
   ·have J:decide (((D.length+2*s:Nat):Int)<=(n:Int))=true:=Ag (by omega);rw [aaq (x1:=((),(n:Int),(),(s:Int),(((D++C).length:Nat):Int),(((D++C).length+2*s:Nat):Int),(D++C)++I))]
    ·exact r1
    ·have w1:IntKind.wrap .i64 ((D.length:Int)+(s:Int))=((D.length+s:Nat):Int):=aqx (by omega);have w2:IntKind.wrap .i64 ((2:Int)*(s:Int))=((2*s:Nat):Int):=by rw [show (2:Int)*(s:Int)=((2*s:Nat):Int) by omega];exact abb (by omega)
     have w3:IntKind.wrap .i64 (((D.length+2*s:Nat):Int)+((2*s:Nat):Int))=((D.length+2*s+2*s:Nat):Int):=aqx (by omega);simp only [S101_10step,S101_10,J,Af,w1,e3,Aa,w2,w3];rw [Ak,lC,Ar]
   ·refine (List.Perm.append o r2).trans ?_;rw [Ar]
  ·have J:decide (((D.length+2*s:Nat):Int)<=(n:Int))=false:=An (by omega);have M:S101_10step 0 ((),(n:Int),(),(s:Int),((D.length:Nat):Int),((D.length+2*s:Nat):Int),D++R)=some (.inr ((),(n:Int),(),(s:Int),((D.length:Nat):Int),D++R)):=by
    simp only [S101_10step,S101_10,J,Ah]
   by_cases h1:s<R.length
   ·have h:decide (((D.length+s:Nat):Int)<(n:Int))=true:=Ag (by omega);obtain ⟨S1,R1,rfl,l1,o1,c1⟩:=hc.split (by omega);simp only [Ak] at h2 hl hk O h1;obtain ⟨C,o,e2,e3⟩:=as2 (a:=D.length) (m:=D.length+s) (b:=n) (P:=D) (A:=S1) (B:=R1) (Q:=[]) rfl (by omega) (by omega) (by intro e;subst e;simp at l1;omega) (by intro e;subst e;simp at h1;omega) o1 (c1.srt (by omega)) (by simpa using Z);refine ⟨D.length,_,C,aah M,by omega,o,.last (by rw [o.length_eq,Ak];omega) e2,?_⟩;rw [h];simpa using e3
   ·have h:decide (((D.length+s:Nat):Int)<(n:Int))=false:=An (by omega);refine ⟨D.length,_,R,aah M,by omega,List.Perm.refl _,.last (by omega) (hc.srt (by omega)),?_⟩;rw [h];rfl
theorem ph3 {n:Nat}:∀ (k s:Nat) (xs:List PV),n<=s+k->1<=s->s<=400000000->Ch s xs->OkL xs->n=xs.length->
 ∃ ys:List PV,aa9 (S101_8step 0) ((),(n:Int),(),(s:Int),xs)=some ys/\ys.Perm xs/\Srt ys:=by
 intro k
 induction k with
 | zero=>
  intro s xs hk hs M H I J
  have o:decide ((s:Int)<(n:Int))=false:=An (by omega)
  refine ⟨xs,aah ?_,List.Perm.refl _,H.srt (by omega)⟩
  simp only [S101_8step,S101_8,o,Ah]
 | succ k ih=>
  intro s xs hk hs M H I J
  have hl:=I.1
  by_cases aa:s<n
  ·have o:decide ((s:Int)<(n:Int))=true:=Ag (by omega);obtain ⟨a,zs,R',r1,r0,Z,r3,h⟩:=ph2 (n:=n) hs (by omega) xs.length xs [] (Nat.le_refl _) H (by simpa using I) (by simpa using J);obtain ⟨ys,q1,q2,q3⟩:=ih (2*s) R' (by omega) (by omega) (by omega) r3 (I.perm Z) (by rw [Z.length_eq];exact J);refine ⟨ys,?_,q2.trans Z,q3⟩;have w1:IntKind.wrap .i64 ((2:Int)*(s:Int))=((2*s:Nat):Int):=by rw [show (2:Int)*(s:Int)=((2*s:Nat):Int) by omega];exact abb (by omega)
   have w2:IntKind.wrap .i64 ((a:Int)+(s:Int))=((a+s:Nat):Int):=aqx (by omega);have w3:IntKind.wrap .i64 ((s:Int)*(2:Int))=((2*s:Nat):Int):=by rw [show (s:Int)*(2:Int)=((2*s:Nat):Int) by omega];exact abb (by omega)
   have O:aag 0 (S101_10step 0) ((),(n:Int),(),(s:Int),(0:Int),((2*s:Nat):Int),xs)=some ((),(n:Int),(),(s:Int),(a:Int),zs):=by
    have e:(([]:List PV).length+2*s)=2*s:=by simp
    rw [e] at r1;exact r1
   rw [aaq (x1:=((),(n:Int),(),((2*s:Nat):Int),R'))]
   ·exact q1
   ·simp only [S101_8step,S101_8,o,Af,w1,O,Aa,w2,w3];cases hb:decide (((a+s:Nat):Int)<(n:Int)) with
    | true=>rw [hb] at h;simp only [Af] at h ⊢;rw [h];rfl
    | false=>rw [hb] at h;simp only [Ah,Al] at h ⊢;rw [h];rfl
  ·have o:decide ((s:Int)<(n:Int))=false:=An (by omega);refine ⟨xs,aah ?_,List.Perm.refl _,H.srt (by omega)⟩;simp only [S101_8step,S101_8,o,Ah]
theorem a9f {xs:List PV} (o:OkL xs):∃ ys:List PV,F61 0 () () xs=some ys/\ys.Perm xs/\Srt ys:=by have hl:=o.1;obtain ⟨a,zs,h,r1,J,r3,r4⟩:=ph1 (n:=xs.length) xs.length xs [] (Nat.le_refl _) (by simpa using o) (by simp);obtain ⟨ys,O,Z,q3⟩:=ph3 (n:=xs.length) xs.length 20 h (by omega) (by omega) (by omega) r3 (o.perm J) J.length_eq.symm;refine ⟨ys,?_,Z.trans J,q3⟩;unfold F61 F101;have I:aag 0 (S101_3step 0) ((),(xs.length:Int),(),(20:Int),(0:Int),(20:Int),xs)=some ((),(xs.length:Int),(),(20:Int),(a:Int),zs):=r1;have M:F134 0 () (a:Int) (xs.length:Int) () zs=some h:=r4;have H:aag 0 (S101_8step 0) ((),(xs.length:Int),(),(20:Int),h)=some ys:=O;rw [I];simp only [Aa,M,H]
end Go.Ab
namespace Go.Ab
open Go
set_option maxRecDepth 100000
def trn (k:Int):Int:=bif k==1 then 2 else bif k==2 then 1 else bif k==3 then 4 else bif k==4 then 3 else bif k==11 then 12 else bif k==12 then 11 else bif k==14 then 15 else bif k==15 then 14 else bif k==17 then 18 else bif k==18 then 17 else bif k==19 then 20 else bif k==20 then 19 else k
def ad8 (x:PV):PV:=.agg [.int (trn (chK x)),.str (chD x),.int (chN x),.str (chW x),.str (chO x)]
theorem a2p {x y:PV} (h:arb (ad8 x) (ad8 y)=true):ad8 x=ad8 y:=by simp only [arb,Aj,beq_iff_eq] at h;obtain ⟨⟨⟨⟨O,Z⟩,h3⟩,h4⟩,h5⟩:=h;have o:trn (chK x)=trn (chK y):=O;have H:chD x=chD y:=Z;have I:chN x=chN y:=h3;have J:chW x=chW y:=h4;have M:chO x=chO y:=h5;simp only [ad8,o,H,I,J,M]
theorem a4w {x y:PV} (h:leC x y) (o:leC y x):arb x y=true:=by have:=Lin.cmpC.anti x y;unfold leC at h o;exact (azp x y).1 (by omega)
theorem ays {l xs ys:List PV} (h:xs.Perm (l.map ad8)) (o:ys.Perm (l.map ad8)) (O:Srt xs) (Z:Srt ys):xs=ys:=by refine List.Perm.eq_of_pairwise (le:=leC) (λa b J M H I=>?_) O Z (h.trans o.symm);obtain ⟨u,_,rfl⟩:=List.mem_map.1 (h.mem_iff.1 J);obtain ⟨v,_,rfl⟩:=List.mem_map.1 (o.mem_iff.1 M);exact a2p (a4w H I)
theorem a2d {xs:List PV} (h:OkL xs):∃ ys:List PV,F24 0 xs=some ys/\ys.Perm xs/\Srt ys:=by
 obtain ⟨ys,o,H,I⟩:=a9f h;refine ⟨ys,?_,H,I⟩;have M:=h.1;have J:F60_v2 0 xs=some ((),xs):=by unfold F60_v2 F60_v1;rw [Ag (show xs.length<=aaf by unfold aaf;omega)];rfl
 unfold F24;rw [J];simp only [Aa,o]
theorem a1y (xs:List PV) (h:xs.length<=100000000):F5 0 xs xs=some true:=by
 have Z:((xs.length:Int) != (xs.length:Int))=false:=by simp
 have J:=ajm (step:=S5_5step 0) (λi=>(xs,xs,((i:Nat):Int))) xs.length (λ_=>true) (.inl false) (.inr ()) (λi I=>by
  have o:decide ((i:Int)<(xs.length:Int))=true:=Ag (by omega);have O:(bif ((xs[i].fld 0).asInt)==((xs[i].fld 0).asInt) then (bif ((xs[i].fld 1).asStr)==((xs[i].fld 1).asStr) then (bif ((xs[i].fld 2).asInt)==((xs[i].fld 2).asInt) then (bif ((xs[i].fld 3).asStr)==((xs[i].fld 3).asStr) then (bif ((xs[i].fld 4).asStr)==((xs[i].fld 4).asStr) then true else false) else false) else false) else false) else false)=true:=by simp
  simp only [S5_5step,S5_5,o,Af,aab,Ag I,Ai,aae I,O,Az,Ah,aax i (by omega)]) (by
  have o:decide (((xs.length:Nat):Int)<(xs.length:Int))=false:=An (by omega);simp only [S5_5step,S5_5,o,Ah]) xs.length 0 (by omega)
 have M:allF (λ_=>true) 0 xs.length=true:=by
  generalize xs.length=n;generalize (0:Nat)=i;induction n generalizing i with
  | zero=>rfl
  | succ n ih=>simp only [allF,ih];rfl
 rw [M] at J;unfold F5;rw [Z,Ah];have H:aag 0 (S5_5step 0) (xs,xs,(0:Int))=some (.inr ()):=J;rw [H];rfl
end Go.Ab
