/- Changes are sorted: the whole sort. -/
import Derived.Test.YthokbeimbdnnoaaGreatDoorPSrt3T
set_option linter.unusedVariables false
set_option linter.unusedSimpArgs false
set_option linter.unnecessarySimpa false
namespace Go.Ab
open Go
set_option maxRecDepth 100000
inductive Ch (s:Nat):List PV->Prop
 | last {S:List PV}:S.length<=s->Srt S->Ch s S
 | cons {S R:List PV}:S.length=s->Srt S->Ch s R->Ch s (S++R)
theorem Ch.split {s:Nat}{R:List PV} (h:Ch s R) (J:s<=R.length):∃ S z,R=S++z/\S.length=s/\Srt S/\Ch s z:=by
 cases h with
 | last H o=>exact ⟨R,[],by simp,by omega,o,.last (by simp) List.Pairwise.nil⟩
 | cons H o I=>exact ⟨_,_,rfl,H,o,I⟩
theorem Ch.srt {s:Nat}{R:List PV} (h:Ch s R) (H:R.length<=s):Srt R:=by
 cases h with
 | last z o=>exact o
 | cons z o I=>rename_i S R;have:R=[]:=List.length_eq_zero_iff.1 (by simp at H;omega);subst this;simpa using o
theorem OkL.mid {D S h Q:List PV} (o:OkL (D++(S++Q))) (p:h.Perm S):OkL ((D++h)++Q):=o.perm (by rw [Ap];exact List.Perm.append_left D (List.Perm.append_right Q p))
theorem ph1 {n:Nat}:∀ (k:Nat) (R D:List PV),R.length<=k->OkL (D++R)->n=D.length+R.length->
 ∃ (a:Nat) (xs:List PV) (J:List PV),aba (S158_3step 0) ((),(n:Int),(),(20:Int),((D.length:Nat):Int),((D.length+20:Nat):Int),D++R)=some ((),(n:Int),(),(20:Int),(a:Int),xs)/\
  J.Perm R/\Ch 20 J/\F216 0 () (a:Int) (n:Int) () xs=some (D++J):=by
 intro k
 induction k with
 | zero=>
  intro R D hk I H
  have:R=[]:=List.length_eq_zero_iff.1 (by omega)
  subst this
  have M:decide (((D.length+20:Nat):Int)<=(n:Int))=false:=An (by simp at H;omega)
  obtain ⟨h,o,Z,O⟩:=aoz (a:=D.length) (b:=n) (U:=D) (S:=[]) (Q:=[]) rfl H (by simpa using I)
  have:h=[]:=o.eq_nil
  subst this
  refine ⟨D.length,D++[],[],aai ?_,List.Perm.refl _,.last (by simp) List.Pairwise.nil,by simpa using O⟩
  simp only [S158_3step,S158_3,M,Ah]
 | succ k ih=>
  intro R D hk I H
  have hl:=I.1
  simp only [Ak] at hl
  by_cases aa:20<=R.length
  ·have eR:R=R.take 20++R.drop 20:=(List.take_append_drop _ _).symm;generalize hS:R.take 20=S at eR;generalize hT:R.drop 20=T at eR;have lS:S.length=20:=by rw [<-hS,List.length_take];omega
   subst eR;obtain ⟨h,o,Z,O⟩:=aoz (a:=D.length) (b:=D.length+20) (U:=D) (S:=S) (Q:=T) rfl (by omega) I;have z:h.length=20:=by rw [o.length_eq,lS]
   obtain ⟨a,xs,J,r1,r2,r3,r4⟩:=ih T (D++h) (by simp at hk;omega) (I.mid o) (by simp at H ⊢;omega);refine ⟨a,xs,h++J,?_,List.Perm.append o r2,.cons z Z r3,by rw [r4];simp⟩;have M:decide (((D.length+20:Nat):Int)<=(n:Int))=true:=Ag (by simp at H;omega);rw [aat (x1:=((),(n:Int),(),(20:Int),(((D++h).length:Nat):Int),(((D++h).length+20:Nat):Int),(D++h)++T))]
   ·exact r1
   ·have w:IntKind.wrap .i64 (((D.length+20:Nat):Int)+(20:Int))=(((D++h).length+20:Nat):Int):=by
     have:=apw (a:=D.length+20) (i:=20) (by omega);rw [Ak,z];exact this
    simp only [S158_3step,S158_3,M,Af,O,Ae,w];rw [Ak,z,Ap]
  ·have M:decide (((D.length+20:Nat):Int)<=(n:Int))=false:=An (by omega);obtain ⟨h,o,Z,O⟩:=aoz (a:=D.length) (b:=n) (U:=D) (S:=R) (Q:=[]) rfl H (by simpa using I);refine ⟨D.length,D++R,h,aai ?_,o,.last (by rw [o.length_eq];omega) Z,by simpa using O⟩;simp only [S158_3step,S158_3,M,Ah]
theorem ph2 {n s:Nat} (hs:1<=s) (ab:s<=100000000):∀ (k:Nat) (R D:List PV),R.length<=k->Ch s R->OkL (D++R)->n=D.length+R.length->
 ∃ (a:Nat) (xs:List PV) (z:List PV),aba (S158_10step 0) ((),(n:Int),(),(s:Int),((D.length:Nat):Int),((D.length+2*s:Nat):Int),D++R)=some ((),(n:Int),(),(s:Int),(a:Int),xs)/\a<=n/\
  z.Perm R/\Ch (2*s) z/\(bif decide (((a+s:Nat):Int)<(n:Int)) then F217 0 () (a:Int) ((a+s:Nat):Int) (n:Int) () xs else some xs)=some (D++z):=by
 intro k
 induction k with
 | zero=>
  intro R D hk hc O M
  have:R=[]:=List.length_eq_zero_iff.1 (by omega)
  subst this
  simp only [Ao,Nat.add_zero] at M
  have I:decide (((D.length+2*s:Nat):Int)<=(n:Int))=false:=An (by omega)
  have h:decide (((D.length+s:Nat):Int)<(n:Int))=false:=An (by omega)
  refine ⟨D.length,D++[],[],aai ?_,by omega,List.Perm.refl _,.last (by simp) List.Pairwise.nil,by rw [h];rfl⟩
  simp only [S158_10step,S158_10,I,Ah]
 | succ k ih=>
  intro R D hk hc O M
  have hl:=O.1
  simp only [Ak] at hl
  by_cases h2:2*s<=R.length
  ·obtain ⟨Z,R1,rfl,l1,o1,c1⟩:=hc.split (by omega);simp only [Ak] at h2 hl hk M;obtain ⟨S2,H,rfl,l2,o2,c2⟩:=c1.split (by omega);simp only [Ak] at h2 hl hk M;obtain ⟨C,o,e2,e3⟩:=arq (a:=D.length) (m:=D.length+s) (b:=D.length+2*s) (P:=D) (A:=Z) (B:=S2) (Q:=H) rfl (by omega) (by omega) (by intro e;subst e;simp at l1;omega) (by intro e;subst e;simp at l2;omega) o1 o2 O;have lC:C.length=2*s:=by rw [o.length_eq,Ak];omega
   have aa:OkL ((D++C)++H):=O.perm (by rw [Ap];refine List.Perm.append_left D ?_;rw [<-Ap Z];exact List.Perm.append_right H o)
   obtain ⟨a,xs,z,r1,r0,r2,r3,r4⟩:=ih H (D++C) (by omega) c2 aa (by rw [Ak];omega);refine ⟨a,xs,C++z,?_,r0,?_,.cons lC e2 r3,by rw [r4];simp⟩
   ·have I:decide (((D.length+2*s:Nat):Int)<=(n:Int))=true:=Ag (by omega);rw [aat (x1:=((),(n:Int),(),(s:Int),(((D++C).length:Nat):Int),(((D++C).length+2*s:Nat):Int),(D++C)++H))]
    ·exact r1
    ·have w1:IntKind.wrap .i64 ((D.length:Int)+(s:Int))=((D.length+s:Nat):Int):=apw (by omega);have w2:IntKind.wrap .i64 ((2:Int)*(s:Int))=((2*s:Nat):Int):=by rw [show (2:Int)*(s:Int)=((2*s:Nat):Int) by omega];exact aa9 (by omega)
     have w3:IntKind.wrap .i64 (((D.length+2*s:Nat):Int)+((2*s:Nat):Int))=((D.length+2*s+2*s:Nat):Int):=apw (by omega);simp only [S158_10step,S158_10,I,Af,w1,e3,Ae,w2,w3];rw [Ak,lC,Ap]
   ·refine (List.Perm.append o r2).trans ?_;rw [Ap]
  ·have I:decide (((D.length+2*s:Nat):Int)<=(n:Int))=false:=An (by omega);have J:S158_10step 0 ((),(n:Int),(),(s:Int),((D.length:Nat):Int),((D.length+2*s:Nat):Int),D++R)=some (.inr ((),(n:Int),(),(s:Int),((D.length:Nat):Int),D++R)):=by
    simp only [S158_10step,S158_10,I,Ah]
   by_cases h1:s<R.length
   ·have h:decide (((D.length+s:Nat):Int)<(n:Int))=true:=Ag (by omega);obtain ⟨Z,R1,rfl,l1,o1,c1⟩:=hc.split (by omega);simp only [Ak] at h2 hl hk M h1;obtain ⟨C,o,e2,e3⟩:=arq (a:=D.length) (m:=D.length+s) (b:=n) (P:=D) (A:=Z) (B:=R1) (Q:=[]) rfl (by omega) (by omega) (by intro e;subst e;simp at l1;omega) (by intro e;subst e;simp at h1;omega) o1 (c1.srt (by omega)) (by simpa using O);refine ⟨D.length,_,C,aai J,by omega,o,.last (by rw [o.length_eq,Ak];omega) e2,?_⟩;rw [h];simpa using e3
   ·have h:decide (((D.length+s:Nat):Int)<(n:Int))=false:=An (by omega);refine ⟨D.length,_,R,aai J,by omega,List.Perm.refl _,.last (by omega) (hc.srt (by omega)),?_⟩;rw [h];rfl
theorem ph3 {n:Nat}:∀ (k s:Nat) (xs:List PV),n<=s+k->1<=s->s<=400000000->Ch s xs->OkL xs->n=xs.length->
 ∃ ys:List PV,aba (S158_8step 0) ((),(n:Int),(),(s:Int),xs)=some ys/\ys.Perm xs/\Srt ys:=by
 intro k
 induction k with
 | zero=>
  intro s xs hk hs J z H I
  have o:decide ((s:Int)<(n:Int))=false:=An (by omega)
  refine ⟨xs,aai ?_,List.Perm.refl _,z.srt (by omega)⟩
  simp only [S158_8step,S158_8,o,Ah]
 | succ k ih=>
  intro s xs hk hs J z H I
  have hl:=H.1
  by_cases aa:s<n
  ·have o:decide ((s:Int)<(n:Int))=true:=Ag (by omega);obtain ⟨a,zs,Z,r1,r0,O,r3,h⟩:=ph2 (n:=n) hs (by omega) xs.length xs [] (Nat.le_refl _) z (by simpa using H) (by simpa using I);obtain ⟨ys,q1,q2,q3⟩:=ih (2*s) Z (by omega) (by omega) (by omega) r3 (H.perm O) (by rw [O.length_eq];exact I);refine ⟨ys,?_,q2.trans O,q3⟩;have w1:IntKind.wrap .i64 ((2:Int)*(s:Int))=((2*s:Nat):Int):=by rw [show (2:Int)*(s:Int)=((2*s:Nat):Int) by omega];exact aa9 (by omega)
   have w2:IntKind.wrap .i64 ((a:Int)+(s:Int))=((a+s:Nat):Int):=apw (by omega);have w3:IntKind.wrap .i64 ((s:Int)*(2:Int))=((2*s:Nat):Int):=by rw [show (s:Int)*(2:Int)=((2*s:Nat):Int) by omega];exact aa9 (by omega)
   have M:aag 0 (S158_10step 0) ((),(n:Int),(),(s:Int),(0:Int),((2*s:Nat):Int),xs)=some ((),(n:Int),(),(s:Int),(a:Int),zs):=by
    have e:(([]:List PV).length+2*s)=2*s:=by simp
    rw [e] at r1;exact r1
   rw [aat (x1:=((),(n:Int),(),((2*s:Nat):Int),Z))]
   ·exact q1
   ·simp only [S158_8step,S158_8,o,Af,w1,M,Ae,w2,w3];cases hb:decide (((a+s:Nat):Int)<(n:Int)) with
    | true=>rw [hb] at h;simp only [Af] at h ⊢;rw [h];rfl
    | false=>rw [hb] at h;simp only [Ah,Al] at h ⊢;rw [h];rfl
  ·have o:decide ((s:Int)<(n:Int))=false:=An (by omega);refine ⟨xs,aai ?_,List.Perm.refl _,z.srt (by omega)⟩;simp only [S158_8step,S158_8,o,Ah]
theorem a6l {xs:List PV} (o:OkL xs):∃ ys:List PV,F92 0 () () xs=some ys/\ys.Perm xs/\Srt ys:=by have hl:=o.1;obtain ⟨a,zs,h,r1,I,r3,r4⟩:=ph1 (n:=xs.length) xs.length xs [] (Nat.le_refl _) (by simpa using o) (by simp);obtain ⟨ys,M,O,Z⟩:=ph3 (n:=xs.length) xs.length 20 h (by omega) (by omega) (by omega) r3 (o.perm I) I.length_eq.symm;refine ⟨ys,?_,O.trans I,Z⟩;unfold F92 F158;have H:aag 0 (S158_3step 0) ((),(xs.length:Int),(),(20:Int),(0:Int),(20:Int),xs)=some ((),(xs.length:Int),(),(20:Int),(a:Int),zs):=r1;have J:F216 0 () (a:Int) (xs.length:Int) () zs=some h:=r4;have z:aag 0 (S158_8step 0) ((),(xs.length:Int),(),(20:Int),h)=some ys:=M;rw [H];simp only [Ae,J,z]
end Go.Ab
namespace Go.Ab
open Go
set_option maxRecDepth 100000
def trn (k:Int):Int:=(F47 0 k).getD 0
def adx (x:PV):PV:=.agg [.int (trn (chK x)),.str (chD x),.int (chN x),.str (chW x),.str (chO x)]
theorem a0d {x y:PV} (h:ap9 (adx x) (adx y)=true):adx x=adx y:=by simp only [ap9,Ai,beq_iff_eq] at h;obtain ⟨⟨⟨⟨M,O⟩,Z⟩,h4⟩,h5⟩:=h;have o:trn (chK x)=trn (chK y):=M;have z:chD x=chD y:=O;have H:chN x=chN y:=Z;have I:chW x=chW y:=h4;have J:chO x=chO y:=h5;simp only [adx,o,z,H,I,J]
theorem a1y {x y:PV} (h:leC x y) (o:leC y x):ap9 x y=true:=by have:=Lin.cmpC.anti x y;unfold leC at h o;exact (axs x y).1 (by omega)
theorem awu {l xs ys:List PV} (h:xs.Perm (l.map adx)) (o:ys.Perm (l.map adx)) (M:Srt xs) (O:Srt ys):xs=ys:=by refine List.Perm.eq_of_pairwise (le:=leC) (λa b I J z H=>?_) M O (h.trans o.symm);obtain ⟨u,_,rfl⟩:=List.mem_map.1 (h.mem_iff.1 I);obtain ⟨v,_,rfl⟩:=List.mem_map.1 (o.mem_iff.1 J);exact a0d (a1y z H)
theorem az0 {xs:List PV} (h:OkL xs):∃ ys:List PV,F39 0 xs=some ys/\ys.Perm xs/\Srt ys:=by
 obtain ⟨ys,o,z,H⟩:=a6l h;refine ⟨ys,?_,z,H⟩;have J:=h.1;have I:F91_v2 0 xs=some ((),xs):=by unfold F91_v2 F91_v1;rw [Ag (show xs.length<=aae by unfold aae;omega)];rfl
 unfold F39;rw [I];simp only [Ae,o]
theorem azu (xs:List PV) (h:xs.length<=100000000):F13 0 xs xs=some true:=by
 have O:((xs.length:Int) != (xs.length:Int))=false:=by simp
 have I:=aiy (step:=S13_5step 0) (λi=>(xs,xs,((i:Nat):Int))) xs.length (λ_=>true) (.inl false) (.inr ()) (λi H=>by
  have o:decide ((i:Int)<(xs.length:Int))=true:=Ag (by omega);have M:(bif ((xs[i].fld 0).asInt)==((xs[i].fld 0).asInt) then (bif ((xs[i].fld 1).asStr)==((xs[i].fld 1).asStr) then (bif ((xs[i].fld 2).asInt)==((xs[i].fld 2).asInt) then (bif ((xs[i].fld 3).asStr)==((xs[i].fld 3).asStr) then (bif ((xs[i].fld 4).asStr)==((xs[i].fld 4).asStr) then true else false) else false) else false) else false) else false)=true:=by simp
  simp only [S13_5step,S13_5,o,Af,aab,Ag H,Aj,aaf H,M,A3,Ah,aaz i (by omega)]) (by
  have o:decide (((xs.length:Nat):Int)<(xs.length:Int))=false:=An (by omega);simp only [S13_5step,S13_5,o,Ah]) xs.length 0 (by omega)
 have J:allF (λ_=>true) 0 xs.length=true:=by
  generalize xs.length=n;generalize (0:Nat)=i;induction n generalizing i with
  | zero=>rfl
  | succ n Z=>simp only [allF,Z];rfl
 rw [J] at I;unfold F13;rw [O,Ah];have z:aag 0 (S13_5step 0) (xs,xs,(0:Int))=some (.inr ()):=I;rw [z];rfl
end Go.Ab
