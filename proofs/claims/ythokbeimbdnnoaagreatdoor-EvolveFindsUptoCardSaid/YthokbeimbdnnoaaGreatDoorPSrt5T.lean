/- Changes are sorted: the whole sort. -/
import Derived.Test.YthokbeimbdnnoaaGreatDoorPSrt3T
set_option linter.unusedVariables false
set_option linter.unusedSimpArgs false
set_option linter.unnecessarySimpa false
namespace Go.Ab
open Go
set_option maxRecDepth 100000
inductive Ch (s:Nat):List PV->Prop
 | last {S:List PV}:S.length<=s->Srt S->Ch s S
 | cons {S R:List PV}:S.length=s->Srt S->Ch s R->Ch s (S++R)
theorem Ch.split {s:Nat}{R:List PV} (h:Ch s R) (hs:s<=R.length):∃ S R2,R=S++R2/\S.length=s/\Srt S/\Ch s R2:=by
 cases h with
 | last h1 h2=>exact ⟨R,[],by simp,by omega,h2,.last (by simp) List.Pairwise.nil⟩
 | cons h1 h2 h3=>exact ⟨_,_,rfl,h1,h2,h3⟩
theorem Ch.srt {s:Nat}{R:List PV} (h:Ch s R) (hs:R.length<=s):Srt R:=by
 cases h with
 | last h1 h2=>exact h2
 | cons h1 h2 h3=>
  rename_i S R
  have:R=[]:=List.length_eq_zero_iff.1 (by simp at hs;omega)
  subst this
  simpa using h2
theorem OkL.mid {D S S' Q:List PV} (ok:OkL (D++(S++Q))) (p:S'.Perm S):OkL ((D++S')++Q):=ok.perm (by
 rw [List.append_assoc]
 exact List.Perm.append_left D (List.Perm.append_right Q p))
theorem ph1 {n:Nat}:∀ (k:Nat) (R D:List PV),R.length<=k->OkL (D++R)->n=D.length+R.length->
 ∃ (a:Nat) (xs:List PV) (R':List PV),aba (S158_3step 0) ((),(n:Int),(),(20:Int),((D.length:Nat):Int),((D.length+20:Nat):Int),D++R)=some ((),(n:Int),(),(20:Int),(a:Int),xs)/\
  R'.Perm R/\Ch 20 R'/\F216 0 () (a:Int) (n:Int) () xs=some (D++R'):=by
 intro k
 induction k with
 | zero=>
  intro R D hk ok hn
  have:R=[]:=List.length_eq_zero_iff.1 (by omega)
  subst this
  have hd:decide (((D.length+20:Nat):Int)<=(n:Int))=false:=decide_eq_false (by simp at hn;omega)
  obtain ⟨S',s1,s2,s3⟩:=anv (a:=D.length) (b:=n) (U:=D) (S:=[]) (Q:=[]) rfl hn (by simpa using ok)
  have:S'=[]:=s1.eq_nil
  subst this
  refine ⟨D.length,D++[],[],aag ?_,List.Perm.refl _,.last (by simp) List.Pairwise.nil,by simpa using s3⟩
  simp only [S158_3step,S158_3,hd,cond_false]
 | succ k ih=>
  intro R D hk ok hn
  have hl:=ok.1
  simp only [List.length_append] at hl
  by_cases h20:20<=R.length
  ·have eR:R=R.take 20++R.drop 20:=(List.take_append_drop _ _).symm
   generalize hS:R.take 20=S at eR
   generalize hT:R.drop 20=T at eR
   have lS:S.length=20:=by rw [<-hS,List.length_take];omega
   subst eR
   obtain ⟨S',s1,s2,s3⟩:=anv (a:=D.length) (b:=D.length+20) (U:=D) (S:=S) (Q:=T) rfl (by omega) ok
   have lS':S'.length=20:=by rw [s1.length_eq,lS]
   obtain ⟨a,xs,R',r1,r2,r3,r4⟩:=ih T (D++S') (by simp at hk;omega) (ok.mid s1) (by simp at hn ⊢;omega)
   refine ⟨a,xs,S'++R',?_,List.Perm.append s1 r2,.cons lS' s2 r3,by rw [r4];simp⟩
   have hd:decide (((D.length+20:Nat):Int)<=(n:Int))=true:=decide_eq_true (by simp at hn;omega)
   rw [aas (x1:=((),(n:Int),(),(20:Int),(((D++S').length:Nat):Int),(((D++S').length+20:Nat):Int),(D++S')++T))]
   ·exact r1
   ·have w:IntKind.wrap .i64 (((D.length+20:Nat):Int)+(20:Int))=(((D++S').length+20:Nat):Int):=by
     have:=aoq (a:=D.length+20) (i:=20) (by omega)
     rw [List.length_append,lS']
     exact this
    simp only [S158_3step,S158_3,hd,cond_true,s3,Option.bind_some,w]
    rw [List.length_append,lS',List.append_assoc]
  ·have hd:decide (((D.length+20:Nat):Int)<=(n:Int))=false:=decide_eq_false (by omega)
   obtain ⟨S',s1,s2,s3⟩:=anv (a:=D.length) (b:=n) (U:=D) (S:=R) (Q:=[]) rfl hn (by simpa using ok)
   refine ⟨D.length,D++R,S',aag ?_,s1,.last (by rw [s1.length_eq];omega) s2,by simpa using s3⟩
   simp only [S158_3step,S158_3,hd,cond_false]
theorem ph2 {n s:Nat} (hs:1<=s) (hs2:s<=100000000):∀ (k:Nat) (R D:List PV),R.length<=k->Ch s R->OkL (D++R)->n=D.length+R.length->
 ∃ (a:Nat) (xs:List PV) (R':List PV),aba (S158_10step 0) ((),(n:Int),(),(s:Int),((D.length:Nat):Int),((D.length+2*s:Nat):Int),D++R)=some ((),(n:Int),(),(s:Int),(a:Int),xs)/\a<=n/\
  R'.Perm R/\Ch (2*s) R'/\(bif decide (((a+s:Nat):Int)<(n:Int)) then F217 0 () (a:Int) ((a+s:Nat):Int) (n:Int) () xs else some xs)=some (D++R'):=by
 intro k
 induction k with
 | zero=>
  intro R D hk hc ok hn
  have:R=[]:=List.length_eq_zero_iff.1 (by omega)
  subst this
  simp only [List.length_nil,Nat.add_zero] at hn
  have hd:decide (((D.length+2*s:Nat):Int)<=(n:Int))=false:=decide_eq_false (by omega)
  have hd2:decide (((D.length+s:Nat):Int)<(n:Int))=false:=decide_eq_false (by omega)
  refine ⟨D.length,D++[],[],aag ?_,by omega,List.Perm.refl _,.last (by simp) List.Pairwise.nil,by rw [hd2];rfl⟩
  simp only [S158_10step,S158_10,hd,cond_false]
 | succ k ih=>
  intro R D hk hc ok hn
  have hl:=ok.1
  simp only [List.length_append] at hl
  by_cases h2:2*s<=R.length
  ·obtain ⟨S1,R1,rfl,l1,o1,c1⟩:=hc.split (by omega)
   simp only [List.length_append] at h2 hl hk hn
   obtain ⟨S2,R2,rfl,l2,o2,c2⟩:=c1.split (by omega)
   simp only [List.length_append] at h2 hl hk hn
   obtain ⟨C,e1,e2,e3⟩:=aqj (a:=D.length) (m:=D.length+s) (b:=D.length+2*s) (P:=D) (A:=S1) (B:=S2) (Q:=R2) rfl (by omega) (by omega) (by intro e;subst e;simp at l1;omega) (by intro e;subst e;simp at l2;omega) o1 o2 ok
   have lC:C.length=2*s:=by rw [e1.length_eq,List.length_append];omega
   have ok':OkL ((D++C)++R2):=ok.perm (by
    rw [List.append_assoc]
    refine List.Perm.append_left D ?_
    rw [<-List.append_assoc S1]
    exact List.Perm.append_right R2 e1)
   obtain ⟨a,xs,R',r1,r0,r2,r3,r4⟩:=ih R2 (D++C) (by omega) c2 ok' (by rw [List.length_append];omega)
   refine ⟨a,xs,C++R',?_,r0,?_,.cons lC e2 r3,by rw [r4];simp⟩
   ·have hd:decide (((D.length+2*s:Nat):Int)<=(n:Int))=true:=decide_eq_true (by omega)
    rw [aas (x1:=((),(n:Int),(),(s:Int),(((D++C).length:Nat):Int),(((D++C).length+2*s:Nat):Int),(D++C)++R2))]
    ·exact r1
    ·have w1:IntKind.wrap .i64 ((D.length:Int)+(s:Int))=((D.length+s:Nat):Int):=aoq (by omega)
     have w2:IntKind.wrap .i64 ((2:Int)*(s:Int))=((2*s:Nat):Int):=by rw [show (2:Int)*(s:Int)=((2*s:Nat):Int) by omega];exact aa5 (by omega)
     have w3:IntKind.wrap .i64 (((D.length+2*s:Nat):Int)+((2*s:Nat):Int))=((D.length+2*s+2*s:Nat):Int):=aoq (by omega)
     simp only [S158_10step,S158_10,hd,cond_true,w1,e3,Option.bind_some,w2,w3]
     rw [List.length_append,lC,List.append_assoc]
   ·refine (List.Perm.append e1 r2).trans ?_
    rw [List.append_assoc]
  ·have hd:decide (((D.length+2*s:Nat):Int)<=(n:Int))=false:=decide_eq_false (by omega)
   have hex:S158_10step 0 ((),(n:Int),(),(s:Int),((D.length:Nat):Int),((D.length+2*s:Nat):Int),D++R)=some (.inr ((),(n:Int),(),(s:Int),((D.length:Nat):Int),D++R)):=by
    simp only [S158_10step,S158_10,hd,cond_false]
   by_cases h1:s<R.length
   ·have hd2:decide (((D.length+s:Nat):Int)<(n:Int))=true:=decide_eq_true (by omega)
    obtain ⟨S1,R1,rfl,l1,o1,c1⟩:=hc.split (by omega)
    simp only [List.length_append] at h2 hl hk hn h1
    obtain ⟨C,e1,e2,e3⟩:=aqj (a:=D.length) (m:=D.length+s) (b:=n) (P:=D) (A:=S1) (B:=R1) (Q:=[]) rfl (by omega) (by omega) (by intro e;subst e;simp at l1;omega) (by intro e;subst e;simp at h1;omega) o1 (c1.srt (by omega)) (by simpa using ok)
    refine ⟨D.length,_,C,aag hex,by omega,e1,.last (by rw [e1.length_eq,List.length_append];omega) e2,?_⟩
    rw [hd2]
    simpa using e3
   ·have hd2:decide (((D.length+s:Nat):Int)<(n:Int))=false:=decide_eq_false (by omega)
    refine ⟨D.length,_,R,aag hex,by omega,List.Perm.refl _,.last (by omega) (hc.srt (by omega)),?_⟩
    rw [hd2]
    rfl
theorem ph3 {n:Nat}:∀ (k s:Nat) (xs:List PV),n<=s+k->1<=s->s<=400000000->Ch s xs->OkL xs->n=xs.length->
 ∃ ys:List PV,aba (S158_8step 0) ((),(n:Int),(),(s:Int),xs)=some ys/\ys.Perm xs/\Srt ys:=by
 intro k
 induction k with
 | zero=>
  intro s xs hk hs hs2 hc ok hn
  have hd:decide ((s:Int)<(n:Int))=false:=decide_eq_false (by omega)
  refine ⟨xs,aag ?_,List.Perm.refl _,hc.srt (by omega)⟩
  simp only [S158_8step,S158_8,hd,cond_false]
 | succ k ih=>
  intro s xs hk hs hs2 hc ok hn
  have hl:=ok.1
  by_cases hlt:s<n
  ·have hd:decide ((s:Int)<(n:Int))=true:=decide_eq_true (by omega)
   obtain ⟨a,zs,R',r1,r0,r2,r3,r4⟩:=ph2 (n:=n) hs (by omega) xs.length xs [] (Nat.le_refl _) hc (by simpa using ok) (by simpa using hn)
   obtain ⟨ys,q1,q2,q3⟩:=ih (2*s) R' (by omega) (by omega) (by omega) r3 (ok.perm r2) (by rw [r2.length_eq];exact hn)
   refine ⟨ys,?_,q2.trans r2,q3⟩
   have w1:IntKind.wrap .i64 ((2:Int)*(s:Int))=((2*s:Nat):Int):=by rw [show (2:Int)*(s:Int)=((2*s:Nat):Int) by omega];exact aa5 (by omega)
   have w2:IntKind.wrap .i64 ((a:Int)+(s:Int))=((a+s:Nat):Int):=aoq (by omega)
   have w3:IntKind.wrap .i64 ((s:Int)*(2:Int))=((2*s:Nat):Int):=by rw [show (s:Int)*(2:Int)=((2*s:Nat):Int) by omega];exact aa5 (by omega)
   have r1':aah 0 (S158_10step 0) ((),(n:Int),(),(s:Int),(0:Int),((2*s:Nat):Int),xs)=some ((),(n:Int),(),(s:Int),(a:Int),zs):=by
    have e:(([]:List PV).length+2*s)=2*s:=by simp
    rw [e] at r1
    exact r1
   rw [aas (x1:=((),(n:Int),(),((2*s:Nat):Int),R'))]
   ·exact q1
   ·simp only [S158_8step,S158_8,hd,cond_true,w1,r1',Option.bind_some,w2,w3]
    cases hb:decide (((a+s:Nat):Int)<(n:Int)) with
    | true=>
     rw [hb] at r4
     simp only [cond_true] at r4 ⊢
     rw [r4];rfl
    | false=>
     rw [hb] at r4
     simp only [cond_false,Option.some.injEq] at r4 ⊢
     rw [r4];rfl
  ·have hd:decide ((s:Int)<(n:Int))=false:=decide_eq_false (by omega)
   refine ⟨xs,aag ?_,List.Perm.refl _,hc.srt (by omega)⟩
   simp only [S158_8step,S158_8,hd,cond_false]
theorem a3u {xs:List PV} (ok:OkL xs):∃ ys:List PV,F92 0 () () xs=some ys/\ys.Perm xs/\Srt ys:=by
 have hl:=ok.1
 obtain ⟨a,zs,R',r1,r2,r3,r4⟩:=ph1 (n:=xs.length) xs.length xs [] (Nat.le_refl _) (by simpa using ok) (by simp)
 obtain ⟨ys,q1,q2,q3⟩:=ph3 (n:=xs.length) xs.length 20 R' (by omega) (by omega) (by omega) r3 (ok.perm r2) r2.length_eq.symm
 refine ⟨ys,?_,q2.trans r2,q3⟩
 unfold F92 F158
 have r1':aah 0 (S158_3step 0) ((),(xs.length:Int),(),(20:Int),(0:Int),(20:Int),xs)=some ((),(xs.length:Int),(),(20:Int),(a:Int),zs):=r1
 have r4':F216 0 () (a:Int) (xs.length:Int) () zs=some R':=r4
 have q1':aah 0 (S158_8step 0) ((),(xs.length:Int),(),(20:Int),R')=some ys:=q1
 rw [r1']
 simp only [Option.bind_some,r4',q1']
end Go.Ab
namespace Go.Ab
open Go
set_option maxRecDepth 100000
theorem aym {xs:List PV} (ok:OkL xs):∃ ys:List PV,F39 0 xs=some ys/\ys.Perm xs/\Srt ys:=by
 obtain ⟨ys,h1,h2,h3⟩:=a3u ok
 refine ⟨ys,?_,h2,h3⟩
 have hl:=ok.1
 have hc:F91_v2 0 xs=some ((),xs):=by
  unfold F91_v2 F91_v1
  rw [decide_eq_true (show xs.length<=aam by unfold aam;omega)]
  rfl
 unfold F39
 rw [hc]
 simp only [Option.bind_some,h1]
end Go.Ab
