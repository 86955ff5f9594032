/- Changes are sorted: the whole sort. -/
import Derived.Test.YthokbeimbdnnoaaGreatDoorPSrt3T
set_option linter.unusedVariables false
set_option linter.unusedSimpArgs false
set_option linter.unnecessarySimpa false
namespace Go.Ab
open Go
set_option maxRecDepth 100000
inductive Ch (s:Nat):List PV->Prop
 | last {S:List PV}:S.length<=s->Srt S->Ch s S
 | cons {S R:List PV}:S.length=s->Srt S->Ch s R->Ch s (S++R)
theorem Ch.split {s:Nat}{R:List PV} (h:Ch s R) (hs:s<=R.length):∃ S R2,R=S++R2/\S.length=s/\Srt S/\Ch s R2:=by
 cases h with
 | last h1 h2=>exact ⟨R,[],by simp,by omega,h2,.last (by simp) List.Pairwise.nil⟩
 | cons h1 h2 h3=>exact ⟨_,_,rfl,h1,h2,h3⟩
theorem Ch.srt {s:Nat}{R:List PV} (h:Ch s R) (hs:R.length<=s):Srt R:=by
 cases h with
 | last h1 h2=>exact h2
 | cons h1 h2 h3=>
  rename_i S R
  have:R=[]:=List.length_eq_zero_iff.1 (by simp at hs;omega)
  subst this
  simpa using h2
theorem OkL.mid {D S S' Q:List PV} (ok:OkL (D++(S++Q))) (p:S'.Perm S):OkL ((D++S')++Q):=ok.perm (by
 rw [List.append_assoc]
 exact List.Perm.append_left D (List.Perm.append_right Q p))
theorem ph1 {n:Nat}:∀ (k:Nat) (R D:List PV),R.length<=k->OkL (D++R)->n=D.length+R.length->
 ∃ (a:Nat) (xs:List PV) (R':List PV),aa8 (S158_3step 0) ((),(n:Int),(),(20:Int),((D.length:Nat):Int),((D.length+20:Nat):Int),D++R)=some ((),(n:Int),(),(20:Int),(a:Int),xs)/\
  R'.Perm R/\Ch 20 R'/\F216 0 () (a:Int) (n:Int) () xs=some (D++R'):=by
 intro k
 induction k with
 | zero=>
  intro R D hk ok hn
  have:R=[]:=List.length_eq_zero_iff.1 (by omega)
  subst this
  have hd:decide (((D.length+20:Nat):Int)<=(n:Int))=false:=decide_eq_false (by simp at hn;omega)
  obtain ⟨S',s1,s2,s3⟩:=ang (a:=D.length) (b:=n) (U:=D) (S:=[]) (Q:=[]) rfl hn (by simpa using ok)
  have:S'=[]:=s1.eq_nil
  subst this
  refine ⟨D.length,D++[],[],aae ?_,List.Perm.refl _,.last (by simp) List.Pairwise.nil,by simpa using s3⟩
  simp only [S158_3step,S158_3,hd,cond_false]
 | succ k ih=>
  intro R D hk ok hn
  have hl:=ok.1
  simp only [List.length_append] at hl
  by_cases h20:20<=R.length
  ·have eR:R=R.take 20++R.drop 20:=(List.take_append_drop _ _).symm
   generalize hS:R.take 20=S at eR
   generalize hT:R.drop 20=T at eR
   have lS:S.length=20:=by rw [<-hS,List.length_take];omega
   subst eR
   obtain ⟨S',s1,s2,s3⟩:=ang (a:=D.length) (b:=D.length+20) (U:=D) (S:=S) (Q:=T) rfl (by omega) ok
   have lS':S'.length=20:=by rw [s1.length_eq,lS]
   obtain ⟨a,xs,R',r1,r2,r3,r4⟩:=ih T (D++S') (by simp at hk;omega) (ok.mid s1) (by simp at hn ⊢;omega)
   refine ⟨a,xs,S'++R',?_,List.Perm.append s1 r2,.cons lS' s2 r3,by rw [r4];simp⟩
   have hd:decide (((D.length+20:Nat):Int)<=(n:Int))=true:=decide_eq_true (by simp at hn;omega)
   rw [aat (x1:=((),(n:Int),(),(20:Int),(((D++S').length:Nat):Int),(((D++S').length+20:Nat):Int),(D++S')++T))]
   ·exact r1
   ·have w:IntKind.wrap .i64 (((D.length+20:Nat):Int)+(20:Int))=(((D++S').length+20:Nat):Int):=by
     have:=aob (a:=D.length+20) (i:=20) (by omega)
     rw [List.length_append,lS']
     exact this
    simp only [S158_3step,S158_3,hd,cond_true,s3,Option.bind_some,w]
    rw [List.length_append,lS',List.append_assoc]
  ·have hd:decide (((D.length+20:Nat):Int)<=(n:Int))=false:=decide_eq_false (by omega)
   obtain ⟨S',s1,s2,s3⟩:=ang (a:=D.length) (b:=n) (U:=D) (S:=R) (Q:=[]) rfl hn (by simpa using ok)
   refine ⟨D.length,D++R,S',aae ?_,s1,.last (by rw [s1.length_eq];omega) s2,by simpa using s3⟩
   simp only [S158_3step,S158_3,hd,cond_false]
theorem ph2 {n s:Nat} (hs:1<=s) (hs2:s<=100000000):∀ (k:Nat) (R D:List PV),R.length<=k->Ch s R->OkL (D++R)->n=D.length+R.length->
 ∃ (a:Nat) (xs:List PV) (R':List PV),aa8 (S158_10step 0) ((),(n:Int),(),(s:Int),((D.length:Nat):Int),((D.length+2*s:Nat):Int),D++R)=some ((),(n:Int),(),(s:Int),(a:Int),xs)/\a<=n/\
  R'.Perm R/\Ch (2*s) R'/\(bif decide (((a+s:Nat):Int)<(n:Int)) then F217 0 () (a:Int) ((a+s:Nat):Int) (n:Int) () xs else some xs)=some (D++R'):=by
 intro k
 induction k with
 | zero=>
  intro R D hk hc ok hn
  have:R=[]:=List.length_eq_zero_iff.1 (by omega)
  subst this
  simp only [List.length_nil,Nat.add_zero] at hn
  have hd:decide (((D.length+2*s:Nat):Int)<=(n:Int))=false:=decide_eq_false (by omega)
  have hd2:decide (((D.length+s:Nat):Int)<(n:Int))=false:=decide_eq_false (by omega)
  refine ⟨D.length,D++[],[],aae ?_,by omega,List.Perm.refl _,.last (by simp) List.Pairwise.nil,by rw [hd2];rfl⟩
  simp only [S158_10step,S158_10,hd,cond_false]
 | succ k ih=>
  intro R D hk hc ok hn
  have hl:=ok.1
  simp only [List.length_append] at hl
  by_cases h2:2*s<=R.length
  ·obtain ⟨S1,R1,rfl,l1,o1,c1⟩:=hc.split (by omega)
   simp only [List.length_append] at h2 hl hk hn
   obtain ⟨S2,R2,rfl,l2,o2,c2⟩:=c1.split (by omega)
   simp only [List.length_append] at h2 hl hk hn
   obtain ⟨C,e1,e2,e3⟩:=ap6 (a:=D.length) (m:=D.length+s) (b:=D.length+2*s) (P:=D) (A:=S1) (B:=S2) (Q:=R2) rfl (by omega) (by omega) (by intro e;subst e;simp at l1;omega) (by intro e;subst e;simp at l2;omega) o1 o2 ok
   have lC:C.length=2*s:=by rw [e1.length_eq,List.length_append];omega
   have ok':OkL ((D++C)++R2):=ok.perm (by
    rw [List.append_assoc]
    refine List.Perm.append_left D ?_
    rw [<-List.append_assoc S1]
    exact List.Perm.append_right R2 e1)
   obtain ⟨a,xs,R',r1,r0,r2,r3,r4⟩:=ih R2 (D++C) (by omega) c2 ok' (by rw [List.length_append];omega)
   refine ⟨a,xs,C++R',?_,r0,?_,.cons lC e2 r3,by rw [r4];simp⟩
   ·have hd:decide (((D.length+2*s:Nat):Int)<=(n:Int))=true:=decide_eq_true (by omega)
    rw [aat (x1:=((),(n:Int),(),(s:Int),(((D++C).length:Nat):Int),(((D++C).length+2*s:Nat):Int),(D++C)++R2))]
    ·exact r1
    ·have w1:IntKind.wrap .i64 ((D.length:Int)+(s:Int))=((D.length+s:Nat):Int):=aob (by omega)
     have w2:IntKind.wrap .i64 ((2:Int)*(s:Int))=((2*s:Nat):Int):=by rw [show (2:Int)*(s:Int)=((2*s:Nat):Int) by omega];exact aa5 (by omega)
     have w3:IntKind.wrap .i64 (((D.length+2*s:Nat):Int)+((2*s:Nat):Int))=((D.length+2*s+2*s:Nat):Int):=aob (by omega)
     simp only [S158_10step,S158_10,hd,cond_true,w1,e3,Option.bind_some,w2,w3]
     rw [List.length_append,lC,List.append_assoc]
   ·refine (List.Perm.append e1 r2).trans ?_
    rw [List.append_assoc]
  ·have hd:decide (((D.length+2*s:Nat):Int)<=(n:Int))=false:=decide_eq_false (by omega)
   have hex:S158_10step 0 ((),(n:Int),(),(s:Int),((D.length:Nat):Int),((D.length+2*s:Nat):Int),D++R)=some (.inr ((),(n:Int),(),(s:Int),((D.length:Nat):Int),D++R)):=by
    simp only [S158_10step,S158_10,hd,cond_false]
   by_cases h1:s<R.length
   ·have hd2:decide (((D.length+s:Nat):Int)<(n:Int))=true:=decide_eq_true (by omega)
    obtain ⟨S1,R1,rfl,l1,o1,c1⟩:=hc.split (by omega)
    simp only [List.length_append] at h2 hl hk hn h1
    obtain ⟨C,e1,e2,e3⟩:=ap6 (a:=D.length) (m:=D.length+s) (b:=n) (P:=D) (A:=S1) (B:=R1) (Q:=[]) rfl (by omega) (by omega) (by intro e;subst e;simp at l1;omega) (by intro e;subst e;simp at h1;omega) o1 (c1.srt (by omega)) (by simpa using ok)
    refine ⟨D.length,_,C,aae hex,by omega,e1,.last (by rw [e1.length_eq,List.length_append];omega) e2,?_⟩
    rw [hd2]
    simpa using e3
   ·have hd2:decide (((D.length+s:Nat):Int)<(n:Int))=false:=decide_eq_false (by omega)
    refine ⟨D.length,_,R,aae hex,by omega,List.Perm.refl _,.last (by omega) (hc.srt (by omega)),?_⟩
    rw [hd2]
    rfl
theorem ph3 {n:Nat}:∀ (k s:Nat) (xs:List PV),n<=s+k->1<=s->s<=400000000->Ch s xs->OkL xs->n=xs.length->
 ∃ ys:List PV,aa8 (S158_8step 0) ((),(n:Int),(),(s:Int),xs)=some ys/\ys.Perm xs/\Srt ys:=by
 intro k
 induction k with
 | zero=>
  intro s xs hk hs hs2 hc ok hn
  have hd:decide ((s:Int)<(n:Int))=false:=decide_eq_false (by omega)
  refine ⟨xs,aae ?_,List.Perm.refl _,hc.srt (by omega)⟩
  simp only [S158_8step,S158_8,hd,cond_false]
 | succ k ih=>
  intro s xs hk hs hs2 hc ok hn
  have hl:=ok.1
  by_cases hlt:s<n
  ·have hd:decide ((s:Int)<(n:Int))=true:=decide_eq_true (by omega)
   obtain ⟨a,zs,R',r1,r0,r2,r3,r4⟩:=ph2 (n:=n) hs (by omega) xs.length xs [] (Nat.le_refl _) hc (by simpa using ok) (by simpa using hn)
   obtain ⟨ys,q1,q2,q3⟩:=ih (2*s) R' (by omega) (by omega) (by omega) r3 (ok.perm r2) (by rw [r2.length_eq];exact hn)
   refine ⟨ys,?_,q2.trans r2,q3⟩
   have w1:IntKind.wrap .i64 ((2:Int)*(s:Int))=((2*s:Nat):Int):=by rw [show (2:Int)*(s:Int)=((2*s:Nat):Int) by omega];exact aa5 (by omega)
   have w2:IntKind.wrap .i64 ((a:Int)+(s:Int))=((a+s:Nat):Int):=aob (by omega)
   have w3:IntKind.wrap .i64 ((s:Int)*(2:Int))=((2*s:Nat):Int):=by rw [show (s:Int)*(2:Int)=((2*s:Nat):Int) by omega];exact aa5 (by omega)
   have r1':aah 0 (S158_10step 0) ((),(n:Int),(),(s:Int),(0:Int),((2*s:Nat):Int),xs)=some ((),(n:Int),(),(s:Int),(a:Int),zs):=by
    have e:(([]:List PV).length+2*s)=2*s:=by simp
    rw [e] at r1
    exact r1
   rw [aat (x1:=((),(n:Int),(),((2*s:Nat):Int),R'))]
   ·exact q1
   ·simp only [S158_8step,S158_8,hd,cond_true,w1,r1',Option.bind_some,w2,w3]
    cases hb:decide (((a+s:Nat):Int)<(n:Int)) with
    | true=>
     rw [hb] at r4
     simp only [cond_true] at r4 ⊢
     rw [r4];rfl
    | false=>
     rw [hb] at r4
     simp only [cond_false,Option.some.injEq] at r4 ⊢
     rw [r4];rfl
  ·have hd:decide ((s:Int)<(n:Int))=false:=decide_eq_false (by omega)
   refine ⟨xs,aae ?_,List.Perm.refl _,hc.srt (by omega)⟩
   simp only [S158_8step,S158_8,hd,cond_false]
theorem a2v {xs:List PV} (ok:OkL xs):∃ ys:List PV,F92 0 () () xs=some ys/\ys.Perm xs/\Srt ys:=by
 have hl:=ok.1
 obtain ⟨a,zs,R',r1,r2,r3,r4⟩:=ph1 (n:=xs.length) xs.length xs [] (Nat.le_refl _) (by simpa using ok) (by simp)
 obtain ⟨ys,q1,q2,q3⟩:=ph3 (n:=xs.length) xs.length 20 R' (by omega) (by omega) (by omega) r3 (ok.perm r2) r2.length_eq.symm
 refine ⟨ys,?_,q2.trans r2,q3⟩
 unfold F92 F158
 have r1':aah 0 (S158_3step 0) ((),(xs.length:Int),(),(20:Int),(0:Int),(20:Int),xs)=some ((),(xs.length:Int),(),(20:Int),(a:Int),zs):=r1
 have r4':F216 0 () (a:Int) (xs.length:Int) () zs=some R':=r4
 have q1':aah 0 (S158_8step 0) ((),(xs.length:Int),(),(20:Int),R')=some ys:=q1
 rw [r1']
 simp only [Option.bind_some,r4',q1']
end Go.Ab
namespace Go.Ab
open Go
set_option maxRecDepth 100000
theorem auk {σ τ α β:Type}{step:σ->Option (σ⊕τ)} (st:Nat->β->σ) (xs:List α) (f:β->α->β) (out:β->τ) (Inv:Nat->β->Prop)
 (hgo:∀ i acc (h:i<xs.length),Inv i acc->step (st i acc)=some (.inl (st (i+1) (f acc xs[i])))/\Inv (i+1) (f acc xs[i])) (hend:∀ acc,Inv xs.length acc->step (st xs.length acc)=some (.inr (out acc))):
 ∀ k i acc,i+k=xs.length->Inv i acc->aa8 step (st i acc)=some (out ((xs.drop i).foldl f acc))/\Inv xs.length ((xs.drop i).foldl f acc):=by
 intro k
 induction k with
 | zero=>
  intro i acc hi hI
  have:i=xs.length:=by omega
  subst this
  rw [List.drop_length]
  exact ⟨aae (hend acc hI),hI⟩
 | succ k ih=>
  intro i acc hi hI
  have h:i<xs.length:=by omega
  obtain ⟨h1,h2⟩:=hgo i acc h hI
  rw [aat h1,List.drop_eq_getElem_cons h]
  exact ih (i+1) _ (by omega) h2
theorem awe {α β:Type} (g:α->β):∀ (l:List α) (acc:List β),l.foldl (fun a x=>a++[g x]) acc=acc++l.map g:=by
 intro l
 induction l with
 | nil=>intro acc;simp
 | cons x l ih=>intro acc;rw [List.foldl_cons,ih];simp
theorem someC {α:Type}{b:Bool}{x y:Option α} (h1:x.isSome=true) (h2:y.isSome=true):(bif b then x else y).isSome=true:=by cases b<;>assumption
def trn (k:Int):Int:=(F47 0 k).getD 0
theorem ayb (k:Int):F47 0 k=some (trn k):=by
 have hs:(F47 0 k).isSome=true:=by
  unfold F47
  repeat' (first | rfl | refine someC ?_ ?_)
 obtain ⟨t,h⟩:=Option.isSome_iff_exists.1 hs
 rw [trn,h];rfl
def ab3 (x:PV):PV:=.agg [.int (trn (chK x)),.str (chD x),.int (chN x),.str (chW x),.str (chO x)]
theorem aya {x y:PV} (h:aop (ab3 x) (ab3 y)=true):ab3 x=ab3 y:=by
 simp only [aop,Bool.and_eq_true,beq_iff_eq] at h
 obtain ⟨⟨⟨⟨h1,h2⟩,h3⟩,h4⟩,h5⟩:=h
 have e1:trn (chK x)=trn (chK y):=h1
 have e2:chD x=chD y:=h2
 have e3:chN x=chN y:=h3
 have e4:chW x=chW y:=h4
 have e5:chO x=chO y:=h5
 simp only [ab3,e1,e2,e3,e4,e5]
theorem azv {x y:PV} (h1:leC x y) (h2:leC y x):aop x y=true:=by
 have:=Lin.cmpC.anti x y
 unfold leC at h1 h2
 exact (av0 x y).1 (by omega)
theorem aml {l xs ys:List PV} (hx:xs.Perm (l.map ab3)) (hy:ys.Perm (l.map ab3)) (sx:Srt xs) (sy:Srt ys):xs=ys:=by
 refine List.Perm.eq_of_pairwise (le:=leC) (fun a b ha hb h1 h2=>?_) sx sy (hx.trans hy.symm)
 obtain ⟨u,_,rfl⟩:=List.mem_map.1 (hx.mem_iff.1 ha)
 obtain ⟨v,_,rfl⟩:=List.mem_map.1 (hy.mem_iff.1 hb)
 exact aya (azv h1 h2)
theorem ap0 {xs:List PV} (ok:OkL xs):∃ ys:List PV,F39 0 xs=some ys/\ys.Perm xs/\Srt ys:=by
 obtain ⟨ys,h1,h2,h3⟩:=a2v ok
 refine ⟨ys,?_,h2,h3⟩
 have hl:=ok.1
 have hc:F91_v2 0 xs=some ((),xs):=by
  unfold F91_v2 F91_v1
  rw [decide_eq_true (show xs.length<=aap by unfold aap;omega)]
  rfl
 unfold F39
 rw [hc]
 simp only [Option.bind_some,h1]
theorem ase {xs:List PV} (hlen:xs.length<=100000000) (ok:OkL (xs.map ab3)):∃ ys:List PV,F16 0 xs=some ys/\ys.Perm (xs.map ab3)/\Srt ys:=by
 obtain ⟨h1,_⟩:=auk (step:=S16_4step 0) (fun i acc=>(acc,xs,(xs.length:Int),((i:Nat):Int))) xs (fun a x=>a++[ab3 x]) (fun a=>a) (fun i acc=>acc.length=i)
  (fun i acc hi hI=>by
   have hd:decide ((i:Int)<(xs.length:Int))=true:=decide_eq_true (by omega)
   have ha:decide (acc.length+[ab3 xs[i]].length<=aap)=true:=decide_eq_true (by simp;unfold aap;omega)
   refine ⟨?_,by simp [hI]⟩
   simp only [S16_4step,S16_4,hd,cond_true,aab,decide_eq_true hi,Int.toNat_natCast,aai hi,ayb,Option.bind_some,abi i (by omega)]
   change (bif decide (acc.length+[ab3 xs[i]].length<=aap) then _ else _)=_
   rw [ha]
   rfl)
  (fun acc _=>by
   have hd:decide (((xs.length:Nat):Int)<(xs.length:Int))=false:=decide_eq_false (by omega)
   simp only [S16_4step,S16_4,hd,cond_false]) xs.length 0 [] (by omega) rfl
 rw [List.drop_zero,awe,List.nil_append] at h1
 obtain ⟨ys,s1,s2,s3⟩:=ap0 ok
 refine ⟨ys,?_,s2,s3⟩
 have h1':aah 0 (S16_4step 0) ([],xs,(xs.length:Int),(0:Int))=some (xs.map ab3):=h1
 unfold F16
 rw [h1']
 simp only [Option.bind_some,s1]
theorem apu (xs:List PV) (h:xs.length<=100000000):F13 0 xs xs=some true:=by
 have hx:((xs.length:Int) != (xs.length:Int))=false:=by simp
 have hl:=ah6 (step:=S13_5step 0) (fun i=>(xs,xs,((i:Nat):Int))) xs.length (fun _=>true) (.inl false) (.inr ()) (fun i hi=>by
  have hd:decide ((i:Int)<(xs.length:Int))=true:=decide_eq_true (by omega)
  have hs:(bif ((xs[i].fld 0).asInt)==((xs[i].fld 0).asInt) then (bif ((xs[i].fld 1).asStr)==((xs[i].fld 1).asStr) then (bif ((xs[i].fld 2).asInt)==((xs[i].fld 2).asInt) then (bif ((xs[i].fld 3).asStr)==((xs[i].fld 3).asStr) then (bif ((xs[i].fld 4).asStr)==((xs[i].fld 4).asStr) then true else false) else false) else false) else false) else false)=true:=by simp
  simp only [S13_5step,S13_5,hd,cond_true,aab,decide_eq_true hi,Int.toNat_natCast,aai hi,hs,Bool.not_true,cond_false,abi i (by omega)]) (by
  have hd:decide (((xs.length:Nat):Int)<(xs.length:Int))=false:=decide_eq_false (by omega)
  simp only [S13_5step,S13_5,hd,cond_false]) xs.length 0 (by omega)
 have ha:allF (fun _=>true) 0 xs.length=true:=by
  generalize xs.length=n
  generalize (0:Nat)=i
  induction n generalizing i with
  | zero=>rfl
  | succ n ih=>simp only [allF,ih];rfl
 rw [ha] at hl
 unfold F13
 rw [hx,cond_false]
 have hl':aah 0 (S13_5step 0) (xs,xs,(0:Int))=some (.inr ()):=hl
 rw [hl']
 rfl
end Go.Ab
