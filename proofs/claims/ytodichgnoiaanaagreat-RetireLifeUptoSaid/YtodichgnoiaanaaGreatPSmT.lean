/- The specification's comparing of a schema with its canonical form ends. -/
import Derived.Test.YtodichgnoiaanaaGreatAbLst
set_option linter.unusedVariables false
set_option linter.unusedSimpArgs false
set_option linter.unnecessarySimpa false
namespace Go.Ab
open Go
set_option maxRecDepth 100000
theorem a6b {r0:(PV×PV)->Option Bool}{v:PV} (hb:aam v<=1048576) (h:∀ x,aam x<aam v->r0 (x,x)=some true):B145 0 r0 v v=some true:=by
 have hl:∀ i,(v.fld i).asList.length<=1048576:=fun i=>by have:=acb v i;omega
 have hm:∀ i k,k<(v.fld i).asList.length->aam ((v.fld i).asList.getD k .bad)<aam v:=fun i k hk=>by have:=aef (abb hk);omega
 have hm2:∀ i k j,k<(v.fld i).asList.length->aam (((v.fld i).asList.getD k .bad).fld j)<aam v:=fun i k j hk=>by have h1:=aef (abb hk);have h2:=abo ((v.fld i).asList.getD k .bad) j;omega
 have l3:=hl 3;have l4:=hl 4;have l5:=hl 5;have l6:=hl 6
 have e5:aaf 0 (B145_5step 0 r0) ((),(),(0:Int),v,v)=some (.inr ((),(),v,v)):=aff (step:=B145_5step 0 r0) (fun i=>((),(),((i:Nat):Int),v,v)) (v.fld 3).asList.length _ (fun i hi=>by
  simp only [B145_5step,B145_5,decL i _ hi,cond_true,aab,decide_eq_true hi,Int.toNat_natCast,h _ (hm 3 i hi),Option.bind_some,Bool.not_true,cond_false,aa4 i (by omega)]) (by
  simp only [B145_5step,B145_5,decN,cond_false])
 have e10:aaf 0 (B145_10step 0 r0) ((),(),(0:Int),v,v)=some (.inr ((),(),v,v)):=aff (step:=B145_10step 0 r0) (fun i=>((),(),((i:Nat):Int),v,v)) (v.fld 4).asList.length _ (fun i hi=>by
  simp only [B145_10step,B145_10,decL i _ hi,cond_true,aab,decide_eq_true hi,Int.toNat_natCast,h _ (hm2 4 i 0 hi),h _ (hm2 4 i 1 hi),Option.bind_some,Bool.not_true,Bool.not_false,af5,cond_false,aa4 i (by omega)]) (by
  simp only [B145_10step,B145_10,decN,cond_false])
 have e15:aaf 0 (B145_15step 0 r0) ((),(),(0:Int),v,v)=some (.inr ((),(),v,v)):=aff (step:=B145_15step 0 r0) (fun i=>((),(),((i:Nat):Int),v,v)) (v.fld 5).asList.length _ (fun i hi=>by
  simp only [B145_15step,B145_15,decL i _ hi,cond_true,aab,decide_eq_true hi,Int.toNat_natCast,bne_self_eq_false,h _ (hm2 5 i 1 hi),Option.bind_some,Bool.not_true,Bool.not_false,af5,cond_false,aa4 i (by omega)]) (by
  simp only [B145_15step,B145_15,decN,cond_false])
 have e20:aaf 0 (B145_20step 0 r0) ((),(),(0:Int),v,v)=some (.inr (v,v)):=aff (step:=B145_20step 0 r0) (fun i=>((),(),((i:Nat):Int),v,v)) (v.fld 6).asList.length _ (fun i hi=>by
  simp only [B145_20step,B145_20,decL i _ hi,cond_true,aab,decide_eq_true hi,Int.toNat_natCast,beq_self_eq_true,Bool.not_true,cond_false,aa4 i (by omega)]) (by
  simp only [B145_20step,B145_20,decN,cond_false])
 unfold B145
 simp only [bne_self_eq_false,beq_self_eq_true,Bool.not_true,cond_false]
 rw [e5,Option.bind_some,ab0]
 dsimp only
 rw [e10,Option.bind_some,ab0]
 dsimp only
 rw [e15,Option.bind_some,ab0]
 dsimp only
 rw [e20,Option.bind_some,ab0]
theorem awd {v:PV} (hb:aam v<=1048576):F145 0 v v=some true:=by
 have main:∀ n v,aam v<=n->aam v<=1048576->∀ d,n<=d->G145 0 d (v,v)=some true:=by
  intro n
  induction n with
  | zero=>intro v h;have:=ad2 v;omega
  | succ n ih=>
   intro v h hv d hd
   obtain ⟨e,rfl⟩:∃ e,d=e+1:=⟨d-1,by omega⟩
   exact a6b hv fun x hx=>by
    have hx:aam x<aam v:=hx
    exact ih x (by omega) (by omega) e (by omega)
 unfold F145
 exact axa (aam v) fun d hd=>main _ v (Nat.le_refl _) hb d hd
theorem axl {l:List PV} (hl:l.length<=1048576) (h:∀ x,x∈l->aam x<=1048576):F116 0 l l=some true:=by
 have e:aaf 0 (S116_5step 0) (l,l,(0:Int))=some (.inr ()):=aff (step:=S116_5step 0) (fun i=>(l,l,((i:Nat):Int))) l.length _ (fun i hi=>by
  have h1:=h _ (abb hi)
  have h2:=abo (l.getD i .bad) 1
  simp only [S116_5step,S116_5,decL i _ hi,cond_true,aab,decide_eq_true hi,Int.toNat_natCast,beq_self_eq_true,awd (show aam ((l.getD i .bad).fld 1)<=1048576 by omega),Option.bind_some,Bool.not_true,Bool.not_false,af5,cond_false,aa4 i (by omega)]) (by
  simp only [S116_5step,S116_5,decN,cond_false])
 unfold F116
 simp only [bne_self_eq_false,cond_false]
 rw [e];rfl
theorem axk {l:List PV} (hl:l.length<=1048576) (h:∀ x,x∈l->aam x<=1048576):Ret (F116 0 l (adw l)) fun _=>True:=by
 by_cases hlen:(adw l).length=l.length
 ·have e:adw l=l:=List.filter_eq_self.2 (List.length_filter_eq_length_iff.1 hlen)
  rw [e,axl hl h]
  exact aan _
 ·unfold F116
  have:((l.length:Int) != ((adw l).length:Int))=true:=bneI (by omega)
  rw [this]
  exact aan _
theorem aoo {a b:List PV} (ha:a.length<=1048576):Ret (F114 0 a b) fun _=>True:=by
 unfold F114
 by_cases hlen:a.length=b.length
 ·obtain ⟨r,h1,h2⟩:=aa6 (step:=S114_5step 0) (fun i=>(a,b,((i:Nat):Int))) a.length (fun _=>.inl false) (.inr ()) (fun i hi=>by
   simp only [S114_5step,S114_5,decL i _ hi,cond_true,aab,decide_eq_true hi,decide_eq_true (show i<b.length by omega),Int.toNat_natCast,al2,aa4 i (by omega)]
   cases ((a.getD i .bad).fld 0).asInt != ((b.getD i .bad).fld 0).asInt<;>cases ((a.getD i .bad).fld 1).asInt != ((b.getD i .bad).fld 1).asInt
   ·exact Or.inl rfl
   ·exact Or.inr rfl
   ·exact Or.inr rfl
   ·exact Or.inr rfl) (by
   simp only [S114_5step,S114_5,decN,cond_false]) a.length 0 (Nat.zero_add _)
  have h1':aaf 0 (S114_5step 0) (a,b,(0:Int))=some r:=h1
  rw [show ((a.length:Int) != (b.length:Int))=false by rw [hlen];simp,cond_false,h1']
  rcases h2 with rfl | ⟨j,_,rfl⟩<;>exact aan _
 ·rw [show ((a.length:Int) != (b.length:Int))=true from bneI (by omega)]
  exact aan _
theorem ax2 {a b:List PV} (ha:a.length<=1048576):Ret (F115 0 a b) fun _=>True:=by
 unfold F115
 by_cases hlen:a.length=b.length
 ·obtain ⟨r,h1,h2⟩:=aa6 (step:=S115_5step 0) (fun i=>(a,b,((i:Nat):Int))) a.length (fun _=>.inl false) (.inr ()) (fun i hi=>by
   simp only [S115_5step,S115_5,decL i _ hi,cond_true,aab,decide_eq_true hi,decide_eq_true (show i<b.length by omega),Int.toNat_natCast,aa4 i (by omega)]
   cases (a.getD i .bad).asStr==(b.getD i .bad).asStr
   ·exact Or.inr rfl
   ·exact Or.inl rfl) (by
   simp only [S115_5step,S115_5,decN,cond_false]) a.length 0 (Nat.zero_add _)
  have h1':aaf 0 (S115_5step 0) (a,b,(0:Int))=some r:=h1
  rw [show ((a.length:Int) != (b.length:Int))=false by rw [hlen];simp,cond_false,h1']
  rcases h2 with rfl | ⟨j,_,rfl⟩<;>exact aan _
 ·rw [show ((a.length:Int) != (b.length:Int))=true from bneI (by omega)]
  exact aan _
theorem akv {c:Bool}{x:Option Bool} (h:Ret x fun _=>True):Ret (bif c then x else some false) fun _=>True:=aa7 h (aan _)
theorem nb {v:PV}{i:Nat} (h:aam v<=1048576):Ret (F116 0 (v.fld i).asList (adw (v.fld i).asList)) fun _=>True:=
 axk (by have:=acb v i;omega) fun x hx=>by have:=aef hx;omega
theorem awu {f:PV} (h:aam f<=1048576):Ret (F117 0 f (ofF f)) fun _=>True:=by
 unfold F117
 refine aas (P:=fun _=>True) (akv ⟨true,awd (v:=f.fld 7) (Nat.le_trans (abo f 7) h),trivial⟩) fun y _ _=>?_
 refine aas (P:=fun _=>True) (akv (nb (v:=f) (i:=8) h)) fun z _ _=>aan _
theorem ahf {σ τ:Type}{step:σ->Option (σ⊕τ)} (st:Nat->σ) (n:Nat) (bad good:τ) (hn:n<=1048576) (cmp:Nat->Option Bool) (hgo:∀ i,i<n->step (st i)=(cmp i).bind fun y=>bif !y then some (.inr bad) else some (.inl (st (i+1)))) (hc:∀ i,i<n->Ret (cmp i) fun _=>True) (hend:step (st n)=some (.inr good)):
 ∃ r,aay step (st 0)=some r/\(r=bad∨r=good):=by
 obtain ⟨r,h1,h2⟩:=aa6 st n (fun _=>bad) good (fun i hi=>by
  obtain ⟨y,hy,_⟩:=hc i hi
  rw [hgo i hi,hy,Option.bind_some]
  cases y
  ·exact Or.inr rfl
  ·exact Or.inl rfl) hend n 0 (Nat.zero_add _)
 refine ⟨r,h1,?_⟩
 rcases h2 with h | ⟨_,_,h⟩
 ·exact Or.inr h
 ·exact Or.inl h
theorem a3d {m:PV} (h:aam m<=1048576):Ret (F73 0 m (ofM m)) fun _=>True:=by
 have hl:∀ i,(m.fld i).asList.length<=1048576:=fun i=>by have:=acb m i;omega
 have l1:=hl 1
 have e1:((ofM m).fld 1).asList=(m.fld 1).asList.map ofF:=rfl
 unfold F73
 refine aas (P:=fun _=>True) (akv (aoo (hl 2))) fun y1 _ _=>?_
 refine aas (P:=fun _=>True) (akv (ax2 (hl 3))) fun y2 _ _=>?_
 refine aas (P:=fun _=>True) (akv (nb (v:=m) (i:=4) h)) fun y3 _ _=>?_
 refine aa7 (aan _) ?_
 obtain ⟨r,h1,h2⟩:=ahf (step:=S73_5step 0) (fun i=>((),(),((i:Nat):Int),m,ofM m)) (m.fld 1).asList.length (.inl (false,m,ofM m)) (.inr (m,ofM m)) l1 (fun i=>F117 0 ((m.fld 1).asList.getD i .bad) (ofF ((m.fld 1).asList.getD i .bad))) (fun i hi=>by
  simp only [S73_5step,S73_5,e1,decL i _ hi,cond_true,aab,decide_eq_true hi,List.length_map,Int.toNat_natCast,aha ofF hi,aa4 i (by omega)]) (fun i hi=>awu (by have:=aef (abb hi);omega)) (by
  simp only [S73_5step,S73_5,decN,cond_false])
 have h1':aaf 0 (S73_5step 0) ((),(),(0:Int),m,ofM m)=some r:=h1
 rw [h1']
 rcases h2 with rfl | rfl<;>exact aan _
theorem a2g {m:PV} (h:aam m<=1048576):Ret (F74 0 m (ofE m)) fun _=>True:=by
 have hl:∀ i,(m.fld i).asList.length<=1048576:=fun i=>by have:=acb m i;omega
 have l1:=hl 2
 have e1:((ofE m).fld 2).asList=(m.fld 2).asList.map ofI:=rfl
 unfold F74
 refine aas (P:=fun _=>True) (akv (aoo (hl 3))) fun y1 _ _=>?_
 refine aas (P:=fun _=>True) (akv (nb (v:=m) (i:=4) h)) fun y3 _ _=>?_
 refine aa7 (aan _) ?_
 obtain ⟨r,h1,h2⟩:=ahf (step:=S74_5step 0) (fun i=>((),(),((i:Nat):Int),m,ofE m)) (m.fld 2).asList.length (.inl (false,m,ofE m)) (.inr (m,ofE m)) l1 (fun i=>F116 0 (((m.fld 2).asList.getD i .bad).fld 2).asList (adw (((m.fld 2).asList.getD i .bad).fld 2).asList)) (fun i hi=>by
  have q0:∀ z:PV,((ofI z).fld 0).asStr=(z.fld 0).asStr:=fun z=>rfl
  have q1:∀ z:PV,((ofI z).fld 1).asInt=(z.fld 1).asInt:=fun z=>rfl
  have q2:∀ z:PV,((ofI z).fld 2).asList=adw (z.fld 2).asList:=fun z=>rfl
  simp only [S74_5step,S74_5,e1,decL i _ hi,cond_true,aab,decide_eq_true hi,List.length_map,Int.toNat_natCast,aha ofI hi,q0,q1,q2,beq_self_eq_true,bne_self_eq_false,Bool.not_true,Bool.not_false,af5,cond_false,aa4 i (by omega)]) (fun i hi=>nb (v:=(m.fld 2).asList.getD i .bad) (i:=2) (by have:=aef (abb hi);omega)) (by
  simp only [S74_5step,S74_5,decN,cond_false])
 have h1':aaf 0 (S74_5step 0) ((),(),(0:Int),m,ofE m)=some r:=h1
 rw [h1']
 rcases h2 with rfl | rfl<;>exact aan _
theorem a3r {m:PV} (h:aam m<=1048576):Ret (F75 0 m (ofV m)) fun _=>True:=by
 have hl:∀ i,(m.fld i).asList.length<=1048576:=fun i=>by have:=acb m i;omega
 have l1:=hl 1
 have e1:((ofV m).fld 1).asList=(m.fld 1).asList.map ofT:=rfl
 unfold F75
 refine aas (P:=fun _=>True) (akv (nb (v:=m) (i:=2) h)) fun y3 _ _=>?_
 refine aa7 (aan _) ?_
 obtain ⟨r,h1,h2⟩:=ahf (step:=S75_5step 0) (fun i=>((),(),((i:Nat):Int),m,ofV m)) (m.fld 1).asList.length (.inl (false,m,ofV m)) (.inr (m,ofV m)) l1 (fun i=>F116 0 (((m.fld 1).asList.getD i .bad).fld 4).asList (adw (((m.fld 1).asList.getD i .bad).fld 4).asList)) (fun i hi=>by
  have q0:∀ z:PV,((ofT z).fld 0).asStr=(z.fld 0).asStr:=fun z=>rfl
  have q1:∀ z:PV,((ofT z).fld 1).asStr=(z.fld 1).asStr:=fun z=>rfl
  have q2:∀ z:PV,((ofT z).fld 2).asStr=(z.fld 2).asStr:=fun z=>rfl
  have q3:∀ z:PV,((ofT z).fld 3).asInt=(z.fld 3).asInt:=fun z=>rfl
  have q4:∀ z:PV,((ofT z).fld 4).asList=adw (z.fld 4).asList:=fun z=>rfl
  simp only [S75_5step,S75_5,e1,decL i _ hi,cond_true,aab,decide_eq_true hi,List.length_map,Int.toNat_natCast,aha ofT hi,q0,q1,q2,q3,q4,beq_self_eq_true,bne_self_eq_false,Bool.not_true,Bool.not_false,af5,cond_false,aa4 i (by omega)]) (fun i hi=>nb (v:=(m.fld 1).asList.getD i .bad) (i:=4) (by have:=aef (abb hi);omega)) (by
  simp only [S75_5step,S75_5,decN,cond_false])
 have h1':aaf 0 (S75_5step 0) ((),(),(0:Int),m,ofV m)=some r:=h1
 rw [h1']
 rcases h2 with rfl | rfl<;>exact aan _
theorem a3o {s:PV} (h:aam s<=1048576):Ret (F37 0 s (ofS s)) fun _=>True:=by
 have hl:∀ i,(s.fld i).asList.length<=1048576:=fun i=>by have:=acb s i;omega
 have hm:∀ i k,k<(s.fld i).asList.length->aam ((s.fld i).asList.getD k .bad)<=1048576:=fun i k hk=>by have:=aef (abb hk);omega
 have l0:=hl 0;have l1:=hl 1;have l2:=hl 2
 have e0:((ofS s).fld 0).asList=(s.fld 0).asList.map ofM:=rfl
 have e1:((ofS s).fld 1).asList=(s.fld 1).asList.map ofE:=rfl
 have e2:((ofS s).fld 2).asList=(s.fld 2).asList.map ofV:=rfl
 obtain ⟨r1,p1,q1⟩:=ahf (step:=S48_5step 0) (fun i=>((),(),((i:Nat):Int),s,ofS s)) (s.fld 0).asList.length (.inl (false,s,ofS s)) (.inr ((),(),s,ofS s)) l0 (fun i=>F73 0 ((s.fld 0).asList.getD i .bad) (ofM ((s.fld 0).asList.getD i .bad))) (fun i hi=>by
  simp only [S48_5step,S48_5,e0,decL i _ hi,cond_true,aab,decide_eq_true hi,List.length_map,Int.toNat_natCast,aha ofM hi,aa4 i (by omega)]) (fun i hi=>a3d (hm 0 i hi)) (by
  simp only [S48_5step,S48_5,decN,cond_false])
 obtain ⟨r2,p2,q2⟩:=ahf (step:=S48_10step 0) (fun i=>((),(),((i:Nat):Int),s,ofS s)) (s.fld 1).asList.length (.inl (false,s,ofS s)) (.inr ((),(),s,ofS s)) l1 (fun i=>F74 0 ((s.fld 1).asList.getD i .bad) (ofE ((s.fld 1).asList.getD i .bad))) (fun i hi=>by
  simp only [S48_10step,S48_10,e1,decL i _ hi,cond_true,aab,decide_eq_true hi,List.length_map,Int.toNat_natCast,aha ofE hi,aa4 i (by omega)]) (fun i hi=>a2g (hm 1 i hi)) (by
  simp only [S48_10step,S48_10,decN,cond_false])
 obtain ⟨r3,p3,q3⟩:=ahf (step:=S48_15step 0) (fun i=>((),(),((i:Nat):Int),s,ofS s)) (s.fld 2).asList.length (.inl (false,s,ofS s)) (.inr (s,ofS s)) l2 (fun i=>F75 0 ((s.fld 2).asList.getD i .bad) (ofV ((s.fld 2).asList.getD i .bad))) (fun i hi=>by
  simp only [S48_15step,S48_15,e2,decL i _ hi,cond_true,aab,decide_eq_true hi,List.length_map,Int.toNat_natCast,aha ofV hi,aa4 i (by omega)]) (fun i hi=>a3r (hm 2 i hi)) (by
  simp only [S48_15step,S48_15,decN,cond_false])
 have p1':aaf 0 (S48_5step 0) ((),(),(0:Int),s,ofS s)=some r1:=p1
 have p2':aaf 0 (S48_10step 0) ((),(),(0:Int),s,ofS s)=some r2:=p2
 have p3':aaf 0 (S48_15step 0) ((),(),(0:Int),s,ofS s)=some r3:=p3
 unfold F37 F48
 refine aas (P:=fun _=>True) (aa7 (aan _) ?_) fun y _ _=>aan _
 rw [p1',Option.bind_some]
 rcases q1 with rfl | rfl
 ·exact aan _
 ·rw [ab0]
  dsimp only
  rw [p2',Option.bind_some]
  rcases q2 with rfl | rfl
  ·exact aan _
  ·rw [ab0]
   dsimp only
   rw [p3',Option.bind_some]
   rcases q3 with rfl | rfl<;>exact aan _
end Go.Ab
