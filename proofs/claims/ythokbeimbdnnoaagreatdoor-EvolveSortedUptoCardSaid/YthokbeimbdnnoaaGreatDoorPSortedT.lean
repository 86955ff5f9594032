/- The law EvolveSorted: what comparing gives ascends strictly, and is of definitions of one of both. -/
import Derived.Test.YthokbeimbdnnoaaGreatDoorPRefT
set_option linter.unusedVariables false
set_option linter.unusedSimpArgs false
set_option linter.unnecessarySimpa false
namespace Go.Ab
open Go
set_option maxRecDepth 100000
theorem a1s (s:PV) (n:List UInt8) (h:SLen s):F28 0 s n=some ((fst aac n (s.fld 0).asList).isSome||(fst aac n (s.fld 1).asList).isSome||(fst aac n (s.fld 2).asList).isSome):=by
 have h0:=h.m;have h1:=h.e;have h2:=h.v
 have e1:=acz (step:=S28_3step 0) (fun i=>(n,(),(s.fld 0).asList,((s.fld 0).asList.length:Int),((i:Nat):Int),s)) (s.fld 0).asList (fun x=>aac x==n) (fun x=>.inl (true,s)) (.inr (n,(),s)) (fun i hi=>by
  simp only [S28_3step,S28_3,decL i _ hi,cond_true,aab,decide_eq_true hi,Int.toNat_natCast,aah hi,abh i (by omega),aac]
  cases (((s.fld 0).asList[i]).fld 0).asStr==n<;>rfl) (by
  simp only [S28_3step,S28_3,decN,cond_false]) _ 0 (Nat.zero_add _)
 have e2:=acz (step:=S28_9step 0) (fun i=>(n,(),(s.fld 1).asList,((s.fld 1).asList.length:Int),((i:Nat):Int),s)) (s.fld 1).asList (fun x=>aac x==n) (fun x=>.inl (true,s)) (.inr (n,(),s)) (fun i hi=>by
  simp only [S28_9step,S28_9,decL i _ hi,cond_true,aab,decide_eq_true hi,Int.toNat_natCast,aah hi,abh i (by omega),aac]
  cases (((s.fld 1).asList[i]).fld 0).asStr==n<;>rfl) (by
  simp only [S28_9step,S28_9,decN,cond_false]) _ 0 (Nat.zero_add _)
 have e3:=acz (step:=S28_15step 0) (fun i=>(n,(s.fld 2).asList,((s.fld 2).asList.length:Int),((i:Nat):Int),s)) (s.fld 2).asList (fun x=>aac x==n) (fun x=>.inl (true,s)) (.inr s) (fun i hi=>by
  simp only [S28_15step,S28_15,decL i _ hi,cond_true,aab,decide_eq_true hi,Int.toNat_natCast,aah hi,abh i (by omega),aac]
  cases (((s.fld 2).asList[i]).fld 0).asStr==n<;>rfl) (by
  simp only [S28_15step,S28_15,decN,cond_false]) _ 0 (Nat.zero_add _)
 rw [List.drop_zero] at e1 e2 e3
 have e1':aai 0 (S28_3step 0) (n,(),(s.fld 0).asList,((s.fld 0).asList.length:Int),(0:Int),s)=_:=e1
 have e2':aai 0 (S28_9step 0) (n,(),(s.fld 1).asList,((s.fld 1).asList.length:Int),(0:Int),s)=_:=e2
 have e3':aai 0 (S28_15step 0) (n,(s.fld 2).asList,((s.fld 2).asList.length:Int),(0:Int),s)=_:=e3
 unfold F28 fst
 dsimp only
 rw [e1']
 cases (s.fld 0).asList.find? (fun x=>aac x==n) with
 | some x=>rfl
 | none=>
  simp only [Option.bind_some,aha]
  rw [e2']
  cases (s.fld 1).asList.find? (fun x=>aac x==n) with
  | some x=>rfl
  | none=>
   simp only [Option.bind_some,aha]
   rw [e3']
   cases (s.fld 2).asList.find? (fun x=>aac x==n) with
   | some x=>rfl
   | none=>rfl
theorem a0c {i:Nat} (h:1<=i) (h2:i<=1000000000):IntKind.wrap .i64 ((i:Int)-1)=((i-1:Nat):Int):=by
 rw [show (i:Int)-1=((i-1:Nat):Int) by omega];exact aa2 (by omega)
theorem az4 {k:List UInt8}{l:List PV} (h:k∈l.map aac):(fst aac k l).isSome=true:=by
 cases hf:fst aac k l with
 | some x=>rfl
 | none=>
  obtain ⟨x,hx,e⟩:=List.mem_map.1 h
  exact absurd e (az3 hf x hx)
theorem lessS (x y:PV) (hx:(chO x).length<=100000000) (hy:(chO y).length<=100000000):F26 0 x y=some (decide (cmpC x y<0)):=by
 unfold F26
 rw [amr x y hx hy]
 rfl
theorem at1 {s:PV} (hs:SOk s) (bs:aau s<=1048576):∃ v,F11 0 s=some v/\(v=true->SUp s):=by
 obtain ⟨v,h1,h2⟩:=ay2 hs bs
 exact ⟨v,h1,fun h=>(h2 h).up⟩
theorem ap4 {a b:PV} (ha:SOk a) (hb:SOk b) (ba:aau a<=1048576) (bb:aau b<=1048576):F9 0 a b=some true:=by
 have hw:aj6 0=some true:=rfl
 obtain ⟨va,v1,v2⟩:=at1 ha ba
 obtain ⟨vb,w1,w2⟩:=at1 hb bb
 unfold F9
 rw [v1]
 cases va with
 | false=>simp only [Option.bind_some,Bool.not_false,Bool.not_true,cond_true,cond_false,hw]
 | true=>
  simp only [Option.bind_some,Bool.not_true,Bool.not_false,cond_true,cond_false,w1]
  cases vb with
  | false=>simp only [Bool.not_false,cond_true,Option.bind_some,hw]
  | true=>
   have ua:=v2 rfl
   have ub:=w2 rfl
   have hp:=ap8 ua.uq ub.uq
   obtain ⟨q1,q2⟩:=ax8 ua ub
   have hl:(refC a b).length<=90000000:=by rw [hp.length_eq];exact ax6 ua.uq ub.uq ba bb
   have hs:∀ x,x∈refC a b->(chO x).length<=100000000:=fun x hx=>(a2i ha hb x (hp.mem_iff.1 hx)).1
   rw [aq6 ha hb ua ub ba bb]
   generalize refC a b=c at hl hs q1 q2 ⊢
   have h1:=aie (step:=S9_6step 0) (fun i=>((),(),c,(c.length:Int),((i:Nat):Int),a,b)) c.length (fun _=>true) (.inl (false,a,b)) (.inr (a,b)) (fun i hi=>by
    have hd:∃ da db,F28 0 a (chD c[i])=some da/\F28 0 b (chD c[i])=some db/\(da||db)=true:=by
     refine ⟨_,_,a1s a _ ha.len,a1s b _ hb.len,?_⟩
     obtain ⟨j,hj,hm⟩:=q2 c[i] (List.getElem_mem hi)
     have:j=0∨j=1∨j=2:=by omega
     rcases this with rfl | rfl | rfl<;>rcases hm with hm | hm<;>simp [az4 hm]
    obtain ⟨da,db,d1,d2,d3⟩:=hd
    have d1':F28 0 a ((c[i]).fld 1).asStr=some da:=d1
    have d2':F28 0 b ((c[i]).fld 1).asStr=some db:=d2
    have fin:∀ (x23:Bool),x23=false->(bif imp (!x23) (aaa ((i:Nat):Int) c.length) then (bif !x23 then F28 0 a ((c.getD ((i:Nat):Int).toNat .bad).fld 1).asStr else some false).bind fun y27=>(bif imp (bif (!y27) then !x23 else false) (aaa ((i:Nat):Int) c.length) then (bif bif (!y27) then !x23 else false then F28 0 b ((c.getD ((i:Nat):Int).toNat .bad).fld 1).asStr else some false).bind fun y32=>(bif (bif x23 then true else (bif (!y27) then (!y32) else false)) then some (.inr (.inl (false,a,b))) else some (.inl ((),(),c,(c.length:Int),(IntKind.wrap .i64 (((i:Nat):Int)+(1:Int))),a,b))) else none) else none)=(some (.inl ((),(),c,(c.length:Int),((i+1:Nat):Int),a,b)):Option ((Unit×Unit×(List PV)×Int×Int×PV×PV)⊕((Bool×PV×PV)⊕(PV×PV)))):=by
     rintro x23 rfl
     simp only [Bool.not_false,amv,aab,decide_eq_true hi,cond_true,Int.toNat_natCast,aah hi,d1',Option.bind_some,abh i (by omega)]
     cases da with
     | true=>simp only [Bool.not_true,cond_false,arp,cond_true,Option.bind_some]
     | false=>
      have:db=true:=by simpa using d3
      subst this
      simp only [Bool.not_false,cond_true,amv,d2',Option.bind_some,Bool.not_true,cond_false]
    simp only [S9_6step,S9_6,decL i _ hi,cond_true]
    by_cases h0:(i:Int)>0
    ·have hi1:i-1<c.length:=by omega
     have hlt:cmpC c[i-1] c[i]<0:=List.pairwise_iff_getElem.1 q1 (i-1) i hi1 hi (by omega)
     rw [decide_eq_true h0,a0c (by omega) (by omega),amv,amv,aab,aab,decide_eq_true hi1,decide_eq_true hi,cond_true,cond_true,cond_true,Int.toNat_natCast,Int.toNat_natCast,aah hi1,aah hi,lessS _ _ (hs _ (List.getElem_mem hi1)) (hs _ (List.getElem_mem hi)),decide_eq_true hlt,Option.bind_some]
     have:=fin (bif true then !true else false) rfl
     rw [Int.toNat_natCast,aah hi,aab,decide_eq_true hi] at this
     exact this
    ·rw [decide_eq_false h0,arp,arp,cond_true,cond_true,cond_false,Option.bind_some]
     exact fin (bif false then !false else false) rfl) (by
    simp only [S9_6step,S9_6,decN,cond_false]) c.length 0 (Nat.zero_add _)
   have h1':aai 0 (S9_6step 0) ((),(),c,(c.length:Int),(0:Int),a,b)=_:=h1
   have hall:∀ k i,allF (fun _=>true) i k=true:=fun k=>by
    induction k with
    | zero=>intro i;rfl
    | succ k ih=>intro i;simp only [allF,ih,Bool.and_self]
   rw [hall] at h1'
   simp only [Bool.not_true,cond_false,Option.bind_some,h1',cond_true,aha,hw]
end Go.Ab
