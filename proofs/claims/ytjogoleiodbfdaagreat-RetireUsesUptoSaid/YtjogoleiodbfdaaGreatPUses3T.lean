/- The specification's examination of a value, whole; how many nodes a value has. -/
import Derived.Test.YtjogoleiodbfdaaGreatPUsesT
set_option linter.unusedVariables false
set_option linter.unusedSimpArgs false
set_option linter.unnecessarySimpa false
namespace Go.Ab
open Go
set_option maxRecDepth 100000
theorem chkE {a:PV} (ha:SOk a) {k:Nat} (C:ChkF a k) (t v:PV) (level:Int) (keys:Bool) (hv:VOk v) (hb:aad v<=k+1) (hb2:aad v<=1048576):
 ∃ e:Int,(e=0->fitE a (fitF a k) t v)/\∀ n,4*k+7<=n->(G26 0 n).2.2.2 (a,t,v,level,keys)=some e:=by
 by_cases ht:(t.fld 0).asInt=10
 ·have e10:((t.fld 0).asInt==10)=true:=by simp [ht]
  have hm:=aws ha (t.fld 1).asStr
  have hM:=ay6 a (t.fld 1).asStr ha.len.m
  generalize hmm:dmem aau (t.fld 1).asStr (a.fld 0).asList zMsg=m at hM hm
  obtain ⟨e,q1,q2⟩:=chkM ha C m.1 v level keys hm hv hb hb2
  cases hf:m.2 with
  | false=>
   refine ⟨10,fun q=>(by cases q),fun n hn=>?_⟩
   obtain ⟨n,rfl⟩:∃ n',n=n'+1:=⟨n-1,by omega⟩
   show B113 0 ((G26 0 n).1) ((G26 0 n).2.1) ((G26 0 n).2.2.1) ((G26 0 n).2.2.2) a t v level keys=_
   unfold B113
   simp only [e10,cond_true,hM,Option.bind_some,hf,Bool.not_false]
  | true=>
   refine ⟨e,fun q=>⟨fun _=>by rw [hmm];exact q1 q,fun h=>by omega,fun h=>absurd ht h⟩,fun n hn=>?_⟩
   obtain ⟨n,rfl⟩:∃ n',n=n'+1:=⟨n-1,by omega⟩
   show B113 0 ((G26 0 n).1) ((G26 0 n).2.1) ((G26 0 n).2.2.1) ((G26 0 n).2.2.2) a t v level keys=_
   unfold B113
   simp only [e10,cond_true,hM,Option.bind_some,hf,Bool.not_true,cond_false,q2 n (by omega)]
 ·have e10:((t.fld 0).asInt==10)=false:=by simp [ht]
  cases hr:(bif (decide (((t.fld 0).asInt)<(1:Int))) then true else (decide (((t.fld 0).asInt)>(9:Int)))) with
  | true=>
   refine ⟨12,fun q=>(by cases q),fun n hn=>?_⟩
   obtain ⟨n,rfl⟩:∃ n',n=n'+1:=⟨n-1,by omega⟩
   show B113 0 ((G26 0 n).1) ((G26 0 n).2.1) ((G26 0 n).2.2.1) ((G26 0 n).2.2.2) a t v level keys=_
   unfold B113
   simp only [e10,cond_false,hr,cond_true]
  | false=>
   have hlo:1<=(t.fld 0).asInt/\(t.fld 0).asInt<=9:=by
    cases h1:decide (((t.fld 0).asInt)<(1:Int)) with
    | true=>rw [h1] at hr;cases hr
    | false=>
     rw [h1] at hr
     exact ⟨by have:=of_decide_eq_false h1;omega,by have:=of_decide_eq_false hr;omega⟩
   obtain ⟨es,s1,s2⟩:=ala (t.fld 0).asInt hv hb2
   cases hx:(bif (es != (0:Int)) then true else (((t.fld 0).asInt) != (9:Int))) with
   | true=>
    refine ⟨es,fun q=>⟨fun h=>absurd h ht,fun h=>by rw [s2 q];exact h,fun _ h9=>by rw [s2 q];omega⟩,fun n hn=>?_⟩
    obtain ⟨n,rfl⟩:∃ n',n=n'+1:=⟨n-1,by omega⟩
    show B113 0 ((G26 0 n).1) ((G26 0 n).2.1) ((G26 0 n).2.2.1) ((G26 0 n).2.2.2) a t v level keys=_
    unfold B113
    simp only [e10,cond_false,hr,s1,Option.bind_some,hx,cond_true]
   | false=>
    have h0:es=0/\(t.fld 0).asInt=9:=by
     cases h1:es != (0:Int) with
     | true=>rw [h1] at hx;cases hx
     | false=>rw [h1] at hx;exact ⟨by simpa using h1,by simpa using hx⟩
    have hE:=aww a (t.fld 1).asStr ha.len.e
    have hl:=asj ha (t.fld 1).asStr
    generalize dmem aau (t.fld 1).asStr (a.fld 1).asList ac1=d at hE hl
    obtain ⟨r,hi⟩:=ao2 d.1 (v.fld 1).asInt hl
    refine ⟨bif !d.2 then 10 else bif (bif !(d.1.fld 1).asBool then !r else false) then 16 else 0,fun q=>⟨fun h=>absurd h ht,fun h=>by rw [s2 h0.1];exact h,fun _ h9=>absurd h0.2 h9⟩,fun n hn=>?_⟩
    obtain ⟨n,rfl⟩:∃ n',n=n'+1:=⟨n-1,by omega⟩
    show B113 0 ((G26 0 n).1) ((G26 0 n).2.1) ((G26 0 n).2.2.1) ((G26 0 n).2.2.2) a t v level keys=_
    unfold B113
    simp only [e10,cond_false,hr,s1,Option.bind_some,hx,hE,hi]
    cases d.2 with
    | false=>rfl
    | true=>
     cases (d.1.fld 1).asBool with
     | true=>rfl
     | false=>cases r<;>rfl
theorem chkD {a:PV} (ha:SOk a) {k:Nat} (C:ChkF a k):ChkF a (k+1):=by
 intro f v level keys hb hb2 hv
 have h3:=ab3 v 3
 have h4:=ab3 v 4
 obtain ⟨b,ho⟩:=ai3 v
 by_cases c4:(f.fld 2).asInt=4
 ·have e4:((f.fld 2).asInt==4)=true:=by simp [c4]
  by_cases hk:(v.fld 0).asInt=11
  case neg=>
   refine ⟨12,fun q=>(by cases q),fun n hn=>?_⟩
   obtain ⟨n,rfl⟩:∃ n',n=n'+1:=⟨n-1,by omega⟩
   show B78 0 ((G26 0 n).1) ((G26 0 n).2.1) ((G26 0 n).2.2.1) ((G26 0 n).2.2.2) a f v level keys=_
   unfold B78
   have e:((v.fld 0).asInt != 11)=true:=by simp [hk]
   simp only [e4,e,Bool.not_true,cond_false,cond_true,Option.bind_some]
  have ek:((v.fld 0).asInt != 11)=false:=by simp [hk]
  obtain ⟨e1,p1,l1⟩:=ajz (step:=fun n=>B78_6step 0 ((G26 0 n).1) ((G26 0 n).2.1) ((G26 0 n).2.2.1) ((G26 0 n).2.2.2)) (N:=4*k+7) (fun j=>(level,keys,(),(),(),((j:Nat):Int),a,f,v)) (v.fld 3).asList.length (fun e=>.inl (e,a,f,v)) (.inr (a,f,v))
   (fun j=>fitE a (fitF a k) (f.fld 4) ((v.fld 3).asList.getD j .bad)) (fun j hj=>by
    have hx:=agl hj
    have hxb:=amr hx
    obtain ⟨e,q1,q2⟩:=chkE ha C (f.fld 4) ((v.fld 3).asList.getD j .bad) level keys (hv.elem hx) (by omega) (by omega)
    refine ⟨e,q1,fun n hn=>?_⟩
    simp only [B78_6step,B78_6,decL j _ hj,cond_true,aaa,decide_eq_true hj,Int.toNat_natCast,q2 n hn,Option.bind_some,aa8 j (by omega)]
    cases e != 0<;>rfl) (fun n hn=>by
    simp only [B78_6step,B78_6,decN,cond_false]) (v.fld 3).asList.length 0 (by omega)
  refine ⟨bif b then 12 else e1,fun q=>⟨fun _=>⟨hk,fun x hx=>?_⟩,fun h=>by omega,fun h=>absurd c4 h⟩,fun n hn=>?_⟩
  ·obtain ⟨j,hj,rfl⟩:=List.mem_iff_getElem.1 hx
   have:=p1 (by cases b with | true=>cases q | false=>exact q) j (Nat.zero_le _) hj
   rwa [aag hj] at this
  ·obtain ⟨n,rfl⟩:∃ n',n=n'+1:=⟨n-1,by omega⟩
   have l1:aai 0 (B78_6step 0 ((G26 0 n).1) ((G26 0 n).2.1) ((G26 0 n).2.2.1) ((G26 0 n).2.2.2)) (level,keys,(),(),(),(0:Int),a,f,v)=_:=l1 n (by omega)
   show B78 0 ((G26 0 n).1) ((G26 0 n).2.1) ((G26 0 n).2.2.1) ((G26 0 n).2.2.2) a f v level keys=_
   unfold B78
   simp only [e4,ek,Bool.not_false,cond_true,cond_false,ho,Option.bind_some]
   cases b with
   | true=>rfl
   | false=>
    simp only [cond_false,l1,Option.bind_some]
    cases h:e1 != 0 with
    | true=>rfl
    | false=>have:e1=0:=by simpa using h
             subst this;rfl
 have e4:((f.fld 2).asInt==4)=false:=by simp [c4]
 by_cases c5:(f.fld 2).asInt=5
 ·have e5:((f.fld 2).asInt==5)=true:=by simp [c5]
  by_cases hk:(v.fld 0).asInt=12
  case neg=>
   refine ⟨12,fun q=>(by cases q),fun n hn=>?_⟩
   obtain ⟨n,rfl⟩:∃ n',n=n'+1:=⟨n-1,by omega⟩
   show B78 0 ((G26 0 n).1) ((G26 0 n).2.1) ((G26 0 n).2.2.1) ((G26 0 n).2.2.2) a f v level keys=_
   unfold B78
   have e:((v.fld 0).asInt != 12)=true:=by simp [hk]
   simp only [e4,e5,e,Bool.not_true,cond_false,cond_true,Option.bind_some]
  have ek:((v.fld 0).asInt != 12)=false:=by simp [hk]
  obtain ⟨e1,p1,l1⟩:=ajz (step:=fun n=>B78_16step 0 ((G26 0 n).1) ((G26 0 n).2.1) ((G26 0 n).2.2.1) ((G26 0 n).2.2.2)) (N:=4*k+7) (fun j=>(level,keys,(),(),(),((j:Nat):Int),a,f,v)) (v.fld 4).asList.length (fun e=>.inl (e,a,f,v)) (.inr (a,f,v))
   (fun j=>fitE a (fitF a k) (f.fld 4) (((v.fld 4).asList.getD j .bad).fld 1)) (fun j hj=>by
    have hx:=agl hj
    have hxb:aad (((v.fld 4).asList.getD j .bad).fld 1)<aad v:=acy hx
    have hkb:aad (((v.fld 4).asList.getD j .bad).fld 0)<aad v:=acy hx
    obtain ⟨es,s1,_⟩:=ala (f.fld 3).asInt (hv.key hx) (by omega)
    obtain ⟨e,q1,q2⟩:=chkE ha C (f.fld 4) (((v.fld 4).asList.getD j .bad).fld 1) level keys (hv.val hx) (by omega) (by omega)
    let p:Nat->Bool:=fun i=>bif ((((v.fld 4).asList.getD i .bad).fld 0).fld 1).asInt==((((v.fld 4).asList.getD j .bad).fld 0).fld 1).asInt then ((((v.fld 4).asList.getD i .bad).fld 0).fld 2).asStr==((((v.fld 4).asList.getD j .bad).fld 0).fld 2).asStr else false
    refine ⟨bif es != 0 then es else bif (bif keys then brk p j else false) then 9 else e,fun q=>q1 ?_,fun n hn=>?_⟩
    ·cases h1:es != 0 with
     | true=>
          rw [h1] at q
          have:es=0:=q
          rw [this] at h1;cases h1
     | false=>
          rw [h1] at q
          cases h2:(bif keys then brk p j else false) with
          | true=>rw [h2] at q;cases q
          | false=>rw [h2] at q;exact q
    ·have hd:decide (j<(v.fld 4).asList.length)=true:=decide_eq_true hj
     have l2:aai 0 (B78_22step 0 ((G26 0 n).1) ((G26 0 n).2.1) ((G26 0 n).2.2.1) ((G26 0 n).2.2.2)) (level,keys,(),(),(),((j:Nat):Int),(0:Int),a,f,v)=some (bif (bif keys then brk p j else false) then .inl (9,a,f,v) else .inr (level,keys,(),(),(),((j:Nat):Int),a,f,v)):=by
          cases keys with
          | false=>exact aaf (by simp only [B78_22step,B78_22];cases decide ((0:Int)<((j:Nat):Int))<;>rfl)
          | true=>
           exact ah0 (step:=B78_22step 0 ((G26 0 n).1) ((G26 0 n).2.1) ((G26 0 n).2.2.1) ((G26 0 n).2.2.2)) (fun i=>(level,true,(),(),(),((j:Nat):Int),((i:Nat):Int),a,f,v)) j p (.inl (9,a,f,v)) (.inr (level,true,(),(),(),((j:Nat):Int),a,f,v)) (fun i hi=>by
           simp only [B78_22step,B78_22,decL i _ hi,cond_true,aaa,hd,decide_eq_true (show i<(v.fld 4).asList.length by omega),Int.toNat_natCast,avx,aa8 i (by omega)]
           show (bif p i then _ else _)=_
           cases p i<;>rfl) (by
           simp only [B78_22step,B78_22,decN,cond_false])
     simp only [B78_16step,B78_16,decL j _ hj,cond_true,aaa,hd,Int.toNat_natCast,s1,Option.bind_some]
     cases h1:es != 0 with
     | true=>simp only [cond_true,h1]
     | false=>
          simp only [cond_false,l2,Option.bind_some]
          cases (bif keys then brk p j else false) with
          | true=>rfl
          | false=>
           simp only [cond_false,ae9,aaa,hd,cond_true,Int.toNat_natCast,q2 n hn,Option.bind_some,aa8 j (by omega)]
           cases e != 0<;>rfl) (fun n hn=>by
    simp only [B78_16step,B78_16,decN,cond_false]) (v.fld 4).asList.length 0 (by omega)
  refine ⟨bif b then 12 else e1,fun q=>⟨fun h=>absurd h c4,fun _=>⟨hk,fun x hx=>?_⟩,fun _ h=>absurd c5 h⟩,fun n hn=>?_⟩
  ·obtain ⟨j,hj,rfl⟩:=List.mem_iff_getElem.1 hx
   have:=p1 (by cases b with | true=>cases q | false=>exact q) j (Nat.zero_le _) hj
   rwa [aag hj] at this
  ·obtain ⟨n,rfl⟩:∃ n',n=n'+1:=⟨n-1,by omega⟩
   have l1:aai 0 (B78_16step 0 ((G26 0 n).1) ((G26 0 n).2.1) ((G26 0 n).2.2.1) ((G26 0 n).2.2.2)) (level,keys,(),(),(),(0:Int),a,f,v)=_:=l1 n (by omega)
   show B78 0 ((G26 0 n).1) ((G26 0 n).2.1) ((G26 0 n).2.2.1) ((G26 0 n).2.2.2) a f v level keys=_
   unfold B78
   simp only [e4,e5,ek,Bool.not_false,cond_true,cond_false,ho,Option.bind_some]
   cases b with
   | true=>rfl
   | false=>
    simp only [cond_false,l1,Option.bind_some]
    cases h:e1 != 0 with
    | true=>rfl
    | false=>have:e1=0:=by simpa using h
             subst this;rfl
 have e5:((f.fld 2).asInt==5)=false:=by simp [c5]
 obtain ⟨e,q1,q2⟩:=chkE ha C (f.fld 4) v level keys hv hb hb2
 refine ⟨e,fun q=>⟨fun h=>absurd h c4,fun h=>absurd h c5,fun _ _=>q1 q⟩,fun n hn=>?_⟩
 obtain ⟨n,rfl⟩:∃ n',n=n'+1:=⟨n-1,by omega⟩
 show B78 0 ((G26 0 n).1) ((G26 0 n).2.1) ((G26 0 n).2.2.1) ((G26 0 n).2.2.2) a f v level keys=_
 unfold B78
 simp only [e4,e5,cond_false,q2 n (by omega),Option.bind_some]
theorem chkF {a:PV} (ha:SOk a):∀ k,ChkF a k
 | 0=>fun f v level keys hb=>absurd hb (by have:=aba v;omega)
 | k+1=>chkD ha (chkF ha k)
theorem anm {σ τ β:Type}{step:Nat->σ->Option (σ⊕τ)}{N:Nat} (st:Nat->β->σ) (len:Nat) (out:β->τ)
 (h:∀ i,i<len->∃ g:β->β,∀ n,N<=n->∀ acc,step n (st i acc)=some (.inl (st (i+1) (g acc)))) (hend:∀ n,N<=n->∀ acc,step n (st len acc)=some (.inr (out acc))):
 ∀ k i,i+k=len->∃ g:β->β,∀ n,N<=n->∀ acc,abo (step n) (st i acc)=some (out (g acc)):=by
 intro k
 induction k with
 | zero=>
  intro i hi
  obtain rfl:i=len:=by omega
  exact ⟨id,fun n hn acc=>aaf (hend n hn acc)⟩
 | succ k ih=>
  intro i hi
  obtain ⟨g,h1⟩:=h i (by omega)
  obtain ⟨g',h2⟩:=ih (i+1) (by omega)
  exact ⟨fun acc=>g' (g acc),fun n hn acc=>by rw [aaz (h1 n hn acc)];exact h2 n hn _⟩
theorem aee:∀ k (v:PV),aad v<=k->aad v<=1048576->∃ c,∀ n,k<=n->G6 0 n v=some c
 | 0,v,hb,_=>absurd hb (by have:=aba v;omega)
 | k+1,v,hb,hb2=>by
  have h3:=ab3 v 3
  have h4:=ab3 v 4
  have h5:=ab3 v 5
  obtain ⟨g1,l1⟩:=anm (step:=fun n=>B6_4step 0 (G6 0 n)) (N:=k) (fun j (acc:Int)=>((),acc,((j:Nat):Int),v)) (v.fld 3).asList.length (fun acc=>((),acc,v)) (fun j hj=>by
   have hx:=agl hj
   have hxb:=amr hx
   obtain ⟨c,hc⟩:=aee k ((v.fld 3).asList.getD j .bad) (by omega) (by omega)
   refine ⟨fun acc=>IntKind.wrap .i64 (acc+c),fun n hn acc=>?_⟩
   simp only [B6_4step,B6_4,decL j _ hj,cond_true,aaa,decide_eq_true hj,Int.toNat_natCast,hc n hn,Option.bind_some,aa8 j (by omega)]) (fun n hn acc=>by
   simp only [B6_4step,B6_4,decN,cond_false]) (v.fld 3).asList.length 0 (by omega)
  obtain ⟨g2,l2⟩:=anm (step:=fun n=>B6_8step 0 (G6 0 n)) (N:=k) (fun j (acc:Int)=>((),acc,((j:Nat):Int),v)) (v.fld 4).asList.length (fun acc=>((),acc,v)) (fun j hj=>by
   have hx:=agl hj
   have hxb:aad (((v.fld 4).asList.getD j .bad).fld 1)<aad v:=acy hx
   have hkb:aad (((v.fld 4).asList.getD j .bad).fld 0)<aad v:=acy hx
   obtain ⟨c,hc⟩:=aee k (((v.fld 4).asList.getD j .bad).fld 0) (by omega) (by omega)
   obtain ⟨d,hd⟩:=aee k (((v.fld 4).asList.getD j .bad).fld 1) (by omega) (by omega)
   refine ⟨fun acc=>IntKind.wrap .i64 (acc+IntKind.wrap .i64 (c+d)),fun n hn acc=>?_⟩
   simp only [B6_8step,B6_8,decL j _ hj,cond_true,aaa,decide_eq_true hj,Int.toNat_natCast,hc n hn,hd n hn,Option.bind_some,aa8 j (by omega)]) (fun n hn acc=>by
   simp only [B6_8step,B6_8,decN,cond_false]) (v.fld 4).asList.length 0 (by omega)
  obtain ⟨g3,l3⟩:=anm (step:=fun n=>B6_12step 0 (G6 0 n)) (N:=k) (fun j (acc:Int)=>((),acc,((j:Nat):Int),v)) (v.fld 5).asList.length (fun acc=>(acc,v)) (fun j hj=>by
   have hx:=agl hj
   have hxb:aad (((v.fld 5).asList.getD j .bad).fld 1)<aad v:=acy hx
   obtain ⟨c,hc⟩:=aee k (((v.fld 5).asList.getD j .bad).fld 1) (by omega) (by omega)
   refine ⟨fun acc=>IntKind.wrap .i64 (acc+c),fun n hn acc=>?_⟩
   simp only [B6_12step,B6_12,decL j _ hj,cond_true,aaa,decide_eq_true hj,Int.toNat_natCast,hc n hn,Option.bind_some,aa8 j (by omega)]) (fun n hn acc=>by
   simp only [B6_12step,B6_12,decN,cond_false]) (v.fld 5).asList.length 0 (by omega)
  refine ⟨g3 (g2 (g1 (IntKind.wrap .i64 ((1:Int)+(((v.fld 6).asList).length:Int))))),fun n hn=>?_⟩
  obtain ⟨n,rfl⟩:∃ n',n=n'+1:=⟨n-1,by omega⟩
  have l1:∀ acc,aai 0 (B6_4step 0 (G6 0 n)) ((),acc,(0:Int),v)=some ((),g1 acc,v):=l1 n (by omega)
  have l2:∀ acc,aai 0 (B6_8step 0 (G6 0 n)) ((),acc,(0:Int),v)=some ((),g2 acc,v):=l2 n (by omega)
  have l3:∀ acc,aai 0 (B6_12step 0 (G6 0 n)) ((),acc,(0:Int),v)=some (g3 acc,v):=l3 n (by omega)
  show B6 0 (G6 0 n) v=_
  unfold B6
  simp only [l1,l2,l3,Option.bind_some]
theorem aol {v:PV} (hb:aad v<=1048576):∃ c,F6 0 v=some c:=by
 obtain ⟨c,hc⟩:=aee _ v (Nat.le_refl _) hb
 exact ⟨c,agj (aad v) hc⟩
theorem avh {a v:PV} (ha:SOk a) (hv:VOk v) (hb:aad v<=1048576) (n:List UInt8):∃ e,F7 0 a n v=some e/\(e=0->fitM (fitF a (aad v)) (dmem aau n (a.fld 0).asList zMsg).1 v):=by
 have hm:=aws ha n
 have hM:=ay6 a n ha.len.m
 generalize dmem aau n (a.fld 0).asList zMsg=m at hM hm ⊢
 obtain ⟨e,q1,q2⟩:=chkM ha (chkF ha (aad v)) m.1 v 1 true hm hv (by omega) hb
 obtain ⟨c,hc⟩:=aol hb
 have hF:F26 0 a m.1 v 1 true=some e:=agj (4*aad v+6) q2
 unfold F7 F16
 simp only [hM,Option.bind_some]
 cases m.2 with
 | false=>exact ⟨_,rfl,fun q=>by cases q⟩
 | true=>
  simp only [Bool.not_true,cond_false,hF,Option.bind_some]
  cases h:e != 0 with
  | true=>exact ⟨e,rfl,q1⟩
  | false=>
   have h0:e=0:=by simpa using h
   simp only [cond_false,hc,Option.bind_some]
   cases decide (c>4096) with
   | true=>exact ⟨_,rfl,fun q=>by cases q⟩
   | false=>exact ⟨_,rfl,fun _=>q1 h0⟩
end Go.Ab
