/- The specification's examination of a value, whole; how many nodes a value has. -/
import Derived.Test.YtjogoleiodbfdaaGreatPUsesT
set_option linter.unusedVariables false
set_option linter.unusedSimpArgs false
set_option linter.unnecessarySimpa false
namespace Go.Ab
open Go
set_option maxRecDepth 100000
theorem chkE {a:PV} (ha:SOk a) {k:Nat} (C:ChkF a k) (t v:PV) (level:Int) (keys:Bool) (hv:VOk v) (hb:aac v<=k+1) (hb2:aac v<=1048576):
 ∃ e:Int,(e=0->fitE a (fitF a k) t v)/\∀ n,4*k+7<=n->(G26 0 n).2.2.2 (a,t,v,level,keys)=some e:=by
 by_cases ht:(t.fld 0).asInt=10
 ·have e10:((t.fld 0).asInt==10)=true:=by simp [ht]
  have hm:=axh ha (t.fld 1).asStr
  have hM:=az1 a (t.fld 1).asStr ha.len.m
  generalize hmm:dmem aak (t.fld 1).asStr (a.fld 0).asList zMsg=m at hM hm
  obtain ⟨e,q1,q2⟩:=chkM ha C m.1 v level keys hm hv hb hb2
  cases hf:m.2 with
  | false=>
   refine ⟨10,fun q=>(by cases q),fun n hn=>?_⟩
   obtain ⟨n,rfl⟩:∃ n',n=n'+1:=⟨n-1,by omega⟩
   show B113 0 ((G26 0 n).1) ((G26 0 n).2.1) ((G26 0 n).2.2.1) ((G26 0 n).2.2.2) a t v level keys=_
   unfold B113
   simp only [e10,cond_true,hM,Option.bind_some,hf,Bool.not_false]
  | true=>
   refine ⟨e,fun q=>⟨fun _=>by rw [hmm];exact ⟨q1 q,hf⟩,fun h=>by omega,fun h=>absurd ht h⟩,fun n hn=>?_⟩
   obtain ⟨n,rfl⟩:∃ n',n=n'+1:=⟨n-1,by omega⟩
   show B113 0 ((G26 0 n).1) ((G26 0 n).2.1) ((G26 0 n).2.2.1) ((G26 0 n).2.2.2) a t v level keys=_
   unfold B113
   simp only [e10,cond_true,hM,Option.bind_some,hf,Bool.not_true,cond_false,q2 n (by omega)]
 ·have e10:((t.fld 0).asInt==10)=false:=by simp [ht]
  cases hr:(bif (decide (((t.fld 0).asInt)<(1:Int))) then true else (decide (((t.fld 0).asInt)>(9:Int)))) with
  | true=>
   refine ⟨12,fun q=>(by cases q),fun n hn=>?_⟩
   obtain ⟨n,rfl⟩:∃ n',n=n'+1:=⟨n-1,by omega⟩
   show B113 0 ((G26 0 n).1) ((G26 0 n).2.1) ((G26 0 n).2.2.1) ((G26 0 n).2.2.2) a t v level keys=_
   unfold B113
   simp only [e10,cond_false,hr,cond_true]
  | false=>
   have hlo:1<=(t.fld 0).asInt/\(t.fld 0).asInt<=9:=by
    cases h1:decide (((t.fld 0).asInt)<(1:Int)) with
    | true=>rw [h1] at hr;cases hr
    | false=>
     rw [h1] at hr
     exact ⟨by have:=of_decide_eq_false h1;omega,by have:=of_decide_eq_false hr;omega⟩
   obtain ⟨es,s1,s2⟩:=alh (t.fld 0).asInt hv hb2
   cases hx:(bif (es != (0:Int)) then true else (((t.fld 0).asInt) != (9:Int))) with
   | true=>
    refine ⟨es,fun q=>⟨fun h=>absurd h ht,fun h=>(by rw [q,h] at hx;cases hx),fun _ h9=>by rw [s2 q];omega⟩,fun n hn=>?_⟩
    obtain ⟨n,rfl⟩:∃ n',n=n'+1:=⟨n-1,by omega⟩
    show B113 0 ((G26 0 n).1) ((G26 0 n).2.1) ((G26 0 n).2.2.1) ((G26 0 n).2.2.2) a t v level keys=_
    unfold B113
    simp only [e10,cond_false,hr,s1,Option.bind_some,hx,cond_true]
   | false=>
    have h0:es=0/\(t.fld 0).asInt=9:=by
     cases h1:es != (0:Int) with
     | true=>rw [h1] at hx;cases hx
     | false=>rw [h1] at hx;exact ⟨by simpa using h1,by simpa using hx⟩
    have hE:=axm a (t.fld 1).asStr ha.len.e
    have hl:=ate ha (t.fld 1).asStr
    generalize hdd:dmem aak (t.fld 1).asStr (a.fld 1).asList ab3=d at hE hl
    obtain ⟨r,hi⟩:=apm d.1 (v.fld 1).asInt hl
    refine ⟨bif !d.2 then 10 else bif (bif !(d.1.fld 1).asBool then !r else false) then 16 else 0,fun q=>⟨fun h=>absurd h ht,fun h=>⟨by rw [s2 h0.1];exact h,by rw [hdd];cases hd2:d.2 with | true=>rfl | false=>rw [hd2] at q;cases q⟩,fun _ h9=>absurd h0.2 h9⟩,fun n hn=>?_⟩
    obtain ⟨n,rfl⟩:∃ n',n=n'+1:=⟨n-1,by omega⟩
    show B113 0 ((G26 0 n).1) ((G26 0 n).2.1) ((G26 0 n).2.2.1) ((G26 0 n).2.2.2) a t v level keys=_
    unfold B113
    simp only [e10,cond_false,hr,s1,Option.bind_some,hx,hE,hi]
    cases d.2 with
    | false=>rfl
    | true=>
     cases (d.1.fld 1).asBool with
     | true=>rfl
     | false=>cases r<;>rfl
theorem chkD {a:PV} (ha:SOk a) {k:Nat} (C:ChkF a k):ChkF a (k+1):=by
 intro f v level keys hb hb2 hv
 have h3:=ab4 v 3
 have h4:=ab4 v 4
 obtain ⟨b,ho⟩:=ajb v
 by_cases c4:(f.fld 2).asInt=4
 ·have e4:((f.fld 2).asInt==4)=true:=by simp [c4]
  by_cases hk:(v.fld 0).asInt=11
  case neg=>
   refine ⟨12,fun q=>(by cases q),fun n hn=>?_⟩
   obtain ⟨n,rfl⟩:∃ n',n=n'+1:=⟨n-1,by omega⟩
   show B78 0 ((G26 0 n).1) ((G26 0 n).2.1) ((G26 0 n).2.2.1) ((G26 0 n).2.2.2) a f v level keys=_
   unfold B78
   have e:((v.fld 0).asInt != 11)=true:=by simp [hk]
   simp only [e4,e,Bool.not_true,cond_false,cond_true,Option.bind_some]
  have ek:((v.fld 0).asInt != 11)=false:=by simp [hk]
  obtain ⟨e1,p1,l1⟩:=aj5 (step:=fun n=>B78_6step 0 ((G26 0 n).1) ((G26 0 n).2.1) ((G26 0 n).2.2.1) ((G26 0 n).2.2.2)) (N:=4*k+7) (fun j=>(level,keys,(),(),(),((j:Nat):Int),a,f,v)) (v.fld 3).asList.length (fun e=>.inl (e,a,f,v)) (.inr (a,f,v))
   (fun j=>fitE a (fitF a k) (f.fld 4) ((v.fld 3).asList.getD j .bad)) (fun j hj=>by
    have hx:=ags hj
    have hxb:=am5 hx
    obtain ⟨e,q1,q2⟩:=chkE ha C (f.fld 4) ((v.fld 3).asList.getD j .bad) level keys (hv.elem hx) (by omega) (by omega)
    refine ⟨e,q1,fun n hn=>?_⟩
    simp only [B78_6step,B78_6,decL j _ hj,cond_true,aaa,decide_eq_true hj,Int.toNat_natCast,q2 n hn,Option.bind_some,aa5 j (by omega)]
    cases e != 0<;>rfl) (fun n hn=>by
    simp only [B78_6step,B78_6,decN,cond_false]) (v.fld 3).asList.length 0 (by omega)
  refine ⟨bif b then 12 else e1,fun q=>⟨fun _=>⟨hk,fun x hx=>?_⟩,fun h=>by omega,fun h=>absurd c4 h⟩,fun n hn=>?_⟩
  ·obtain ⟨j,hj,rfl⟩:=List.mem_iff_getElem.1 hx
   have:=p1 (by cases b with | true=>cases q | false=>exact q) j (Nat.zero_le _) hj
   rwa [aaf hj] at this
  ·obtain ⟨n,rfl⟩:∃ n',n=n'+1:=⟨n-1,by omega⟩
   have l1:aag 0 (B78_6step 0 ((G26 0 n).1) ((G26 0 n).2.1) ((G26 0 n).2.2.1) ((G26 0 n).2.2.2)) (level,keys,(),(),(),(0:Int),a,f,v)=_:=l1 n (by omega)
   show B78 0 ((G26 0 n).1) ((G26 0 n).2.1) ((G26 0 n).2.2.1) ((G26 0 n).2.2.2) a f v level keys=_
   unfold B78
   simp only [e4,ek,Bool.not_false,cond_true,cond_false,ho,Option.bind_some]
   cases b with
   | true=>rfl
   | false=>
    simp only [cond_false,l1,Option.bind_some]
    cases h:e1 != 0 with
    | true=>rfl
    | false=>have:e1=0:=by simpa using h
             subst this;rfl
 have e4:((f.fld 2).asInt==4)=false:=by simp [c4]
 by_cases c5:(f.fld 2).asInt=5
 ·have e5:((f.fld 2).asInt==5)=true:=by simp [c5]
  by_cases hk:(v.fld 0).asInt=12
  case neg=>
   refine ⟨12,fun q=>(by cases q),fun n hn=>?_⟩
   obtain ⟨n,rfl⟩:∃ n',n=n'+1:=⟨n-1,by omega⟩
   show B78 0 ((G26 0 n).1) ((G26 0 n).2.1) ((G26 0 n).2.2.1) ((G26 0 n).2.2.2) a f v level keys=_
   unfold B78
   have e:((v.fld 0).asInt != 12)=true:=by simp [hk]
   simp only [e4,e5,e,Bool.not_true,cond_false,cond_true,Option.bind_some]
  have ek:((v.fld 0).asInt != 12)=false:=by simp [hk]
  obtain ⟨e1,p1,l1⟩:=aj5 (step:=fun n=>B78_16step 0 ((G26 0 n).1) ((G26 0 n).2.1) ((G26 0 n).2.2.1) ((G26 0 n).2.2.2)) (N:=4*k+7) (fun j=>(level,keys,(),(),(),((j:Nat):Int),a,f,v)) (v.fld 4).asList.length (fun e=>.inl (e,a,f,v)) (.inr (a,f,v))
   (fun j=>fitE a (fitF a k) (f.fld 4) (((v.fld 4).asList.getD j .bad).fld 1)) (fun j hj=>by
    have hx:=ags hj
    have hxb:aac (((v.fld 4).asList.getD j .bad).fld 1)<aac v:=ac1 hx
    have hkb:aac (((v.fld 4).asList.getD j .bad).fld 0)<aac v:=ac1 hx
    obtain ⟨es,s1,_⟩:=alh (f.fld 3).asInt (hv.key hx) (by omega)
    obtain ⟨e,q1,q2⟩:=chkE ha C (f.fld 4) (((v.fld 4).asList.getD j .bad).fld 1) level keys (hv.val hx) (by omega) (by omega)
    let p:Nat->Bool:=fun i=>bif ((((v.fld 4).asList.getD i .bad).fld 0).fld 1).asInt==((((v.fld 4).asList.getD j .bad).fld 0).fld 1).asInt then ((((v.fld 4).asList.getD i .bad).fld 0).fld 2).asStr==((((v.fld 4).asList.getD j .bad).fld 0).fld 2).asStr else false
    refine ⟨bif es != 0 then es else bif (bif keys then brk p j else false) then 9 else e,fun q=>q1 ?_,fun n hn=>?_⟩
    ·cases h1:es != 0 with
     | true=>
          rw [h1] at q
          have:es=0:=q
          rw [this] at h1;cases h1
     | false=>
          rw [h1] at q
          cases h2:(bif keys then brk p j else false) with
          | true=>rw [h2] at q;cases q
          | false=>rw [h2] at q;exact q
    ·have hd:decide (j<(v.fld 4).asList.length)=true:=decide_eq_true hj
     have l2:aag 0 (B78_22step 0 ((G26 0 n).1) ((G26 0 n).2.1) ((G26 0 n).2.2.1) ((G26 0 n).2.2.2)) (level,keys,(),(),(),((j:Nat):Int),(0:Int),a,f,v)=some (bif (bif keys then brk p j else false) then .inl (9,a,f,v) else .inr (level,keys,(),(),(),((j:Nat):Int),a,f,v)):=by
          cases keys with
          | false=>exact aai (by simp only [B78_22step,B78_22];cases decide ((0:Int)<((j:Nat):Int))<;>rfl)
          | true=>
           exact aex (step:=B78_22step 0 ((G26 0 n).1) ((G26 0 n).2.1) ((G26 0 n).2.2.1) ((G26 0 n).2.2.2)) (fun i=>(level,true,(),(),(),((j:Nat):Int),((i:Nat):Int),a,f,v)) j p (.inl (9,a,f,v)) (.inr (level,true,(),(),(),((j:Nat):Int),a,f,v)) (fun i hi=>by
           simp only [B78_22step,B78_22,decL i _ hi,cond_true,aaa,hd,decide_eq_true (show i<(v.fld 4).asList.length by omega),Int.toNat_natCast,apk,aa5 i (by omega)]
           show (bif p i then _ else _)=_
           cases p i<;>rfl) (by
           simp only [B78_22step,B78_22,decN,cond_false])
     simp only [B78_16step,B78_16,decL j _ hj,cond_true,aaa,hd,Int.toNat_natCast,s1,Option.bind_some]
     cases h1:es != 0 with
     | true=>simp only [cond_true,h1]
     | false=>
          simp only [cond_false,l2,Option.bind_some]
          cases (bif keys then brk p j else false) with
          | true=>rfl
          | false=>
           simp only [cond_false,ac5,aaa,hd,cond_true,Int.toNat_natCast,q2 n hn,Option.bind_some,aa5 j (by omega)]
           cases e != 0<;>rfl) (fun n hn=>by
    simp only [B78_16step,B78_16,decN,cond_false]) (v.fld 4).asList.length 0 (by omega)
  refine ⟨bif b then 12 else e1,fun q=>⟨fun h=>absurd h c4,fun _=>⟨hk,fun x hx=>?_⟩,fun _ h=>absurd c5 h⟩,fun n hn=>?_⟩
  ·obtain ⟨j,hj,rfl⟩:=List.mem_iff_getElem.1 hx
   have:=p1 (by cases b with | true=>cases q | false=>exact q) j (Nat.zero_le _) hj
   rwa [aaf hj] at this
  ·obtain ⟨n,rfl⟩:∃ n',n=n'+1:=⟨n-1,by omega⟩
   have l1:aag 0 (B78_16step 0 ((G26 0 n).1) ((G26 0 n).2.1) ((G26 0 n).2.2.1) ((G26 0 n).2.2.2)) (level,keys,(),(),(),(0:Int),a,f,v)=_:=l1 n (by omega)
   show B78 0 ((G26 0 n).1) ((G26 0 n).2.1) ((G26 0 n).2.2.1) ((G26 0 n).2.2.2) a f v level keys=_
   unfold B78
   simp only [e4,e5,ek,Bool.not_false,cond_true,cond_false,ho,Option.bind_some]
   cases b with
   | true=>rfl
   | false=>
    simp only [cond_false,l1,Option.bind_some]
    cases h:e1 != 0 with
    | true=>rfl
    | false=>have:e1=0:=by simpa using h
             subst this;rfl
 have e5:((f.fld 2).asInt==5)=false:=by simp [c5]
 obtain ⟨e,q1,q2⟩:=chkE ha C (f.fld 4) v level keys hv hb hb2
 refine ⟨e,fun q=>⟨fun h=>absurd h c4,fun h=>absurd h c5,fun _ _=>q1 q⟩,fun n hn=>?_⟩
 obtain ⟨n,rfl⟩:∃ n',n=n'+1:=⟨n-1,by omega⟩
 show B78 0 ((G26 0 n).1) ((G26 0 n).2.1) ((G26 0 n).2.2.1) ((G26 0 n).2.2.2) a f v level keys=_
 unfold B78
 simp only [e4,e5,cond_false,q2 n (by omega),Option.bind_some]
theorem chkF {a:PV} (ha:SOk a):∀ k,ChkF a k
 | 0=>fun f v level keys hb=>absurd hb (by have:=aa7 v;omega)
 | k+1=>chkD ha (chkF ha k)
theorem an3 {σ τ β:Type}{step:Nat->σ->Option (σ⊕τ)}{N:Nat} (st:Nat->β->σ) (len:Nat) (out:β->τ)
 (h:∀ i,i<len->∃ g:β->β,∀ n,N<=n->∀ acc,step n (st i acc)=some (.inl (st (i+1) (g acc)))) (hend:∀ n,N<=n->∀ acc,step n (st len acc)=some (.inr (out acc))):
 ∀ k i,i+k=len->∃ g:β->β,∀ n,N<=n->∀ acc,abv (step n) (st i acc)=some (out (g acc)):=by
 intro k
 induction k with
 | zero=>
  intro i hi
  obtain rfl:i=len:=by omega
  exact ⟨id,fun n hn acc=>aai (hend n hn acc)⟩
 | succ k ih=>
  intro i hi
  obtain ⟨g,h1⟩:=h i (by omega)
  obtain ⟨g',h2⟩:=ih (i+1) (by omega)
  exact ⟨fun acc=>g' (g acc),fun n hn acc=>by rw [aav (h1 n hn acc)];exact h2 n hn _⟩
theorem aem:∀ k (v:PV),aac v<=k->aac v<=1048576->∃ c,∀ n,k<=n->G6 0 n v=some c
 | 0,v,hb,_=>absurd hb (by have:=aa7 v;omega)
 | k+1,v,hb,hb2=>by
  have h3:=ab4 v 3
  have h4:=ab4 v 4
  have h5:=ab4 v 5
  obtain ⟨g1,l1⟩:=an3 (step:=fun n=>B6_4step 0 (G6 0 n)) (N:=k) (fun j (acc:Int)=>((),acc,((j:Nat):Int),v)) (v.fld 3).asList.length (fun acc=>((),acc,v)) (fun j hj=>by
   have hx:=ags hj
   have hxb:=am5 hx
   obtain ⟨c,hc⟩:=aem k ((v.fld 3).asList.getD j .bad) (by omega) (by omega)
   refine ⟨fun acc=>IntKind.wrap .i64 (acc+c),fun n hn acc=>?_⟩
   simp only [B6_4step,B6_4,decL j _ hj,cond_true,aaa,decide_eq_true hj,Int.toNat_natCast,hc n hn,Option.bind_some,aa5 j (by omega)]) (fun n hn acc=>by
   simp only [B6_4step,B6_4,decN,cond_false]) (v.fld 3).asList.length 0 (by omega)
  obtain ⟨g2,l2⟩:=an3 (step:=fun n=>B6_8step 0 (G6 0 n)) (N:=k) (fun j (acc:Int)=>((),acc,((j:Nat):Int),v)) (v.fld 4).asList.length (fun acc=>((),acc,v)) (fun j hj=>by
   have hx:=ags hj
   have hxb:aac (((v.fld 4).asList.getD j .bad).fld 1)<aac v:=ac1 hx
   have hkb:aac (((v.fld 4).asList.getD j .bad).fld 0)<aac v:=ac1 hx
   obtain ⟨c,hc⟩:=aem k (((v.fld 4).asList.getD j .bad).fld 0) (by omega) (by omega)
   obtain ⟨d,hd⟩:=aem k (((v.fld 4).asList.getD j .bad).fld 1) (by omega) (by omega)
   refine ⟨fun acc=>IntKind.wrap .i64 (acc+IntKind.wrap .i64 (c+d)),fun n hn acc=>?_⟩
   simp only [B6_8step,B6_8,decL j _ hj,cond_true,aaa,decide_eq_true hj,Int.toNat_natCast,hc n hn,hd n hn,Option.bind_some,aa5 j (by omega)]) (fun n hn acc=>by
   simp only [B6_8step,B6_8,decN,cond_false]) (v.fld 4).asList.length 0 (by omega)
  obtain ⟨g3,l3⟩:=an3 (step:=fun n=>B6_12step 0 (G6 0 n)) (N:=k) (fun j (acc:Int)=>((),acc,((j:Nat):Int),v)) (v.fld 5).asList.length (fun acc=>(acc,v)) (fun j hj=>by
   have hx:=ags hj
   have hxb:aac (((v.fld 5).asList.getD j .bad).fld 1)<aac v:=ac1 hx
   obtain ⟨c,hc⟩:=aem k (((v.fld 5).asList.getD j .bad).fld 1) (by omega) (by omega)
   refine ⟨fun acc=>IntKind.wrap .i64 (acc+c),fun n hn acc=>?_⟩
   simp only [B6_12step,B6_12,decL j _ hj,cond_true,aaa,decide_eq_true hj,Int.toNat_natCast,hc n hn,Option.bind_some,aa5 j (by omega)]) (fun n hn acc=>by
   simp only [B6_12step,B6_12,decN,cond_false]) (v.fld 5).asList.length 0 (by omega)
  refine ⟨g3 (g2 (g1 (IntKind.wrap .i64 ((1:Int)+(((v.fld 6).asList).length:Int))))),fun n hn=>?_⟩
  obtain ⟨n,rfl⟩:∃ n',n=n'+1:=⟨n-1,by omega⟩
  have l1:∀ acc,aag 0 (B6_4step 0 (G6 0 n)) ((),acc,(0:Int),v)=some ((),g1 acc,v):=l1 n (by omega)
  have l2:∀ acc,aag 0 (B6_8step 0 (G6 0 n)) ((),acc,(0:Int),v)=some ((),g2 acc,v):=l2 n (by omega)
  have l3:∀ acc,aag 0 (B6_12step 0 (G6 0 n)) ((),acc,(0:Int),v)=some (g3 acc,v):=l3 n (by omega)
  show B6 0 (G6 0 n) v=_
  unfold B6
  simp only [l1,l2,l3,Option.bind_some]
theorem ao4 {v:PV} (hb:aac v<=1048576):∃ c,F6 0 v=some c:=by
 obtain ⟨c,hc⟩:=aem _ v (Nat.le_refl _) hb
 exact ⟨c,agq (aac v) hc⟩
theorem av8 {a v:PV} (ha:SOk a) (hv:VOk v) (hb:aac v<=1048576) (n:List UInt8):∃ e,F7 0 a n v=some e/\(e=0->fitM (fitF a (aac v)) (dmem aak n (a.fld 0).asList zMsg).1 v/\(dmem aak n (a.fld 0).asList zMsg).2=true):=by
 have hm:=axh ha n
 have hM:=az1 a n ha.len.m
 generalize dmem aak n (a.fld 0).asList zMsg=m at hM hm ⊢
 obtain ⟨e,q1,q2⟩:=chkM ha (chkF ha (aac v)) m.1 v 1 true hm hv (by omega) hb
 obtain ⟨c,hc⟩:=ao4 hb
 have hF:F26 0 a m.1 v 1 true=some e:=agq (4*aac v+6) q2
 unfold F7 F16
 simp only [hM,Option.bind_some]
 cases hm2:m.2 with
 | false=>exact ⟨_,rfl,fun q=>by cases q⟩
 | true=>
  simp only [Bool.not_true,cond_false,hF,Option.bind_some]
  cases h:e != 0 with
  | true=>exact ⟨e,rfl,fun q=>⟨q1 q,trivial⟩⟩
  | false=>
   have h0:e=0:=by simpa using h
   simp only [cond_false,hc,Option.bind_some]
   cases decide (c>4096) with
   | true=>exact ⟨_,rfl,fun q=>by cases q⟩
   | false=>exact ⟨_,rfl,fun _=>⟨q1 h0,trivial⟩⟩
end Go.Ab
namespace Go.Ab
open Go
set_option maxRecDepth 100000
def depU (l:List PV) (s:List UInt8) (n:Int):List UseT:=bif adb l then [(s,n,1)] else []
def useS (U:PV->PV->List UseT) (s:List UInt8) (m x:PV):List UseT:=
 bif (dmem kNum (x.fld 0).asInt (m.fld 1).asList zFld).2 then depU ((dmem kNum (x.fld 0).asInt (m.fld 1).asList zFld).1.fld 8).asList s ((dmem kNum (x.fld 0).asInt (m.fld 1).asList zFld).1.fld 0).asInt++U (dmem kNum (x.fld 0).asInt (m.fld 1).asList zFld).1 (x.fld 1) else []
def useM (U:PV->PV->List UseT) (s:List UInt8) (m v:PV):List UseT:=depU (m.fld 4).asList s (-1)++(v.fld 5).asList.flatMap (useS U s m)
def useI (s:List UInt8) (v it:PV):List UseT:=bif (bif decide ((it.fld 1).asInt≥(0:Int)) then IntKind.wrap .u64 (it.fld 1).asInt==(v.fld 1).asInt else false) then depU (it.fld 2).asList s (it.fld 1).asInt else []
def useN (s:List UInt8) (e v:PV):List UseT:=depU (e.fld 4).asList s (-1)++(e.fld 2).asList.flatMap (useI s v)
def useE (a:PV) (U:PV->PV->List UseT) (t v:PV):List UseT:=
 bif (t.fld 0).asInt==10 then useM U (t.fld 1).asStr (dmem aak (t.fld 1).asStr (a.fld 0).asList zMsg).1 v
 else bif (t.fld 0).asInt==9 then useN (t.fld 1).asStr (dmem aak (t.fld 1).asStr (a.fld 1).asList ab3).1 v else []
def useD (a:PV) (U:PV->PV->List UseT) (f v:PV):List UseT:=
 bif (f.fld 2).asInt==4 then (v.fld 3).asList.flatMap (useE a U (f.fld 4))
 else bif (f.fld 2).asInt==5 then (v.fld 4).asList.flatMap (fun x=>useE a U (f.fld 4) (x.fld 1)) else useE a U (f.fld 4) v
def useF (a:PV):Nat->PV->PV->List UseT
 | 0=>fun _ _=>[]
 | k+1=>useD a (useF a k)
theorem ah8 {σ τ α β:Type}{step:σ->Option (σ⊕τ)} (st:Nat->β->σ) (xs:List α) (f:β->α->β) (out:β->τ) (Inv:Nat->β->Prop)
 (hgo:∀ i (hi:i<xs.length) acc,Inv i acc->step (st i acc)=some (.inl (st (i+1) (f acc xs[i])))/\Inv (i+1) (f acc xs[i])) (hend:∀ acc,Inv xs.length acc->step (st xs.length acc)=some (.inr (out acc))):
 ∀ k i acc,i+k=xs.length->Inv i acc->abv step (st i acc)=some (out ((xs.drop i).foldl f acc)):=by
 intro k
 induction k with
 | zero=>
  intro i acc hi h
  obtain rfl:i=xs.length:=by omega
  rw [List.drop_length]
  exact aai (hend acc h)
 | succ k ih=>
  intro i acc hi h
  have hlt:i<xs.length:=by omega
  obtain ⟨h1,h2⟩:=hgo i hlt acc h
  rw [aav h1,ih (i+1) _ (by omega) h2,List.drop_eq_getElem_cons hlt,List.foldl_cons]
theorem afy {α β γ:Type} (g:γ->β->γ) (f:α->List β):∀ (l:List α) (x:γ),(l.flatMap f).foldl g x=l.foldl (fun x y=>(f y).foldl g x) x
 | [],_=>rfl
 | y::r,x=>by rw [List.flatMap_cons,List.foldl_append,afy g f r,List.foldl_cons]
structure MOk (m:PV):Prop where
 fields:(m.fld 1).asList.length<=1048576
 notes:(m.fld 4).asList.length<=1048576
 fnotes:∀ f,f∈(m.fld 1).asList->(f.fld 8).asList.length<=1048576
structure EOk (e:PV):Prop where
 items:(e.fld 2).asList.length<=1048576
 notes:(e.fld 4).asList.length<=1048576
 inotes:∀ f,f∈(e.fld 2).asList->(f.fld 2).asList.length<=1048576
theorem mok {a:PV} (ha:SOk a) (n:List UInt8):MOk (dmem aak n (a.fld 0).asList zMsg).1:=
 ahf (P:=MOk) (fun x hx=>⟨(ha.msg x hx).fields,(ha.msg x hx).notes,fun f hf=>((ha.msg x hx).field f hf).notes⟩) ⟨by show (0:Nat)<=_;omega,by show (0:Nat)<=_;omega,fun f hf=>by cases hf⟩
theorem eok {a:PV} (ha:SOk a) (n:List UInt8):EOk (dmem aak n (a.fld 1).asList ab3).1:=
 ahf (P:=EOk) (fun x hx=>⟨(ha.enum x hx).items,(ha.enum x hx).notes,fun f hf=>((ha.enum x hx).item f hf).notes⟩) ⟨by show (0:Nat)<=_;omega,by show (0:Nat)<=_;omega,fun f hf=>by cases hf⟩
theorem fnotes {m:PV} (hm:MOk m) (n:Int):((dmem kNum n (m.fld 1).asList zFld).1.fld 8).asList.length<=1048576:=
 ahf (P:=fun f=>(f.fld 8).asList.length<=1048576) hm.fnotes (by show (0:Nat)<=_;omega)
theorem ara {κ:Type} [BEq κ] {key:PV->κ}{k:κ}{l:List PV}{z:PV} (h:(dmem key k l z).2=false):(dmem key k l z).1=z:=by
 unfold dmem at*
 cases hf:fst key k l with
 | none=>rfl
 | some x=>rw [hf] at h;cases h
theorem a2e (U:PV->PV->List UseT) (s:List UInt8) (v:PV):useM U s zMsg v=[]:=by
 have h:∀ x,useS U s zMsg x=[]:=fun x=>rfl
 unfold useM
 rw [show depU (zMsg.fld 4).asList s (-1)=[] from rfl,List.nil_append]
 induction (v.fld 5).asList with
 | nil=>rfl
 | cons x r ih=>rw [List.flatMap_cons,h,ih];rfl
theorem a2f (s:List UInt8) (v:PV):useN s ab3 v=[]:=rfl
theorem addH {α:Type} (u:UseT) (l:List UseT) (hu:u.2.2=1) {K:List (PV×PV)->Option α}:
 (bif decide (PV.midx (aau l) (PV.agg [(PV.str u.1),(PV.int u.2.1)])<(PV.mput (aau l) (PV.agg [(PV.str u.1),(PV.int u.2.1)]) ((PV.mget (aau l) (PV.agg [(PV.str u.1),(PV.int u.2.1)])).getD (PV.int (0:Int)))).length) then
  K (PV.mset (PV.mput (aau l) (PV.agg [(PV.str u.1),(PV.int u.2.1)]) ((PV.mget (aau l) (PV.agg [(PV.str u.1),(PV.int u.2.1)])).getD (PV.int (0:Int)))) (PV.midx (aau l) (PV.agg [(PV.str u.1),(PV.int u.2.1)])) (PV.int (IntKind.wrap .i64 (((PV.mget (aau l) (PV.agg [(PV.str u.1),(PV.int u.2.1)])).getD (PV.int (0:Int))).asInt+(1:Int))))) else none)=K (aau (addU l u)):=by
 obtain ⟨h1,h2⟩:=axc u l
 rw [hu] at h2
 have e:PV.agg [(PV.str u.1),(PV.int u.2.1)]=ac6 u:=rfl
 rw [e,decide_eq_true h1,cond_true,h2]
theorem addG {α:Type} (u:UseT) (l:List UseT) (hu:u.2.2=1) {K:List (PV×PV)->Option α}:
 (bif aab ((PV.midx (aau l) (PV.agg [(PV.str u.1),(PV.int u.2.1)]):Nat):Int) ((PV.mput (aau l) (PV.agg [(PV.str u.1),(PV.int u.2.1)]) ((PV.mget (aau l) (PV.agg [(PV.str u.1),(PV.int u.2.1)])).getD (PV.int (0:Int)))).length) then
  K (PV.mset (PV.mput (aau l) (PV.agg [(PV.str u.1),(PV.int u.2.1)]) ((PV.mget (aau l) (PV.agg [(PV.str u.1),(PV.int u.2.1)])).getD (PV.int (0:Int)))) ((PV.midx (aau l) (PV.agg [(PV.str u.1),(PV.int u.2.1)]):Nat):Int).toNat (PV.int (IntKind.wrap .i64 (((PV.mget (aau l) (PV.agg [(PV.str u.1),(PV.int u.2.1)])).getD (PV.int (0:Int))).asInt+(1:Int))))) else none)=K (aau (addU l u)):=by
 rw [aaa,Int.toNat_natCast]
 exact addH u l hu
def avs (a:PV) (k:Nat):Prop:=∀ (f v:PV) (l:List UseT),aac v<=k->aac v<=1048576->∀ n,4*k+4<=n->(G17 0 n).2.1 ((),f,v,a,(),aau l)=some (a,(),aau ((useF a k f v).foldl addU l))
theorem a2b {a:PV} (ha:SOk a) {k:Nat} (C:avs a k) (s:List UInt8) (v:PV) (l:List UseT) (hb:aac v<=k+1) (hb2:aac v<=1048576) (n:Nat) (hn:4*k+6<=n):
 (G17 0 n).1 ((),s,v,a,(),aau l)=some (a,(),aau ((useM (useF a k) s (dmem aak s (a.fld 0).asList zMsg).1 v).foldl addU l)):=by
 have hm:=mok ha s
 have hM:=a1h a s ha.len.m
 have hz:=ara (κ:=List UInt8) (key:=aak) (k:=s) (l:=(a.fld 0).asList) (z:=zMsg)
 generalize dmem aak s (a.fld 0).asList zMsg=m at hM hm hz ⊢
 obtain ⟨n,rfl⟩:∃ n',n=n'+1:=⟨n-1,by omega⟩
 show B17 0 ((G17 0 n).1) ((G17 0 n).2.1) ((G17 0 n).2.2) () s v a () (aau l)=_
 unfold B17
 simp only [hM,Option.bind_some]
 cases hf:m.2 with
 | false=>
  rw [hz hf,a2e]
  rfl
 | true=>
  simp only [Bool.not_true,cond_false]
  have hd:([100,101,112,114,101,99,97,116,101,100]:List UInt8)=depS:=rfl
  rw [hd,aj2 hm.notes]
  simp only [Option.bind_some]
  have hlen:=ab4 v 5
  have loop:∀ l:List UseT,aag 0 (B17_7step 0 ((G17 0 n).1) ((G17 0 n).2.1) ((G17 0 n).2.2)) ((),s,(),(v.fld 5).asList,((v.fld 5).asList.length:Int),(0:Int),a,(),aau l,v,m.1)=some (a,(),aau (((v.fld 5).asList.flatMap (useS (useF a k) s m.1)).foldl addU l),v,m.1):=by
   intro l
   have h:=ah8 (step:=B17_7step 0 ((G17 0 n).1) ((G17 0 n).2.1) ((G17 0 n).2.2)) (fun i (l:List UseT)=>((),s,(),(v.fld 5).asList,((v.fld 5).asList.length:Int),((i:Nat):Int),a,(),aau l,v,m.1)) (v.fld 5).asList (fun l x=>(useS (useF a k) s m.1 x).foldl addU l) (fun l=>(a,(),aau l,v,m.1)) (fun _ _=>True) (fun i hi l _=>by
    refine ⟨?_,trivial⟩
    have hx:=List.getElem_mem hi
    have hxb:aac (((v.fld 5).asList[i]).fld 1)<aac v:=ac1 hx
    simp only [B17_7step,B17_7,decL i _ hi,cond_true,aaa,decide_eq_true hi,Int.toNat_natCast,aaf hi,aa5 i (by omega),a1g m.1 _ hm.fields,Option.bind_some,hd]
    unfold useS
    have hfn:=fnotes hm (((v.fld 5).asList[i]).fld 0).asInt
    generalize dmem kNum (((v.fld 5).asList[i]).fld 0).asInt (m.1.fld 1).asList zFld=f at hfn ⊢
    cases f.2 with
    | false=>rfl
    | true=>
     simp only [Bool.not_true,cond_false,cond_true,aj2 hfn,Option.bind_some]
     unfold depU
     cases adb (f.1.fld 8).asList with
     | false=>
      rw [cond_false,cond_false,List.nil_append,C f.1 _ l (by omega) (by omega) n (by omega)]
      rfl
     | true=>
      rw [cond_true,cond_true]
      refine (addH (s,(f.1.fld 0).asInt,1) l rfl (K:=fun es=>((G17 0 n).2.1 ((),f.1,(((v.fld 5).asList[i]).fld 1),a,(),es)).bind fun y38=>some (Sum.inl ((),s,(),(v.fld 5).asList,((v.fld 5).asList.length:Int),((i+1:Nat):Int),y38.1,(),y38.2.2,v,m.1)))).trans ?_
      rw [C f.1 _ _ (by omega) (by omega) n (by omega)]
      rfl) (fun l _=>by
    simp only [B17_7step,B17_7,decN,cond_false]) (v.fld 5).asList.length 0 l (by omega) trivial
   rw [List.drop_zero,<-afy addU] at h
   exact h
  unfold useM depU
  cases adb (m.1.fld 4).asList with
  | false=>
   rw [cond_false,cond_false,List.nil_append,loop]
   rfl
  | true=>
   rw [cond_true,cond_true]
   refine (addG (s,-1,1) l rfl (K:=fun es=>(aag 0 (B17_7step 0 ((G17 0 n).1) ((G17 0 n).2.1) ((G17 0 n).2.2)) ((),s,(),(v.fld 5).asList,((v.fld 5).asList.length:Int),(0:Int),a,(),es,v,m.1)).bind fun y43=>some (y43.1,(),y43.2.2.1))).trans ?_
   rw [loop]
   rfl
theorem a0r {a:PV} (ha:SOk a) {k:Nat} (C:avs a k) (t v:PV) (l:List UseT) (hb:aac v<=k+1) (hb2:aac v<=1048576) (n:Nat) (hn:4*k+7<=n):
 (G17 0 n).2.2 ((),t,v,a,(),aau l)=some (a,(),aau ((useE a (useF a k) t v).foldl addU l)):=by
 obtain ⟨n,rfl⟩:∃ n',n=n'+1:=⟨n-1,by omega⟩
 show B56 0 ((G17 0 n).1) ((G17 0 n).2.1) ((G17 0 n).2.2) () t v a () (aau l)=_
 unfold B56 useE
 dsimp only
 cases h10:((t.fld 0).asInt==(10:Int)) with
 | true=>
  simp only [cond_true,a2b ha C (t.fld 1).asStr v l hb hb2 n (by omega),Option.bind_some]
 | false=>
  simp only [cond_false]
  cases h9:((t.fld 0).asInt==(9:Int)) with
  | false=>rfl
  | true=>
   simp only [cond_true]
   have he:=eok ha (t.fld 1).asStr
   have hE:=a1f a (t.fld 1).asStr ha.len.e
   have hz:=ara (κ:=List UInt8) (key:=aak) (k:=(t.fld 1).asStr) (l:=(a.fld 1).asList) (z:=ab3)
   generalize dmem aak (t.fld 1).asStr (a.fld 1).asList ab3=e at hE he hz ⊢
   simp only [hE,Option.bind_some]
   cases hf:e.2 with
   | false=>rw [hz hf,a2f];rfl
   | true=>
    simp only [Bool.not_true,cond_false]
    have hd:([100,101,112,114,101,99,97,116,101,100]:List UInt8)=depS:=rfl
    rw [hd,aj2 he.notes]
    simp only [Option.bind_some]
    have hlen:=he.items
    have loop:∀ l:List UseT,aag 0 (B56_11step 0 ((G17 0 n).1) ((G17 0 n).2.1) ((G17 0 n).2.2)) ((),(),(),(e.1.fld 2).asList,((e.1.fld 2).asList.length:Int),(0:Int),a,(),aau l,t,v,e.1)=some (a,(),aau (((e.1.fld 2).asList.flatMap (useI (t.fld 1).asStr v)).foldl addU l),t,v,e.1):=by
     intro l
     have h:=ah8 (step:=B56_11step 0 ((G17 0 n).1) ((G17 0 n).2.1) ((G17 0 n).2.2)) (fun i (l:List UseT)=>((),(),(),(e.1.fld 2).asList,((e.1.fld 2).asList.length:Int),((i:Nat):Int),a,(),aau l,t,v,e.1)) (e.1.fld 2).asList (fun l x=>(useI (t.fld 1).asStr v x).foldl addU l) (fun l=>(a,(),aau l,t,v,e.1)) (fun _ _=>True) (fun i hi l _=>by
      refine ⟨?_,trivial⟩
      have hx:=List.getElem_mem hi
      have hfn:=he.inotes _ hx
      simp only [B56_11step,B56_11,decL i _ hi,cond_true,aaa,decide_eq_true hi,Int.toNat_natCast,aaf hi,aa5 i (by omega),hd,aj2 hfn]
      unfold useI
      cases (bif decide ((((e.1.fld 2).asList[i]).fld 1).asInt≥(0:Int)) then IntKind.wrap .u64 (((e.1.fld 2).asList[i]).fld 1).asInt==(v.fld 1).asInt else false) with
      | false=>rfl
      | true=>
       simp only [cond_true,Option.bind_some]
       unfold depU
       cases adb ((((e.1.fld 2).asList[i]).fld 2).asList) with
       | false=>rfl
       | true=>
        rw [cond_true,cond_true]
        exact addH ((t.fld 1).asStr,(((e.1.fld 2).asList[i]).fld 1).asInt,1) l rfl (K:=fun es=>some (Sum.inl ((),(),(),(e.1.fld 2).asList,((e.1.fld 2).asList.length:Int),((i+1:Nat):Int),a,(),es,t,v,e.1)))) (fun l _=>by
      simp only [B56_11step,B56_11,decN,cond_false]) (e.1.fld 2).asList.length 0 l (by omega) trivial
     rw [List.drop_zero,<-afy addU] at h
     exact h
    unfold useN depU
    cases adb (e.1.fld 4).asList with
    | false=>
     rw [cond_false,cond_false,List.nil_append,loop]
     rfl
    | true=>
     rw [cond_true,cond_true]
     refine (addG ((t.fld 1).asStr,-1,1) l rfl (K:=fun es=>(aag 0 (B56_11step 0 ((G17 0 n).1) ((G17 0 n).2.1) ((G17 0 n).2.2)) ((),(),(),(e.1.fld 2).asList,((e.1.fld 2).asList.length:Int),(0:Int),a,(),es,t,v,e.1)).bind fun y50=>some (y50.1,(),y50.2.2.1))).trans ?_
     rw [loop]
     rfl
theorem progD {a:PV} (ha:SOk a) {k:Nat} (C:avs a k):avs a (k+1):=by
 intro f v l hb hb2 n hn
 have h3:=ab4 v 3
 have h4:=ab4 v 4
 obtain ⟨n,rfl⟩:∃ n',n=n'+1:=⟨n-1,by omega⟩
 show B30 0 ((G17 0 n).1) ((G17 0 n).2.1) ((G17 0 n).2.2) () f v a () (aau l)=some (a,(),aau ((useD a (useF a k) f v).foldl addU l))
 unfold B30 useD
 dsimp only
 cases (f.fld 2).asInt==(4:Int) with
 | true=>
  simp only [cond_true]
  have h:=ah8 (step:=B30_6step 0 ((G17 0 n).1) ((G17 0 n).2.1) ((G17 0 n).2.2)) (fun i (l:List UseT)=>((),(),(v.fld 3).asList,((v.fld 3).asList.length:Int),((i:Nat):Int),a,(),aau l,f,v)) (v.fld 3).asList (fun l x=>(useE a (useF a k) (f.fld 4) x).foldl addU l) (fun l=>(a,(),aau l,f,v)) (fun _ _=>True) (fun i hi l _=>by
   refine ⟨?_,trivial⟩
   have hx:=List.getElem_mem hi
   have hxb:=am5 hx
   simp only [B30_6step,B30_6,decL i _ hi,cond_true,aaa,decide_eq_true hi,Int.toNat_natCast,aaf hi,aa5 i (by omega),a0r ha C (f.fld 4) ((v.fld 3).asList[i]) l (by omega) (by omega) n (by omega),Option.bind_some]) (fun l _=>by
   simp only [B30_6step,B30_6,decN,cond_false]) (v.fld 3).asList.length 0 l (by omega) trivial
  rw [List.drop_zero,<-afy addU] at h
  have h:aag 0 (B30_6step 0 ((G17 0 n).1) ((G17 0 n).2.1) ((G17 0 n).2.2)) ((),(),(v.fld 3).asList,((v.fld 3).asList.length:Int),(0:Int),a,(),aau l,f,v)=_:=h
  rw [h]
  rfl
 | false=>
  simp only [cond_false]
  cases (f.fld 2).asInt==(5:Int) with
  | true=>
   simp only [cond_true]
   have h:=ah8 (step:=B30_12step 0 ((G17 0 n).1) ((G17 0 n).2.1) ((G17 0 n).2.2)) (fun i (l:List UseT)=>((),(),(v.fld 4).asList,((v.fld 4).asList.length:Int),((i:Nat):Int),a,(),aau l,f,v)) (v.fld 4).asList (fun l x=>(useE a (useF a k) (f.fld 4) (x.fld 1)).foldl addU l) (fun l=>(a,(),aau l,f,v)) (fun _ _=>True) (fun i hi l _=>by
    refine ⟨?_,trivial⟩
    have hx:=List.getElem_mem hi
    have hxb:aac (((v.fld 4).asList[i]).fld 1)<aac v:=ac1 hx
    simp only [B30_12step,B30_12,decL i _ hi,cond_true,aaa,decide_eq_true hi,Int.toNat_natCast,aaf hi,aa5 i (by omega),a0r ha C (f.fld 4) (((v.fld 4).asList[i]).fld 1) l (by omega) (by omega) n (by omega),Option.bind_some]) (fun l _=>by
    simp only [B30_12step,B30_12,decN,cond_false]) (v.fld 4).asList.length 0 l (by omega) trivial
   rw [List.drop_zero,<-afy addU (fun x:PV=>useE a (useF a k) (f.fld 4) (x.fld 1))] at h
   have h:aag 0 (B30_12step 0 ((G17 0 n).1) ((G17 0 n).2.1) ((G17 0 n).2.2)) ((),(),(v.fld 4).asList,((v.fld 4).asList.length:Int),(0:Int),a,(),aau l,f,v)=_:=h
   rw [h]
   rfl
  | false=>
   simp only [cond_false,a0r ha C (f.fld 4) v l hb hb2 n (by omega),Option.bind_some]
theorem a2a {a:PV} (ha:SOk a):∀ k,avs a k
 | 0=>fun f v l hb=>absurd hb (by have:=aa7 v;omega)
 | k+1=>progD ha (a2a ha k)
end Go.Ab
