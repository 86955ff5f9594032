/- Annotations: what Find, Flag and Same compute, in the program and in the specification. -/
import Derived.Test.YtjogoleiodbfdaaGreatPQuoteT
import Derived.Test.YtjogoleiodbfdaaGreatPSortedT
set_option linter.unusedVariables false
set_option linter.unusedSimpArgs false
set_option linter.unnecessarySimpa false
namespace Go.Ab
open Go
def ace (p:PV->Bool):List PV->Nat->Int
 | [],_=>-1
 | x::r,i=>if p x then (i:Int) else ace p r (i+1)
theorem apj (p:PV->Bool):∀ (r:List PV) (i:Nat),(ace p r i=-1/\∀ x,x∈r->p x=false)∨∃ j:Nat,ace p r i=((i+j:Nat):Int)/\j<r.length/\p (r.getD j .bad)=true:=by
 intro r
 induction r with
 | nil=>intro i;exact .inl ⟨rfl,fun x hx=>by cases hx⟩
 | cons x r ih=>
  intro i
  unfold ace
  by_cases hp:p x=true
  ·rw [if_pos hp]
   exact .inr ⟨0,rfl,by simp,hp⟩
  ·rw [if_neg hp]
   rcases ih (i+1) with ⟨h1,h2⟩ | ⟨j,h1,h2,h3⟩
   ·refine .inl ⟨h1,fun y hy=>?_⟩
    rcases List.mem_cons.1 hy with rfl | hy
    ·simpa using hp
    ·exact h2 y hy
   ·exact .inr ⟨j+1,by rw [h1];congr 1;omega,by simp;omega,by simpa using h3⟩
def ac0 (name:List UInt8) (n:PV):Bool:=ad2 n==name
def idxN (l:List PV) (name:List UInt8):Int:=ace (ac0 name) l 0
theorem auu {p:PV->Bool}{l:List PV}:ace p l 0<0∨∃ j:Nat,ace p l 0=(j:Int)/\j<l.length/\p (l.getD j .bad)=true:=by
 rcases apj p l 0 with ⟨h,_⟩ | ⟨j,h1,h2,h3⟩
 ·exact .inl (by rw [h];decide)
 ·exact .inr ⟨j,by simpa using h1,h2,h3⟩
theorem auw (l:List PV) (name:List UInt8) (hl:l.length<=1048576):∀ (m i:Nat),l.length-i<=m->i<=l.length->
 abv (S115_3step 0) (l,(),(l.length:Int),(i:Int),name)=some (bif decide (ace (ac0 name) (l.drop i) i=-1) then .inr name else .inl (ace (ac0 name) (l.drop i) i,name)):=by
 intro m
 induction m with
 | zero=>
  intro i hm hi
  have hlt:¬i<l.length:=by omega
  rw [List.drop_eq_nil_of_le (by omega)]
  exact aai (by simp only [S115_3step,S115_3,adj,hlt,decide_false,cond_false];rfl)
 | succ m ih=>
  intro i hm hi
  by_cases hlt:i<l.length
  ·rw [adw hlt .bad,ace]
   have e:F116 0 (l.getD i .bad) () name=some (ac0 name (l.getD i .bad),name):=rfl
   by_cases hp:ac0 name (l.getD i .bad)=true
   ·rw [if_pos hp,decide_eq_false (by omega)]
    refine aai ?_
    simp only [S115_3step,S115_3,adj,aaa,hlt,decide_true,cond_true,Int.toNat_natCast,e,Option.bind_some,hp]
    rfl
   ·rw [if_neg hp,aav (x1:=(l,(),(l.length:Int),((i+1:Nat):Int),name)),ih (i+1) (by omega) (by omega)]
    rw [Bool.not_eq_true] at hp
    simp only [S115_3step,S115_3,adj,aaa,hlt,decide_true,cond_true,Int.toNat_natCast,e,Option.bind_some,hp,cond_false,avn (i:=i) (by omega)]
  ·rw [List.drop_eq_nil_of_le (by omega)]
   exact aai (by simp only [S115_3step,S115_3,adj,hlt,decide_false,cond_false];rfl)
theorem ayx (l:List PV) (name:List UInt8) (hl:l.length<=1048576):F81 0 l name=some (idxN l name):=by
 have h:=auw l name hl l.length 0 (by omega) (by omega)
 unfold F81 F115
 rw [af2,show (0:Int)=((0:Nat):Int) from rfl,h,List.drop_zero]
 unfold idxN
 by_cases h0:ace (ac0 name) l 0=-1
 ·rw [decide_eq_true h0,h0];rfl
 ·rw [decide_eq_false h0];rfl
theorem aof (l:List PV) (name:List UInt8) (hl:l.length<=1048576):∀ (m i:Nat),l.length-i<=m->i<=l.length->
 abv (S63_3step 0) (l,name,(i:Int))=some (bif decide (ace (ac0 name) (l.drop i) i=-1) then .inr () else .inl (ace (ac0 name) (l.drop i) i)):=by
 intro m
 induction m with
 | zero=>
  intro i hm hi
  have hlt:¬i<l.length:=by omega
  rw [List.drop_eq_nil_of_le (by omega)]
  exact aai (by simp only [S63_3step,S63_3,adj,hlt,decide_false,cond_false];rfl)
 | succ m ih=>
  intro i hm hi
  by_cases hlt:i<l.length
  ·rw [adw hlt .bad,ace]
   have e:(((l.getD i .bad).fld 0).asStr==name)=ac0 name (l.getD i .bad):=rfl
   by_cases hp:ac0 name (l.getD i .bad)=true
   ·rw [if_pos hp,decide_eq_false (by omega)]
    refine aai ?_
    simp only [S63_3step,S63_3,adj,aaa,hlt,decide_true,cond_true,Int.toNat_natCast,e,hp]
    rfl
   ·rw [if_neg hp,aav (x1:=(l,name,((i+1:Nat):Int))),ih (i+1) (by omega) (by omega)]
    rw [Bool.not_eq_true] at hp
    simp only [S63_3step,S63_3,adj,aaa,hlt,decide_true,cond_true,Int.toNat_natCast,e,hp,cond_false,avn (i:=i) (by omega)]
  ·rw [List.drop_eq_nil_of_le (by omega)]
   exact aai (by simp only [S63_3step,S63_3,adj,hlt,decide_false,cond_false];rfl)
theorem asa (l:List PV) (name:List UInt8) (hl:l.length<=1048576):F63 0 l name=some (idxN l name):=by
 have h:=aof l name hl l.length 0 (by omega) (by omega)
 unfold F63
 rw [af2,show (0:Int)=((0:Nat):Int) from rfl,h,List.drop_zero]
 unfold idxN
 by_cases h0:ace (ac0 name) l 0=-1
 ·rw [decide_eq_true h0,h0];rfl
 ·rw [decide_eq_false h0];rfl
def a04:PV:=PV.agg [(PV.int (0:Int)),(PV.int (0:Int)),(PV.str ([]:List UInt8)),(PV.slice []),(PV.slice []),(PV.slice []),(PV.slice [])]
def arf (l:List PV) (name:List UInt8):PV×Bool:=bif decide (idxN l name<0) then (a04,false) else (nVal (l.getD (idxN l name).toNat .bad),true)
theorem awm (l:List PV) (name:List UInt8):decide (idxN l name<0)=false->aab (idxN l name) l.length=true:=by
 intro h
 rcases auu (p:=ac0 name) (l:=l) with h1 | ⟨j,h1,h2,_⟩
 ·rw [show idxN l name=ace (ac0 name) l 0 from rfl,decide_eq_true h1] at h;cases h
 ·rw [show idxN l name=(j:Int) from h1,aaa,decide_eq_true h2]
theorem a0d (l:List PV) (name:List UInt8) (hl:l.length<=1048576):F53 0 l name=some (arf l name):=by
 unfold F53 arf
 rw [ayx l name hl,Option.bind_some]
 cases h:decide (idxN l name<0) with
 | true=>rfl
 | false=>rw [awm l name h];rfl
theorem amy (l:List PV) (name:List UInt8) (hl:l.length<=1048576):F38 0 l name=some (arf l name):=by
 unfold F38 arf
 rw [asa l name hl,Option.bind_some]
 cases h:decide (idxN l name<0) with
 | true=>rfl
 | false=>rw [awm l name h];rfl
theorem a0e (l:List PV) (name:List UInt8) (hl:l.length<=1048576):F28 0 l name=F22 0 l name:=by
 unfold F28 F22
 rw [a0d l name hl,amy l name hl]
end Go.Ab
namespace Go.Ab
open Go
set_option maxRecDepth 100000
def depS:List UInt8:=[100,101,112,114,101,99,97,116,101,100]
def adb (l:List PV):Bool:=bif (bif (arf l depS).2 then (((arf l depS).1.fld 0).asInt==(1:Int)) else false) then (((arf l depS).1.fld 1).asInt==(1:Int)) else false
theorem ald {l:List PV} (hl:l.length<=1048576):F22 0 l depS=some (adb l):=by
 unfold F22
 rw [amy l depS hl]
 rfl
theorem aj2 {l:List PV} (hl:l.length<=1048576):F28 0 l depS=some (adb l):=(a0e l depS hl).trans (ald hl)
theorem aen {κ:Type} [BEq κ] [LawfulBEq κ] {key:PV->κ}{l:List PV}{z x:PV}{k:κ} (u:(l.map key).Nodup) (hx:x∈l) (hk:key x=k):dmem key k l z=(x,true):=by
 subst hk
 unfold dmem
 rw [ays u hx]
theorem ahf {κ:Type} [BEq κ] {P:PV->Prop}{key:PV->κ}{l:List PV}{z:PV}{k:κ} (h:∀ x,x∈l->P x) (hz:P z):P (dmem key k l z).1:=by
 unfold dmem
 cases h1:fst key k l with
 | some x=>exact h x (awj h1)
 | none=>exact hz
theorem ay4 {σ τ α:Type}{step:σ->Option (σ⊕τ)} (st:Nat->σ) (xs:List α) (p:α->Bool) (hit:Nat->α->τ) (miss:τ)
 (hgo:∀ i (hi:i<xs.length),step (st i)=some (bif p xs[i] then .inr (hit i xs[i]) else .inl (st (i+1)))) (hend:step (st xs.length)=some (.inr miss)):
 ∀ k i,i+k=xs.length->∃ j,abv step (st i)=some (match (xs.drop i).find? p with | some x=>hit j x | none=>miss):=by
 intro k
 induction k with
 | zero=>
  intro i hi
  have:i=xs.length:=by omega
  subst this
  rw [aai hend]
  exact ⟨0,by simp⟩
 | succ k ih=>
  intro i hi
  have hlt:i<xs.length:=by omega
  have hg:=hgo i hlt
  rw [List.drop_eq_getElem_cons hlt,List.find?_cons]
  cases hp:p xs[i] with
  | true=>
   rw [hp] at hg
   exact ⟨i,by rw [aai hg]⟩
  | false=>
   rw [hp] at hg
   obtain ⟨j,hj⟩:=ih (i+1) (by omega)
   exact ⟨j,by rw [aav hg];exact hj⟩
theorem axq (a:PV) (n:List UInt8) (h:(a.fld 0).asList.length<=1048576):∃ j,F23 0 a n=some ((dmem aak n (a.fld 0).asList zMsg).1,j):=by
 obtain ⟨j,h1⟩:=ay4 (step:=S23_3step 0) (fun i=>(n,(),(),((i:Nat):Int),a,zMsg)) (a.fld 0).asList (fun x=>aak x==n) (fun i x=>.inl ((),((i:Nat):Int),a,x)) (.inr ((),a,zMsg)) (fun i hi=>by
  simp only [S23_3step,S23_3,decL i _ hi,cond_true,aaa,decide_eq_true hi,Int.toNat_natCast,aaf hi,aa5 i (by omega),aak]
  cases ((((a.fld 0).asList)[i]).fld 0).asStr==n<;>rfl) (by
  simp only [S23_3step,S23_3,decN,cond_false]) (a.fld 0).asList.length 0 (by omega)
 rw [List.drop_zero] at h1
 have h2:aag 0 (S23_3step 0) (n,(),(),(0:Int),a,zMsg)=_:=h1
 unfold F23
 change ∃ j,(Option.bind (aag 0 (S23_3step 0) (n,(),(),(0:Int),a,zMsg)) _)=_
 rw [h2]
 unfold dmem fst
 cases (a.fld 0).asList.find? (fun x=>aak x==n) with
 | none=>exact ⟨_,rfl⟩
 | some x=>exact ⟨_,rfl⟩
theorem a0c {s:PV} (hs:SOk s) (bs:aac s<=1048576):∃ v,F5 0 s=some v/\(v=true->SchemaV s):=by
 obtain ⟨v,v1,v2⟩:=ax9 hs bs
 unfold F5
 generalize (bif (bif (decide ((((s.fld 0).asList).length:Int)<=(8:Int))) then (decide ((((s.fld 1).asList).length:Int)<=(8:Int))) else false) then (decide ((((s.fld 2).asList).length:Int)<=(8:Int))) else false)=x
 cases x with
 | false=>exact ⟨false,rfl,fun h=>by cases h⟩
 | true=>
  refine ⟨v,?_,v2⟩
  simp only [cond_true,v1,Option.bind_some]
end Go.Ab
