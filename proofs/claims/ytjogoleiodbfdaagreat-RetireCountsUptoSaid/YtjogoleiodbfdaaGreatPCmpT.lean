/- What evolve.Compare collects. -/
import Derived.Test.YtjogoleiodbfdaaGreatPVld3T
import Derived.Test.YtjogoleiodbfdaaGreatPArgsT
set_option linter.unusedVariables false
set_option linter.unusedSimpArgs false
set_option linter.unnecessarySimpa false
namespace Go.Ab
open Go
set_option maxRecDepth 100000
theorem adx {σ τ α:Type}{step:σ->Option (σ⊕τ)} (st:Nat->σ) (xs:List α) (p:α->Bool) (hit:α->τ) (miss:τ)
 (hgo:∀ i (hi:i<xs.length),step (st i)=some (bif p xs[i] then .inr (hit xs[i]) else .inl (st (i+1)))) (hend:step (st xs.length)=some (.inr miss)):
 ∀ k i,i+k=xs.length->abv step (st i)=some (match (xs.drop i).find? p with | some x=>hit x | none=>miss):=by
 intro k
 induction k with
 | zero=>
  intro i hi
  have:i=xs.length:=by omega
  subst this
  rw [aai hend]
  simp
 | succ k ih=>
  intro i hi
  have hil:i<xs.length:=by omega
  have h:=hgo i hil
  rw [List.drop_eq_getElem_cons hil,List.find?_cons]
  cases hp:p xs[i] with
  | true=>rw [hp] at h;rw [aai h]
  | false=>rw [hp] at h;rw [aav h];exact ih (i+1) (by omega)
def fst {κ:Type} [BEq κ] (key:PV->κ) (k:κ) (l:List PV):Option PV:=l.find? fun x=>key x==k
def kNum (x:PV):Int:=(x.fld 0).asInt
def adk (x:PV):Int:=(x.fld 1).asInt
def aak (x:PV):List UInt8:=(x.fld 0).asStr
def dmem {κ:Type} [BEq κ] (key:PV->κ) (k:κ) (l:List PV) (z:PV):PV×Bool:=match fst key k l with | some x=>(x,true) | none=>(z,false)
theorem awj {κ:Type} [BEq κ] {key:PV->κ}{k:κ}{l:List PV}{y:PV} (h:fst key k l=some y):y∈l:=List.mem_of_find?_eq_some h
def zMsg:PV:=PV.agg [(PV.str ([]:List UInt8)),(PV.slice []),(PV.slice []),(PV.slice []),(PV.slice [])]
def zFld:PV:=PV.agg [(PV.int (0:Int)),(PV.str ([]:List UInt8)),(PV.int (0:Int)),(PV.int (0:Int)),(PV.agg [(PV.int (0:Int)),(PV.str ([]:List UInt8))]),(PV.str ([]:List UInt8)),(PV.bool false),(PV.agg [(PV.int (0:Int)),(PV.int (0:Int)),(PV.str ([]:List UInt8)),(PV.slice []),(PV.slice []),(PV.slice []),(PV.slice [])]),(PV.slice [])]
def ab3:PV:=PV.agg [(PV.str ([]:List UInt8)),(PV.bool false),(PV.slice []),(PV.slice []),(PV.slice [])]
def al9:PV:=PV.agg [(PV.str ([]:List UInt8)),(PV.int (0:Int)),(PV.slice [])]
theorem a1h (s:PV) (n:List UInt8) (h:(s.fld 0).asList.length<=1048576):F27 0 s n=some (dmem aak n (s.fld 0).asList zMsg):=by
 generalize hl:(s.fld 0).asList=l at h
 have h1:=adx (step:=S51_3step 0) (fun i=>((),(),l,(l.length:Int),((i:Nat):Int),n,zMsg)) l (fun x=>aak x==n) (fun x=>.inl ((),true,n,x)) (.inr ((),n,zMsg)) (fun i hi=>by
  simp only [S51_3step,S51_3,decL i _ hi,cond_true,aaa,decide_eq_true hi,Int.toNat_natCast,aaf hi,F52,Option.bind_some,aa5 i (by omega),aak]
  cases ((l[i]).fld 0).asStr==n<;>rfl) (by
  simp only [S51_3step,S51_3,decN,cond_false]) l.length 0 (by omega)
 rw [List.drop_zero] at h1
 have h2:aag 0 (S51_3step 0) ((),(),l,(l.length:Int),(0:Int),n,zMsg)=_:=h1
 unfold F27 F51
 rw [hl]
 change ((Option.bind (aag 0 (S51_3step 0) ((),(),l,(l.length:Int),(0:Int),n,zMsg)) _).bind _)=_
 rw [h2]
 unfold dmem fst
 cases l.find? (fun x=>aak x==n)<;>rfl
theorem a1f (s:PV) (n:List UInt8) (h:(s.fld 1).asList.length<=1048576):F82 0 s n=some (dmem aak n (s.fld 1).asList ab3):=by
 generalize hl:(s.fld 1).asList=l at h
 have h1:=adx (step:=S117_3step 0) (fun i=>((),(),l,(l.length:Int),((i:Nat):Int),n,ab3)) l (fun x=>aak x==n) (fun x=>.inl ((),true,n,x)) (.inr ((),n,ab3)) (fun i hi=>by
  simp only [S117_3step,S117_3,decL i _ hi,cond_true,aaa,decide_eq_true hi,Int.toNat_natCast,aaf hi,F118,Option.bind_some,aa5 i (by omega),aak]
  cases ((l[i]).fld 0).asStr==n<;>rfl) (by
  simp only [S117_3step,S117_3,decN,cond_false]) l.length 0 (by omega)
 rw [List.drop_zero] at h1
 have h2:aag 0 (S117_3step 0) ((),(),l,(l.length:Int),(0:Int),n,ab3)=_:=h1
 unfold F82 F117
 rw [hl]
 change ((Option.bind (aag 0 (S117_3step 0) ((),(),l,(l.length:Int),(0:Int),n,ab3)) _).bind _)=_
 rw [h2]
 unfold dmem fst
 cases l.find? (fun x=>aak x==n)<;>rfl
theorem a1g (s:PV) (n:Int) (h:(s.fld 1).asList.length<=1048576):F29 0 s n=some (dmem kNum n (s.fld 1).asList zFld):=by
 generalize hl:(s.fld 1).asList=l at h
 have h1:=adx (step:=S54_3step 0) (fun i=>((),(),l,(l.length:Int),((i:Nat):Int),n,zFld)) l (fun x=>kNum x==n) (fun x=>.inl ((),true,n,x)) (.inr ((),n,zFld)) (fun i hi=>by
  simp only [S54_3step,S54_3,decL i _ hi,cond_true,aaa,decide_eq_true hi,Int.toNat_natCast,aaf hi,F55,Option.bind_some,aa5 i (by omega),kNum]
  cases ((l[i]).fld 0).asInt==n<;>rfl) (by
  simp only [S54_3step,S54_3,decN,cond_false]) l.length 0 (by omega)
 rw [List.drop_zero] at h1
 have h2:aag 0 (S54_3step 0) ((),(),l,(l.length:Int),(0:Int),n,zFld)=_:=h1
 unfold F29 F54
 rw [hl]
 change ((Option.bind (aag 0 (S54_3step 0) ((),(),l,(l.length:Int),(0:Int),n,zFld)) _).bind _)=_
 rw [h2]
 unfold dmem fst
 cases l.find? (fun x=>kNum x==n)<;>rfl
end Go.Ab
