/- What evolve.Compare collects. -/
import Derived.Test.YthokbeimbdnnoaaGreatDoorPVld3T
import Derived.Test.YthokbeimbdnnoaaGreatDoorPArgsT
set_option linter.unusedVariables false
set_option linter.unusedSimpArgs false
set_option linter.unnecessarySimpa false
namespace Go.Ab
open Go
set_option maxRecDepth 100000
theorem aa4 {σ τ α:Type}{step:σ->Option (σ⊕τ)} (st:Nat->List PV->σ) (xs:List α) (g:α->List PV) (out:List PV->τ) (N:Nat)
 (hgo:∀ i acc (hi:i<xs.length),acc.length+(g xs[i]).length<=N->step (st i acc)=some (.inl (st (i+1) (acc++g xs[i]))))
 (hend:∀ acc,step (st xs.length acc)=some (.inr (out acc))):
 ∀ k i acc,i+k=xs.length->acc.length+((xs.drop i).flatMap g).length<=N->aba step (st i acc)=some (out (acc++(xs.drop i).flatMap g)):=by
 intro k
 induction k with
 | zero=>
  intro i acc hi hN
  have:i=xs.length:=by omega
  subst this
  rw [aag (hend acc)]
  simp
 | succ k ih=>
  intro i acc hi hN
  have hil:i<xs.length:=by omega
  rw [List.drop_eq_getElem_cons hil,List.flatMap_cons,List.length_append] at hN
  rw [aas (hgo i acc hil (by omega)),ih (i+1) _ (by omega) (by rw [List.length_append];omega),List.drop_eq_getElem_cons hil,List.flatMap_cons,List.append_assoc]
theorem ae4 {σ τ α:Type}{step:σ->Option (σ⊕τ)} (st:Nat->σ) (xs:List α) (p:α->Bool) (hit:α->τ) (miss:τ)
 (hgo:∀ i (hi:i<xs.length),step (st i)=some (bif p xs[i] then .inr (hit xs[i]) else .inl (st (i+1)))) (hend:step (st xs.length)=some (.inr miss)):
 ∀ k i,i+k=xs.length->aba step (st i)=some (match (xs.drop i).find? p with | some x=>hit x | none=>miss):=by
 intro k
 induction k with
 | zero=>
  intro i hi
  have:i=xs.length:=by omega
  subst this
  rw [aag hend]
  simp
 | succ k ih=>
  intro i hi
  have hil:i<xs.length:=by omega
  have h:=hgo i hil
  rw [List.drop_eq_getElem_cons hil,List.find?_cons]
  cases hp:p xs[i] with
  | true=>rw [hp] at h;rw [aag h]
  | false=>rw [hp] at h;rw [aas h];exact ih (i+1) (by omega)
def chg (k:Int) (d:List UInt8) (n:Int) (o w:List UInt8):PV:=.agg [.int k,.str d,.int n,.str o,.str w]
def dif (b:Bool) (c:PV):List PV:=bif b then [c] else []
theorem ach (b:Bool) (c:PV):(dif b c).length<=1:=by cases b<;>simp [dif]
theorem cadd {l acc:List PV} (h:acc.length+l.length<=100000000):F36 0 () l acc=some (acc++l):=by
 unfold F36
 rw [decide_eq_true (show acc.length+l.length<=aam by unfold aam;omega)]
 rfl
theorem aej {k n:Int}{d o w:List UInt8}{b:Bool}{acc:List PV} (h:acc.length+1<=100000000):F153 0 () k d n o w b acc=some (acc++dif b (chg k d n o w)):=by
 unfold F153
 cases b with
 | false=>simp [dif]
 | true=>
  rw [cadd (by simpa using h)]
  rfl
def aj6 (c:Int):List UInt8:=bif c==1 then [114,101,113,117,105,114,101,100] else bif c==2 then [111,112,116,105,111,110,97,108] else bif c==3 then [112,108,97,105,110] else bif c==4 then [108,105,115,116] else bif c==5 then [109,97,112] else []
theorem as3 (c:Int):F213 0 c=some (aj6 c):=by
 unfold F213 aj6
 cases c==(1:Int)<;>cases c==(2:Int)<;>cases c==(3:Int)<;>cases c==(4:Int)<;>cases c==(5:Int)<;>rfl
def alw (c:Int):List UInt8:=bif c==1 then [117,110,97,114,121] else bif c==2 then [115,101,114,118,101,114] else bif c==3 then [99,108,105,101,110,116] else bif c==4 then [98,111,116,104] else []
theorem ap9 (c:Int):F157 0 c=some (alw c):=by
 unfold F157 alw
 cases c==(1:Int)<;>cases c==(2:Int)<;>cases c==(3:Int)<;>cases c==(4:Int)<;>rfl
theorem ahd (c:Int):(alw c).length<=6:=by
 unfold alw
 cases c==(1:Int)<;>cases c==(2:Int)<;>cases c==(3:Int)<;>cases c==(4:Int)<;>simp
theorem ao2 (c:Int):(aj6 c).length<=8:=by
 unfold aj6
 cases c==(1:Int)<;>cases c==(2:Int)<;>cases c==(3:Int)<;>cases c==(4:Int)<;>cases c==(5:Int)<;>simp
def aln (b:Bool):List UInt8:=bif b then [111,112,101,110] else [99,108,111,115,101,100]
theorem atq (b:Bool):F154 0 b=some (aln b):=by cases b<;>rfl
theorem apu (b:Bool):(aln b).length<=6:=by cases b<;>simp [aln]
noncomputable def litF (f:PV):List UInt8:=bif (f.fld 6).asBool then litT (f.fld 7) else []
theorem axs (f:PV) (h:adm (f.fld 7)):F215 0 f=some (litF f):=by
 unfold F215 litF
 rw [a5g _ h]
 cases (f.fld 6).asBool<;>rfl
theorem ati (f:PV) (h:adm (f.fld 7)):(litF f).length<=5000000:=by
 have:=a0k _ h
 unfold litF
 cases (f.fld 6).asBool<;>simp [this]
def ne5 (a b:PV):Bool:=!((a.fld 1).asStr==(b.fld 1).asStr)
def ne6 (a b:PV):Bool:=bif (((a.fld 4).fld 0).asInt != ((b.fld 4).fld 0).asInt) then true else (!(((a.fld 4).fld 1).asStr==((b.fld 4).fld 1).asStr))
def ne7 (a b:PV):Bool:=(a.fld 2).asInt != (b.fld 2).asInt
def ne8 (a b:PV):Bool:=(a.fld 3).asInt != (b.fld 3).asInt
def ne9 (a b:PV):Bool:=!((a.fld 5).asStr==(b.fld 5).asStr)
def ne10 (a b:PV):Bool:=bif (bif (bif (!((a.fld 6).asBool==(b.fld 6).asBool)) then true else (((a.fld 7).fld 0).asInt != ((b.fld 7).fld 0).asInt)) then true else (((a.fld 7).fld 1).asInt != ((b.fld 7).fld 1).asInt)) then true else (!(((a.fld 7).fld 2).asStr==((b.fld 7).fld 2).asStr))
noncomputable def aew (d:List UInt8) (a b:PV):List PV:=
 dif (ne5 a b) (chg 5 d (a.fld 0).asInt (a.fld 1).asStr (b.fld 1).asStr)++(dif (ne6 a b) (chg 6 d (a.fld 0).asInt (aj9 (a.fld 4)) (aj9 (b.fld 4)))++(dif (ne7 a b) (chg 7 d (a.fld 0).asInt (aj6 (a.fld 2).asInt) (aj6 (b.fld 2).asInt))++(dif (ne8 a b) (chg 8 d (a.fld 0).asInt (kw (a.fld 3).asInt) (kw (b.fld 3).asInt))++(dif (ne9 a b) (chg 9 d (a.fld 0).asInt (a.fld 5).asStr (b.fld 5).asStr)++dif (ne10 a b) (chg 10 d (a.fld 0).asInt (litF a) (litF b))))))
theorem awu {d:List UInt8}{a b:PV}{acc:List PV} (ha:OkFld a) (hb:OkFld b) (h:acc.length<=90000000):F152 0 () d a b acc=some (acc++aew d a b):=by
 have d1:=ach (ne5 a b) (chg 5 d (a.fld 0).asInt (a.fld 1).asStr (b.fld 1).asStr)
 have d2:=ach (ne6 a b) (chg 6 d (a.fld 0).asInt (aj9 (a.fld 4)) (aj9 (b.fld 4)))
 have d3:=ach (ne7 a b) (chg 7 d (a.fld 0).asInt (aj6 (a.fld 2).asInt) (aj6 (b.fld 2).asInt))
 have d4:=ach (ne8 a b) (chg 8 d (a.fld 0).asInt (kw (a.fld 3).asInt) (kw (b.fld 3).asInt))
 have d5:=ach (ne9 a b) (chg 9 d (a.fld 0).asInt (a.fld 5).asStr (b.fld 5).asStr)
 unfold F152
 rw [aej (by omega),Option.bind_some,ay1 _ ha.type,Option.bind_some,ay1 _ hb.type,Option.bind_some]
 rw [aej (by rw [List.length_append];change _+(dif (ne5 a b) _).length+_<=_;omega),Option.bind_some,as3,Option.bind_some,as3,Option.bind_some]
 rw [aej (by rw [List.length_append,List.length_append];change _+(dif (ne5 a b) _).length+(dif (ne6 a b) _).length+_<=_;omega),Option.bind_some,a3e,Option.bind_some,a3e,Option.bind_some]
 rw [aej (by rw [List.length_append,List.length_append,List.length_append];change _+(dif (ne5 a b) _).length+(dif (ne6 a b) _).length+(dif (ne7 a b) _).length+_<=_;omega),Option.bind_some]
 rw [aej (by rw [List.length_append,List.length_append,List.length_append,List.length_append];change _+(dif (ne5 a b) _).length+(dif (ne6 a b) _).length+(dif (ne7 a b) _).length+(dif (ne8 a b) _).length+_<=_;omega),Option.bind_some]
 dsimp only
 rw [axs _ ha.dflt,Option.bind_some,axs _ hb.dflt,Option.bind_some]
 rw [aej (by rw [List.length_append,List.length_append,List.length_append,List.length_append,List.length_append];change _+(dif (ne5 a b) _).length+(dif (ne6 a b) _).length+(dif (ne7 a b) _).length+(dif (ne8 a b) _).length+(dif (ne9 a b) _).length+_<=_;omega),Option.bind_some]
 simp only [List.append_assoc]
 rfl
theorem aum (d:List UInt8) (a b:PV):(aew d a b).length<=6:=by
 have d1:=ach (ne5 a b) (chg 5 d (a.fld 0).asInt (a.fld 1).asStr (b.fld 1).asStr)
 have d2:=ach (ne6 a b) (chg 6 d (a.fld 0).asInt (aj9 (a.fld 4)) (aj9 (b.fld 4)))
 have d3:=ach (ne7 a b) (chg 7 d (a.fld 0).asInt (aj6 (a.fld 2).asInt) (aj6 (b.fld 2).asInt))
 have d4:=ach (ne8 a b) (chg 8 d (a.fld 0).asInt (kw (a.fld 3).asInt) (kw (b.fld 3).asInt))
 have d5:=ach (ne9 a b) (chg 9 d (a.fld 0).asInt (a.fld 5).asStr (b.fld 5).asStr)
 have d6:=ach (ne10 a b) (chg 10 d (a.fld 0).asInt (litF a) (litF b))
 unfold aew
 simp only [List.length_append]
 omega
def fst {κ:Type} [BEq κ] (key:PV->κ) (k:κ) (l:List PV):Option PV:=l.find? fun x=>key x==k
def cmn {κ:Type} [BEq κ] (key:PV->κ) (both:PV->PV->List PV) (gone:PV->PV) (B:List PV) (x:PV):List PV:=match fst key (key x) B with | some y=>both x y | none=>[gone x]
def nws {κ:Type} [BEq κ] (key:PV->κ) (new:PV->PV) (A:List PV) (y:PV):List PV:=match fst key (key y) A with | some _=>[] | none=>[new y]
def kNum (x:PV):Int:=(x.fld 0).asInt
def acl (x:PV):Int:=(x.fld 1).asInt
def aaf (x:PV):List UInt8:=(x.fld 0).asStr
def dmem {κ:Type} [BEq κ] (key:PV->κ) (k:κ) (l:List PV) (z:PV):PV×Bool:=match fst key k l with | some x=>(x,true) | none=>(z,false)
theorem afm {κ:Type} [BEq κ] {key:PV->κ}{k:κ}{l:List PV}{y:PV} (h:fst key k l=some y):y∈l:=List.mem_of_find?_eq_some h
def zMsg:PV:=PV.agg [(PV.str ([]:List UInt8)),(PV.slice []),(PV.slice []),(PV.slice []),(PV.slice [])]
def zFld:PV:=PV.agg [(PV.int (0:Int)),(PV.str ([]:List UInt8)),(PV.int (0:Int)),(PV.int (0:Int)),(PV.agg [(PV.int (0:Int)),(PV.str ([]:List UInt8))]),(PV.str ([]:List UInt8)),(PV.bool false),(PV.agg [(PV.int (0:Int)),(PV.int (0:Int)),(PV.str ([]:List UInt8)),(PV.slice []),(PV.slice []),(PV.slice []),(PV.slice [])]),(PV.slice [])]
def ay9:PV:=PV.agg [(PV.str ([]:List UInt8)),(PV.bool false),(PV.slice []),(PV.slice []),(PV.slice [])]
def aza:PV:=PV.agg [(PV.str ([]:List UInt8)),(PV.int (0:Int)),(PV.slice [])]
def zSvc:PV:=PV.agg [(PV.str ([]:List UInt8)),(PV.slice []),(PV.slice [])]
def azb:PV:=PV.agg [(PV.str ([]:List UInt8)),(PV.str ([]:List UInt8)),(PV.str ([]:List UInt8)),(PV.int (0:Int)),(PV.slice [])]
theorem a1s (s:PV) (n:List UInt8) (h:(s.fld 0).asList.length<=1048576):F35 0 s n=some (dmem aaf n (s.fld 0).asList zMsg):=by
 generalize hl:(s.fld 0).asList=l at h
 have h1:=ae4 (step:=S85_3step 0) (fun i=>((),(),l,(l.length:Int),((i:Nat):Int),n,zMsg)) l (fun x=>aaf x==n) (fun x=>.inl ((),true,n,x)) (.inr ((),n,zMsg)) (fun i hi=>by
  simp only [S85_3step,S85_3,decL i _ hi,cond_true,aab,decide_eq_true hi,Int.toNat_natCast,aac hi,F86,Option.bind_some,aa7 i (by omega),aaf]
  cases ((l[i]).fld 0).asStr==n<;>rfl) (by
  simp only [S85_3step,S85_3,decN,cond_false]) l.length 0 (by omega)
 rw [List.drop_zero] at h1
 have h2:aah 0 (S85_3step 0) ((),(),l,(l.length:Int),(0:Int),n,zMsg)=_:=h1
 unfold F35 F85
 rw [hl]
 change ((Option.bind (aah 0 (S85_3step 0) ((),(),l,(l.length:Int),(0:Int),n,zMsg)) _).bind _)=_
 rw [h2]
 unfold dmem fst
 cases l.find? (fun x=>aaf x==n)<;>rfl
theorem a1p (s:PV) (n:List UInt8) (h:(s.fld 1).asList.length<=1048576):F37 0 s n=some (dmem aaf n (s.fld 1).asList ay9):=by
 generalize hl:(s.fld 1).asList=l at h
 have h1:=ae4 (step:=S87_3step 0) (fun i=>((),(),l,(l.length:Int),((i:Nat):Int),n,ay9)) l (fun x=>aaf x==n) (fun x=>.inl ((),true,n,x)) (.inr ((),n,ay9)) (fun i hi=>by
  simp only [S87_3step,S87_3,decL i _ hi,cond_true,aab,decide_eq_true hi,Int.toNat_natCast,aac hi,F88,Option.bind_some,aa7 i (by omega),aaf]
  cases ((l[i]).fld 0).asStr==n<;>rfl) (by
  simp only [S87_3step,S87_3,decN,cond_false]) l.length 0 (by omega)
 rw [List.drop_zero] at h1
 have h2:aah 0 (S87_3step 0) ((),(),l,(l.length:Int),(0:Int),n,ay9)=_:=h1
 unfold F37 F87
 rw [hl]
 change ((Option.bind (aah 0 (S87_3step 0) ((),(),l,(l.length:Int),(0:Int),n,ay9)) _).bind _)=_
 rw [h2]
 unfold dmem fst
 cases l.find? (fun x=>aaf x==n)<;>rfl
theorem a1t (s:PV) (n:List UInt8) (h:(s.fld 2).asList.length<=1048576):F38 0 s n=some (dmem aaf n (s.fld 2).asList zSvc):=by
 generalize hl:(s.fld 2).asList=l at h
 have h1:=ae4 (step:=S89_3step 0) (fun i=>((),(),l,(l.length:Int),((i:Nat):Int),n,zSvc)) l (fun x=>aaf x==n) (fun x=>.inl ((),true,n,x)) (.inr ((),n,zSvc)) (fun i hi=>by
  simp only [S89_3step,S89_3,decL i _ hi,cond_true,aab,decide_eq_true hi,Int.toNat_natCast,aac hi,F90,Option.bind_some,aa7 i (by omega),aaf]
  cases ((l[i]).fld 0).asStr==n<;>rfl) (by
  simp only [S89_3step,S89_3,decN,cond_false]) l.length 0 (by omega)
 rw [List.drop_zero] at h1
 have h2:aah 0 (S89_3step 0) ((),(),l,(l.length:Int),(0:Int),n,zSvc)=_:=h1
 unfold F38 F89
 rw [hl]
 change ((Option.bind (aah 0 (S89_3step 0) ((),(),l,(l.length:Int),(0:Int),n,zSvc)) _).bind _)=_
 rw [h2]
 unfold dmem fst
 cases l.find? (fun x=>aaf x==n)<;>rfl
theorem a1q (s:PV) (n:Int) (h:(s.fld 1).asList.length<=1048576):F129 0 s n=some (dmem kNum n (s.fld 1).asList zFld):=by
 generalize hl:(s.fld 1).asList=l at h
 have h1:=ae4 (step:=S193_3step 0) (fun i=>((),(),l,(l.length:Int),((i:Nat):Int),n,zFld)) l (fun x=>kNum x==n) (fun x=>.inl ((),true,n,x)) (.inr ((),n,zFld)) (fun i hi=>by
  simp only [S193_3step,S193_3,decL i _ hi,cond_true,aab,decide_eq_true hi,Int.toNat_natCast,aac hi,F194,Option.bind_some,aa7 i (by omega),kNum]
  cases ((l[i]).fld 0).asInt==n<;>rfl) (by
  simp only [S193_3step,S193_3,decN,cond_false]) l.length 0 (by omega)
 rw [List.drop_zero] at h1
 have h2:aah 0 (S193_3step 0) ((),(),l,(l.length:Int),(0:Int),n,zFld)=_:=h1
 unfold F129 F193
 rw [hl]
 change ((Option.bind (aah 0 (S193_3step 0) ((),(),l,(l.length:Int),(0:Int),n,zFld)) _).bind _)=_
 rw [h2]
 unfold dmem fst
 cases l.find? (fun x=>kNum x==n)<;>rfl
theorem a1r (s:PV) (n:Int) (h:(s.fld 2).asList.length<=1048576):F130 0 s n=some (dmem acl n (s.fld 2).asList aza):=by
 generalize hl:(s.fld 2).asList=l at h
 have h1:=ae4 (step:=S195_3step 0) (fun i=>((),(),l,(l.length:Int),((i:Nat):Int),n,aza)) l (fun x=>acl x==n) (fun x=>.inl ((),true,n,x)) (.inr ((),n,aza)) (fun i hi=>by
  simp only [S195_3step,S195_3,decL i _ hi,cond_true,aab,decide_eq_true hi,Int.toNat_natCast,aac hi,F196,Option.bind_some,aa7 i (by omega),acl]
  cases ((l[i]).fld 1).asInt==n<;>rfl) (by
  simp only [S195_3step,S195_3,decN,cond_false]) l.length 0 (by omega)
 rw [List.drop_zero] at h1
 have h2:aah 0 (S195_3step 0) ((),(),l,(l.length:Int),(0:Int),n,aza)=_:=h1
 unfold F130 F195
 rw [hl]
 change ((Option.bind (aah 0 (S195_3step 0) ((),(),l,(l.length:Int),(0:Int),n,aza)) _).bind _)=_
 rw [h2]
 unfold dmem fst
 cases l.find? (fun x=>acl x==n)<;>rfl
theorem firstT (s:PV) (n:List UInt8) (h:(s.fld 1).asList.length<=1048576):F155 0 s n=some (dmem aaf n (s.fld 1).asList azb):=by
 generalize hl:(s.fld 1).asList=l at h
 have h1:=ae4 (step:=S155_3step 0) (fun i=>(n,(),l,(l.length:Int),((i:Nat):Int),s,azb)) l (fun x=>aaf x==n) (fun x=>.inl ((),true,s,x)) (.inr ((),s,azb)) (fun i hi=>by
  simp only [S155_3step,S155_3,decL i _ hi,cond_true,aab,decide_eq_true hi,Int.toNat_natCast,aac hi,aa7 i (by omega),aaf]
  cases ((l[i]).fld 0).asStr==n<;>rfl) (by
  simp only [S155_3step,S155_3,decN,cond_false]) l.length 0 (by omega)
 rw [List.drop_zero] at h1
 have h2:aah 0 (S155_3step 0) (n,(),l,(l.length:Int),(0:Int),s,azb)=_:=h1
 unfold F155
 rw [hl]
 dsimp only
 change (Option.bind (aah 0 (S155_3step 0) (n,(),l,(l.length:Int),(0:Int),s,azb)) _)=_
 rw [h2]
 unfold dmem fst
 cases l.find? (fun x=>aaf x==n)<;>rfl
noncomputable def adf (a b:PV):List PV:=
 (a.fld 1).asList.flatMap (cmn kNum (aew (aaf a)) (fun f=>chg 3 (aaf a) (f.fld 0).asInt (f.fld 1).asStr []) (b.fld 1).asList)++(b.fld 1).asList.flatMap (nws kNum (fun f=>chg 4 (aaf a) (f.fld 0).asInt [] (f.fld 1).asStr) (a.fld 1).asList)
theorem awv {a b:PV}{acc:List PV} (ha:OkMsg a) (hb:OkMsg b) (h:acc.length+(adf a b).length<=90000000):F82 0 () a b acc=some (acc++adf a b):=by
 have la:=ha.fields;have lb:=hb.fields
 unfold adf at h ⊢
 rw [List.length_append] at h
 generalize hA:(a.fld 1).asList=A at h la ⊢
 generalize hB:(b.fld 1).asList=B at h lb ⊢
 have h1:=aa4 (step:=S82_3step 0) (fun i c=>((),(),(),A,(A.length:Int),((i:Nat):Int),c,a,b)) A (cmn kNum (aew (aaf a)) (fun f=>chg 3 (aaf a) (f.fld 0).asInt (f.fld 1).asStr []) B) (fun c=>((),(),(),c,a,b)) 90000000 (fun i c hi hc=>by
  have fa:OkFld A[i]:=ha.field _ (by rw [hA];exact List.getElem_mem hi)
  simp only [S82_3step,S82_3,decL i _ hi,cond_true,aab,decide_eq_true hi,Int.toNat_natCast,aac hi,a1q b _ hb.fields,Option.bind_some,aa7 i (by omega),hB]
  unfold dmem cmn
  have e:fst kNum (A[i].fld 0).asInt B=fst kNum (kNum A[i]) B:=rfl
  rw [e]
  cases hf:fst kNum (kNum A[i]) B with
  | some y=>
   have fb:OkFld y:=hb.field _ (by rw [hB];exact afm hf)
   dsimp only
   rw [cond_true,awu fa fb (by omega)]
   rfl
  | none=>
   dsimp only
   rw [cond_false,cadd (by simp only [List.length_cons,List.length_nil];omega)]
   rfl) (fun c=>by
  simp only [S82_3step,S82_3,decN,cond_false]) A.length 0 acc (Nat.zero_add _) (by rw [List.drop_zero];omega)
 rw [List.drop_zero] at h1
 have h2:=aa4 (step:=S82_11step 0) (fun i c=>((),(),B,(B.length:Int),((i:Nat):Int),c,a,b)) B (nws kNum (fun f=>chg 4 (aaf a) (f.fld 0).asInt [] (f.fld 1).asStr) A) (fun c=>(c,a,b)) 90000000 (fun i c hi hc=>by
  simp only [S82_11step,S82_11,decL i _ hi,cond_true,aab,decide_eq_true hi,Int.toNat_natCast,aac hi,a1q a _ ha.fields,Option.bind_some,aa7 i (by omega),hA]
  unfold dmem nws
  have e:fst kNum (B[i].fld 0).asInt A=fst kNum (kNum B[i]) A:=rfl
  rw [e]
  cases hf:fst kNum (kNum B[i]) A with
  | some y=>
   dsimp only
   rw [Bool.not_true,cond_false,List.append_nil]
  | none=>
   dsimp only
   rw [Bool.not_false,cond_true,cadd (by simp only [List.length_cons,List.length_nil];omega)]
   rfl) (fun c=>by
  simp only [S82_11step,S82_11,decN,cond_false]) B.length 0 (acc++A.flatMap (cmn kNum (aew (aaf a)) (fun f=>chg 3 (aaf a) (f.fld 0).asInt (f.fld 1).asStr []) B)) (Nat.zero_add _) (by rw [List.drop_zero,List.length_append];omega)
 rw [List.drop_zero] at h2
 have h1':aah 0 (S82_3step 0) ((),(),(),A,(A.length:Int),(0:Int),acc,a,b)=_:=h1
 have h2':aah 0 (S82_11step 0) ((),(),B,(B.length:Int),(0:Int),_,a,b)=_:=h2
 unfold F82
 dsimp only
 rw [hA,h1',Option.bind_some]
 dsimp only
 rw [hB,h2',Option.bind_some,List.append_assoc]
def apj (d:List UInt8) (x y:PV):List PV:=dif (!((x.fld 0).asStr==(y.fld 0).asStr)) (chg 16 d (x.fld 1).asInt (x.fld 0).asStr (y.fld 0).asStr)
def apk (a b:PV):List PV:=
 (a.fld 2).asList.flatMap (cmn acl (apj (aaf a)) (fun f=>chg 14 (aaf a) (f.fld 1).asInt (f.fld 0).asStr []) (b.fld 2).asList)++(b.fld 2).asList.flatMap (nws acl (fun f=>chg 15 (aaf a) (f.fld 1).asInt [] (f.fld 0).asStr) (a.fld 2).asList)
def an9 (a b:PV):List PV:=dif (!((a.fld 1).asBool==(b.fld 1).asBool)) (chg 13 (aaf a) (-1) (aln (a.fld 1).asBool) (aln (b.fld 1).asBool))
def ai6 (a b:PV):List PV:=an9 a b++apk a b
theorem a0f {a b:PV}{acc:List PV} (ha:OkEnum a) (hb:OkEnum b) (h:acc.length+(ai6 a b).length<=90000000):F83 0 () a b acc=some (acc++ai6 a b):=by
 have la:=ha.items;have lb:=hb.items
 unfold ai6 apk at h ⊢
 rw [List.length_append,List.length_append] at h
 have ho:=ach (!((a.fld 1).asBool==(b.fld 1).asBool)) (chg 13 (aaf a) (-1) (aln (a.fld 1).asBool) (aln (b.fld 1).asBool))
 change (an9 a b).length<=1 at ho
 unfold F83
 rw [atq,Option.bind_some,atq,Option.bind_some,aej (by omega),Option.bind_some]
 change (let x10:=(a.fld 2).asList;Option.bind (aah 0 (S83_4step 0) ((),(),(),x10,(x10.length:Int),(0:Int),acc++an9 a b,a,b)) _)=_
 dsimp only
 generalize hA:(a.fld 2).asList=A at h la ⊢
 generalize hB:(b.fld 2).asList=B at h lb ⊢
 have h1:=aa4 (step:=S83_4step 0) (fun i c=>((),(),(),A,(A.length:Int),((i:Nat):Int),c,a,b)) A (cmn acl (apj (aaf a)) (fun f=>chg 14 (aaf a) (f.fld 1).asInt (f.fld 0).asStr []) B) (fun c=>((),(),(),c,a,b)) 90000000 (fun i c hi hc=>by
  simp only [S83_4step,S83_4,decL i _ hi,cond_true,aab,decide_eq_true hi,Int.toNat_natCast,aac hi,a1r b _ hb.items,Option.bind_some,aa7 i (by omega),hB]
  unfold dmem cmn
  have e:fst acl (A[i].fld 1).asInt B=fst acl (acl A[i]) B:=rfl
  rw [e]
  cases hf:fst acl (acl A[i]) B with
  | some y=>
   dsimp only
   rw [cond_true,aej (by omega)]
   rfl
  | none=>
   dsimp only
   rw [cond_false,cadd (by simp only [List.length_cons,List.length_nil];omega)]
   rfl) (fun c=>by
  simp only [S83_4step,S83_4,decN,cond_false]) A.length 0 (acc++an9 a b) (Nat.zero_add _) (by rw [List.drop_zero,List.length_append];omega)
 rw [List.drop_zero] at h1
 have h2:=aa4 (step:=S83_12step 0) (fun i c=>((),(),B,(B.length:Int),((i:Nat):Int),c,a,b)) B (nws acl (fun f=>chg 15 (aaf a) (f.fld 1).asInt [] (f.fld 0).asStr) A) (fun c=>(c,a,b)) 90000000 (fun i c hi hc=>by
  simp only [S83_12step,S83_12,decL i _ hi,cond_true,aab,decide_eq_true hi,Int.toNat_natCast,aac hi,a1r a _ ha.items,Option.bind_some,aa7 i (by omega),hA]
  unfold dmem nws
  have e:fst acl (B[i].fld 1).asInt A=fst acl (acl B[i]) A:=rfl
  rw [e]
  cases hf:fst acl (acl B[i]) A with
  | some y=>
   dsimp only
   rw [Bool.not_true,cond_false,List.append_nil]
  | none=>
   dsimp only
   rw [Bool.not_false,cond_true,cadd (by simp only [List.length_cons,List.length_nil];omega)]
   rfl) (fun c=>by
  simp only [S83_12step,S83_12,decN,cond_false]) B.length 0 ((acc++an9 a b)++A.flatMap (cmn acl (apj (aaf a)) (fun f=>chg 14 (aaf a) (f.fld 1).asInt (f.fld 0).asStr []) B)) (Nat.zero_add _) (by rw [List.drop_zero,List.length_append,List.length_append];omega)
 rw [List.drop_zero] at h2
 have h1':aah 0 (S83_4step 0) ((),(),(),A,(A.length:Int),(0:Int),acc++an9 a b,a,b)=_:=h1
 have h2':aah 0 (S83_12step 0) ((),(),B,(B.length:Int),(0:Int),_,a,b)=_:=h2
 rw [h1',Option.bind_some]
 dsimp only
 rw [hB,h2',Option.bind_some,List.append_assoc,List.append_assoc]
def afd (m:PV):List UInt8:=(((m.fld 0).asStr++[58,32])++(m.fld 1).asStr++[32,45,62,32])++(m.fld 2).asStr
theorem atv {m:PV} (h:OkMeth m):F156 0 m=some (afd m):=by
 have h0:=h.name;have h1:=h.inn;have h2:=h.out
 unfold F156
 dsimp only
 rw [decide_eq_true (show (m.fld 0).asStr.length+([58,32]:List UInt8).length<=abe by simp only [List.length_cons,List.length_nil];unfold abe;omega),cond_true]
 rw [decide_eq_true (show ((m.fld 0).asStr++([58,32]:List UInt8)).length+(m.fld 1).asStr.length<=abe by simp only [List.length_append,List.length_cons,List.length_nil];unfold abe;omega),cond_true]
 rw [decide_eq_true (show (((m.fld 0).asStr++([58,32]:List UInt8))++(m.fld 1).asStr).length+([32,45,62,32]:List UInt8).length<=abe by simp only [List.length_append,List.length_cons,List.length_nil];unfold abe;omega),cond_true]
 rw [decide_eq_true (show ((((m.fld 0).asStr++([58,32]:List UInt8))++(m.fld 1).asStr)++([32,45,62,32]:List UInt8)).length+(m.fld 2).asStr.length<=abe by simp only [List.length_append,List.length_cons,List.length_nil];unfold abe;omega),cond_true]
 rfl
theorem am0 {m:PV} (h:OkMeth m):(afd m).length<=4000000:=by
 have h0:=h.name;have h1:=h.inn;have h2:=h.out
 unfold afd
 simp only [List.length_append,List.length_cons,List.length_nil]
 omega
def ne21 (x y:PV):Bool:=bif !((x.fld 1).asStr==(y.fld 1).asStr) then true else !((x.fld 2).asStr==(y.fld 2).asStr)
def ne22 (x y:PV):Bool:=(x.fld 3).asInt != (y.fld 3).asInt
def shT (x y:PV):List UInt8:=((x.fld 0).asStr++[58,32])++alw (y.fld 3).asInt
def an7 (d:List UInt8) (x y:PV):List PV:=dif (ne21 x y) (chg 21 d (-1) (afd x) (afd y))++dif (ne22 x y) (chg 22 d (-1) (shT x x) (shT x y))
def svcC (a b:PV):List PV:=
 (a.fld 1).asList.flatMap (cmn aaf (an7 (aaf a)) (fun f=>chg 19 (aaf a) (-1) (f.fld 0).asStr []) (b.fld 1).asList)++(b.fld 1).asList.flatMap (nws aaf (fun f=>chg 20 (aaf a) (-1) [] (f.fld 0).asStr) (a.fld 1).asList)
theorem au6 {a b:PV}{acc:List PV} (ha:OkSvc a) (hb:OkSvc b) (h:acc.length+(svcC a b).length<=90000000):F84 0 () a b acc=some (acc++svcC a b):=by
 have la:=ha.meths;have lb:=hb.meths
 unfold svcC at h ⊢
 rw [List.length_append] at h
 generalize hA:(a.fld 1).asList=A at h la ⊢
 generalize hB:(b.fld 1).asList=B at h lb ⊢
 have h1:=aa4 (step:=S84_3step 0) (fun i c=>((),(),(),A,(A.length:Int),((i:Nat):Int),c,a,b)) A (cmn aaf (an7 (aaf a)) (fun f=>chg 19 (aaf a) (-1) (f.fld 0).asStr []) B) (fun c=>((),(),(),c,a,b)) 90000000 (fun i c hi hc=>by
  have fa:OkMeth A[i]:=ha.meth _ (by rw [hA];exact List.getElem_mem hi)
  have fa0:=fa.name
  simp only [S84_3step,S84_3,decL i _ hi,cond_true,aab,decide_eq_true hi,Int.toNat_natCast,aac hi,firstT b _ hb.meths,Option.bind_some,aa7 i (by omega),hB]
  unfold dmem cmn
  have e:fst aaf (A[i].fld 0).asStr B=fst aaf (aaf A[i]) B:=rfl
  rw [e]
  cases hf:fst aaf (aaf A[i]) B with
  | some y=>
   have fb:OkMeth y:=hb.meth _ (by rw [hB];exact afm hf)
   have d1:=ach (ne21 A[i] y) (chg 21 (aaf a) (-1) (afd A[i]) (afd y))
   have s1:=ahd (A[i].fld 3).asInt
   have s2:=ahd (y.fld 3).asInt
   dsimp only
   rw [Bool.not_true,cond_false,atv fa,Option.bind_some,atv fb,Option.bind_some,aej (by omega),Option.bind_some]
   rw [decide_eq_true (show (A[i].fld 0).asStr.length+([58,32]:List UInt8).length<=abe by simp only [List.length_cons,List.length_nil];unfold abe;omega),cond_true,ap9,Option.bind_some]
   rw [decide_eq_true (show ((A[i].fld 0).asStr++([58,32]:List UInt8)).length+(alw (A[i].fld 3).asInt).length<=abe by simp only [List.length_append,List.length_cons,List.length_nil];unfold abe;omega),cond_true,cond_true,ap9,Option.bind_some]
   rw [decide_eq_true (show ((A[i].fld 0).asStr++([58,32]:List UInt8)).length+(alw (y.fld 3).asInt).length<=abe by simp only [List.length_append,List.length_cons,List.length_nil];unfold abe;omega),cond_true]
   rw [aej (by rw [List.length_append];change c.length+(dif (ne21 A[i] y) (chg 21 (aaf a) (-1) (afd A[i]) (afd y))).length+1<=_;omega),Option.bind_some,List.append_assoc]
   rfl
  | none=>
   dsimp only
   rw [Bool.not_false,cond_true,cadd (by simp only [List.length_cons,List.length_nil];omega)]
   rfl) (fun c=>by
  simp only [S84_3step,S84_3,decN,cond_false]) A.length 0 acc (Nat.zero_add _) (by rw [List.drop_zero];omega)
 rw [List.drop_zero] at h1
 have h2:=aa4 (step:=S84_12step 0) (fun i c=>((),(),B,(B.length:Int),((i:Nat):Int),c,a,b)) B (nws aaf (fun f=>chg 20 (aaf a) (-1) [] (f.fld 0).asStr) A) (fun c=>(c,a,b)) 90000000 (fun i c hi hc=>by
  simp only [S84_12step,S84_12,decL i _ hi,cond_true,aab,decide_eq_true hi,Int.toNat_natCast,aac hi,firstT a _ ha.meths,Option.bind_some,aa7 i (by omega),hA]
  unfold dmem nws
  have e:fst aaf (B[i].fld 0).asStr A=fst aaf (aaf B[i]) A:=rfl
  rw [e]
  cases hf:fst aaf (aaf B[i]) A with
  | some y=>
   dsimp only
   rw [Bool.not_true,cond_false,List.append_nil]
  | none=>
   dsimp only
   rw [Bool.not_false,cond_true,cadd (by simp only [List.length_cons,List.length_nil];omega)]
   rfl) (fun c=>by
  simp only [S84_12step,S84_12,decN,cond_false]) B.length 0 (acc++A.flatMap (cmn aaf (an7 (aaf a)) (fun f=>chg 19 (aaf a) (-1) (f.fld 0).asStr []) B)) (Nat.zero_add _) (by rw [List.drop_zero,List.length_append];omega)
 rw [List.drop_zero] at h2
 have h1':aah 0 (S84_3step 0) ((),(),(),A,(A.length:Int),(0:Int),acc,a,b)=_:=h1
 have h2':aah 0 (S84_12step 0) ((),(),B,(B.length:Int),(0:Int),_,a,b)=_:=h2
 unfold F84
 dsimp only
 rw [hA,h1',Option.bind_some]
 dsimp only
 rw [hB,h2',Option.bind_some,List.append_assoc]
noncomputable def gM (a b:PV):List PV:=(a.fld 0).asList.flatMap (cmn aaf adf (fun m=>chg 1 (aaf m) (-1) [] []) (b.fld 0).asList)
def gE (a b:PV):List PV:=(a.fld 1).asList.flatMap (cmn aaf ai6 (fun m=>chg 11 (aaf m) (-1) [] []) (b.fld 1).asList)
def gS (a b:PV):List PV:=(a.fld 2).asList.flatMap (cmn aaf svcC (fun m=>chg 17 (aaf m) (-1) [] []) (b.fld 2).asList)
def nM (a b:PV):List PV:=(b.fld 0).asList.flatMap (nws aaf (fun m=>chg 2 (aaf m) (-1) [] []) (a.fld 0).asList)
def nE (a b:PV):List PV:=(b.fld 1).asList.flatMap (nws aaf (fun m=>chg 12 (aaf m) (-1) [] []) (a.fld 1).asList)
def nS (a b:PV):List PV:=(b.fld 2).asList.flatMap (nws aaf (fun m=>chg 18 (aaf m) (-1) [] []) (a.fld 2).asList)
noncomputable def ahh (a b:PV):List PV:=gM a b++(gE a b++gS a b)
noncomputable def raw (a b:PV):List PV:=ahh a b++(nM a b++(nE a b++nS a b))
theorem a2y {a b:PV}{acc:List PV} (ha:SOk a) (hb:SOk b) (h:acc.length+(ahh a b).length<=90000000):F34 0 () a b acc=some (acc++ahh a b):=by
 have l0:=ha.len.m;have l1:=ha.len.e;have l2:=ha.len.v
 have m0:=hb.len.m;have m1:=hb.len.e;have m2:=hb.len.v
 unfold ahh at h ⊢
 rw [List.length_append,List.length_append] at h
 have h1:=aa4 (step:=S34_3step 0) (fun i c=>((),(),(),(a.fld 0).asList,((a.fld 0).asList.length:Int),((i:Nat):Int),c,a,b)) (a.fld 0).asList (cmn aaf adf (fun m=>chg 1 (aaf m) (-1) [] []) (b.fld 0).asList) (fun c=>((),(),(),c,a,b)) 90000000 (fun i c hi hc=>by
  have fa:OkMsg (a.fld 0).asList[i]:=ha.msg _ (List.getElem_mem hi)
  simp only [S34_3step,S34_3,decL i _ hi,cond_true,aab,decide_eq_true hi,Int.toNat_natCast,aac hi,a1s b _ m0,Option.bind_some,aa7 i (by omega)]
  unfold dmem
  unfold cmn at hc ⊢
  have e:fst aaf ((a.fld 0).asList[i].fld 0).asStr (b.fld 0).asList=fst aaf (aaf (a.fld 0).asList[i]) (b.fld 0).asList:=rfl
  rw [e]
  cases hf:fst aaf (aaf (a.fld 0).asList[i]) (b.fld 0).asList with
  | some y=>
   rw [hf] at hc
   have fb:OkMsg y:=hb.msg _ (afm hf)
   dsimp only at hc ⊢
   rw [cond_true,awv fa fb hc]
   rfl
  | none=>
   dsimp only
   rw [cond_false,cadd (by simp only [List.length_cons,List.length_nil];omega)]
   rfl) (fun c=>by
  simp only [S34_3step,S34_3,decN,cond_false]) _ 0 acc (Nat.zero_add _) (by rw [List.drop_zero];change _+(gM a b).length<=_;omega)
 rw [List.drop_zero] at h1
 have h2:=aa4 (step:=S34_11step 0) (fun i c=>((),(),(),(a.fld 1).asList,((a.fld 1).asList.length:Int),((i:Nat):Int),c,a,b)) (a.fld 1).asList (cmn aaf ai6 (fun m=>chg 11 (aaf m) (-1) [] []) (b.fld 1).asList) (fun c=>((),(),(),c,a,b)) 90000000 (fun i c hi hc=>by
  have fa:OkEnum (a.fld 1).asList[i]:=ha.enum _ (List.getElem_mem hi)
  simp only [S34_11step,S34_11,decL i _ hi,cond_true,aab,decide_eq_true hi,Int.toNat_natCast,aac hi,a1p b _ m1,Option.bind_some,aa7 i (by omega)]
  unfold dmem
  unfold cmn at hc ⊢
  have e:fst aaf ((a.fld 1).asList[i].fld 0).asStr (b.fld 1).asList=fst aaf (aaf (a.fld 1).asList[i]) (b.fld 1).asList:=rfl
  rw [e]
  cases hf:fst aaf (aaf (a.fld 1).asList[i]) (b.fld 1).asList with
  | some y=>
   rw [hf] at hc
   have fb:OkEnum y:=hb.enum _ (afm hf)
   dsimp only at hc ⊢
   rw [cond_true,a0f fa fb hc]
   rfl
  | none=>
   dsimp only
   rw [cond_false,cadd (by simp only [List.length_cons,List.length_nil];omega)]
   rfl) (fun c=>by
  simp only [S34_11step,S34_11,decN,cond_false]) _ 0 (acc++gM a b) (Nat.zero_add _) (by rw [List.drop_zero,List.length_append];change _+(gE a b).length<=_;omega)
 rw [List.drop_zero] at h2
 have h3:=aa4 (step:=S34_19step 0) (fun i c=>((),(),(a.fld 2).asList,((a.fld 2).asList.length:Int),((i:Nat):Int),c,a,b)) (a.fld 2).asList (cmn aaf svcC (fun m=>chg 17 (aaf m) (-1) [] []) (b.fld 2).asList) (fun c=>(c,a,b)) 90000000 (fun i c hi hc=>by
  have fa:OkSvc (a.fld 2).asList[i]:=ha.svc _ (List.getElem_mem hi)
  simp only [S34_19step,S34_19,decL i _ hi,cond_true,aab,decide_eq_true hi,Int.toNat_natCast,aac hi,a1t b _ m2,Option.bind_some,aa7 i (by omega)]
  unfold dmem
  unfold cmn at hc ⊢
  have e:fst aaf ((a.fld 2).asList[i].fld 0).asStr (b.fld 2).asList=fst aaf (aaf (a.fld 2).asList[i]) (b.fld 2).asList:=rfl
  rw [e]
  cases hf:fst aaf (aaf (a.fld 2).asList[i]) (b.fld 2).asList with
  | some y=>
   rw [hf] at hc
   have fb:OkSvc y:=hb.svc _ (afm hf)
   dsimp only at hc ⊢
   rw [cond_true,au6 fa fb hc]
   rfl
  | none=>
   dsimp only
   rw [cond_false,cadd (by simp only [List.length_cons,List.length_nil];omega)]
   rfl) (fun c=>by
  simp only [S34_19step,S34_19,decN,cond_false]) _ 0 ((acc++gM a b)++gE a b) (Nat.zero_add _) (by rw [List.drop_zero,List.length_append,List.length_append];change _+(gS a b).length<=_;omega)
 rw [List.drop_zero] at h3
 have h1':aah 0 (S34_3step 0) ((),(),(),(a.fld 0).asList,((a.fld 0).asList.length:Int),(0:Int),acc,a,b)=some ((),(),(),acc++gM a b,a,b):=h1
 have h2':aah 0 (S34_11step 0) ((),(),(),(a.fld 1).asList,((a.fld 1).asList.length:Int),(0:Int),acc++gM a b,a,b)=some ((),(),(),(acc++gM a b)++gE a b,a,b):=h2
 have h3':aah 0 (S34_19step 0) ((),(),(a.fld 2).asList,((a.fld 2).asList.length:Int),(0:Int),(acc++gM a b)++gE a b,a,b)=some (((acc++gM a b)++gE a b)++gS a b,a,b):=h3
 unfold F34
 dsimp only
 rw [h1',Option.bind_some]
 dsimp only
 rw [h2',Option.bind_some]
 dsimp only
 rw [h3',Option.bind_some,List.append_assoc,List.append_assoc]
theorem aue {a b:PV} (ha:SOk a) (hb:SOk b) (h:(raw a b).length<=90000000):F14 0 a b=(F39 0 (raw a b)).bind fun y=>some y:=by
 have l0:=ha.len.m;have l1:=ha.len.e;have l2:=ha.len.v
 have m0:=hb.len.m;have m1:=hb.len.e;have m2:=hb.len.v
 unfold raw at h ⊢
 rw [List.length_append,List.length_append,List.length_append] at h
 have h1:=aa4 (step:=S14_5step 0) (fun i c=>((),(),(),(b.fld 0).asList,((b.fld 0).asList.length:Int),((i:Nat):Int),a,b,c)) (b.fld 0).asList (nws aaf (fun m=>chg 2 (aaf m) (-1) [] []) (a.fld 0).asList) (fun c=>((),(),(),a,b,c)) 90000000 (fun i c hi hc=>by
  simp only [S14_5step,S14_5,decL i _ hi,cond_true,aab,decide_eq_true hi,Int.toNat_natCast,aac hi,a1s a _ l0,Option.bind_some,aa7 i (by omega)]
  unfold dmem nws
  have e:fst aaf ((b.fld 0).asList[i].fld 0).asStr (a.fld 0).asList=fst aaf (aaf (b.fld 0).asList[i]) (a.fld 0).asList:=rfl
  rw [e]
  cases hf:fst aaf (aaf (b.fld 0).asList[i]) (a.fld 0).asList with
  | some y=>
   dsimp only
   rw [Bool.not_true,cond_false,List.append_nil]
  | none=>
   dsimp only
   rw [Bool.not_false,cond_true,cadd (by simp only [List.length_cons,List.length_nil];omega)]
   rfl) (fun c=>by
  simp only [S14_5step,S14_5,decN,cond_false]) _ 0 (ahh a b) (Nat.zero_add _) (by rw [List.drop_zero];change _+(nM a b).length<=_;omega)
 rw [List.drop_zero] at h1
 have h2:=aa4 (step:=S14_12step 0) (fun i c=>((),(),(),(b.fld 1).asList,((b.fld 1).asList.length:Int),((i:Nat):Int),a,b,c)) (b.fld 1).asList (nws aaf (fun m=>chg 12 (aaf m) (-1) [] []) (a.fld 1).asList) (fun c=>((),(),(),a,b,c)) 90000000 (fun i c hi hc=>by
  simp only [S14_12step,S14_12,decL i _ hi,cond_true,aab,decide_eq_true hi,Int.toNat_natCast,aac hi,a1p a _ l1,Option.bind_some,aa7 i (by omega)]
  unfold dmem nws
  have e:fst aaf ((b.fld 1).asList[i].fld 0).asStr (a.fld 1).asList=fst aaf (aaf (b.fld 1).asList[i]) (a.fld 1).asList:=rfl
  rw [e]
  cases hf:fst aaf (aaf (b.fld 1).asList[i]) (a.fld 1).asList with
  | some y=>
   dsimp only
   rw [Bool.not_true,cond_false,List.append_nil]
  | none=>
   dsimp only
   rw [Bool.not_false,cond_true,cadd (by simp only [List.length_cons,List.length_nil];omega)]
   rfl) (fun c=>by
  simp only [S14_12step,S14_12,decN,cond_false]) _ 0 (ahh a b++nM a b) (Nat.zero_add _) (by rw [List.drop_zero,List.length_append];change _+(nE a b).length<=_;omega)
 rw [List.drop_zero] at h2
 have h3:=aa4 (step:=S14_19step 0) (fun i c=>((),(),(b.fld 2).asList,((b.fld 2).asList.length:Int),((i:Nat):Int),a,b,c)) (b.fld 2).asList (nws aaf (fun m=>chg 18 (aaf m) (-1) [] []) (a.fld 2).asList) (fun c=>((),a,b,c)) 90000000 (fun i c hi hc=>by
  simp only [S14_19step,S14_19,decL i _ hi,cond_true,aab,decide_eq_true hi,Int.toNat_natCast,aac hi,a1t a _ l2,Option.bind_some,aa7 i (by omega)]
  unfold dmem nws
  have e:fst aaf ((b.fld 2).asList[i].fld 0).asStr (a.fld 2).asList=fst aaf (aaf (b.fld 2).asList[i]) (a.fld 2).asList:=rfl
  rw [e]
  cases hf:fst aaf (aaf (b.fld 2).asList[i]) (a.fld 2).asList with
  | some y=>
   dsimp only
   rw [Bool.not_true,cond_false,List.append_nil]
  | none=>
   dsimp only
   rw [Bool.not_false,cond_true,cadd (by simp only [List.length_cons,List.length_nil];omega)]
   rfl) (fun c=>by
  simp only [S14_19step,S14_19,decN,cond_false]) _ 0 ((ahh a b++nM a b)++nE a b) (Nat.zero_add _) (by rw [List.drop_zero,List.length_append,List.length_append];change _+(nS a b).length<=_;omega)
 rw [List.drop_zero] at h3
 have h1':aah 0 (S14_5step 0) ((),(),(),(b.fld 0).asList,((b.fld 0).asList.length:Int),(0:Int),a,b,ahh a b)=some ((),(),(),a,b,ahh a b++nM a b):=h1
 have h2':aah 0 (S14_12step 0) ((),(),(),(b.fld 1).asList,((b.fld 1).asList.length:Int),(0:Int),a,b,ahh a b++nM a b)=some ((),(),(),a,b,(ahh a b++nM a b)++nE a b):=h2
 have h3':aah 0 (S14_19step 0) ((),(),(b.fld 2).asList,((b.fld 2).asList.length:Int),(0:Int),a,b,(ahh a b++nM a b)++nE a b)=some ((),a,b,((ahh a b++nM a b)++nE a b)++nS a b):=h3
 unfold F14
 rw [a2y ha hb (by simp only [List.length_nil];omega),Option.bind_some,List.nil_append]
 dsimp only
 rw [h1',Option.bind_some]
 dsimp only
 rw [h2',Option.bind_some]
 dsimp only
 rw [h3',Option.bind_some,List.append_assoc,List.append_assoc]
end Go.Ab
