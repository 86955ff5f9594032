/- format.every: all elements of a list pass a test. -/
import Derived.Test.YtodichgnoiaanaaGreatPName0T
import Derived.Test.YtodichgnoiaanaaGreatPValsT
set_option linter.unusedVariables false
set_option linter.unusedSimpArgs false
set_option linter.unnecessarySimpa false
namespace Go.Ab
open Go
set_option maxRecDepth 100000
end Go.Ab
namespace Go.Ab
open Go
set_option maxRecDepth 100000
theorem azd {α:Type} (p:α->Bool):∀ (l:List α) (b:Bool),l.foldl (fun b x=>b&&p x) b=(b&&l.all p):=by
 intro l
 induction l with
 | nil=>intro b;simp
 | cons x r ih=>intro b;rw [List.foldl_cons,ih,List.all_cons,Bool.and_assoc]
theorem abl {σ τ α:Type}{step:σ->Option (σ⊕τ)} (mk:Nat->Bool->σ) (out:Bool->τ) (xs:List α) (d:α) (p:α->Bool)
 (hstep:∀ i b,i<xs.length->step (mk i b)=some (.inl (mk (i+1) (b&&p (xs.getD i d))))) (hend:∀ b,step (mk xs.length b)=some (.inr (out b))) (b:Bool):aay step (mk 0 b)=some (out (b&&xs.all p)):=by
 have h:=aa2 mk out xs d (fun b x=>b&&p x) (fun _ _=>True) (fun i b hi _=>⟨hstep i b hi,trivial⟩) (fun b _=>hend b) xs.length 0 b (by omega) trivial
 rw [List.drop_zero,azd] at h
 exact h.1
theorem kind8 {k:Int} (h:1<=k) (h2:k<=8):k=1∨k=2∨k=3∨k=4∨k=5∨k=6∨k=7∨k=8:=by omega
theorem a5o {k:Int} (h:k<1∨8<k):(bif (decide (k<(1:Int))) then true else (decide (k>(8:Int))))=true:=by
 rcases h with h | h
 ·rw [decide_eq_true h];rfl
 ·rw [decide_eq_false (by omega),decide_eq_true (by omega)];rfl
noncomputable def kw (k:Int):List UInt8:=(F169 0 k).getD []
theorem az0 {k:Int} (h:k<1∨8<k):F169 0 k=some []:=by
 unfold F169
 rw [a5o h]
 rfl
theorem alb (k:Int):F169 0 k=some (kw k):=by
 unfold kw
 by_cases h:k<1∨8<k
 ·rw [az0 h];rfl
 ·rcases kind8 (k:=k) (by omega) (by omega) with rfl | rfl | rfl | rfl | rfl | rfl | rfl | rfl<;>kernel_rfl
theorem a5n:((List.range 8).all fun i=>Nat.ble (kw ((i:Int)+1)).length 10&&!(kw ((i:Int)+1)==[]))=true:=by kernel_rfl
theorem a4c {k:Int} (h:¬(k<1∨8<k)):(kw k).length<=10/\kw k≠[]:=by
 obtain ⟨i,hi,rfl⟩:∃ i:Nat,i<8/\k=(i:Int)+1:=⟨(k-1).toNat,by omega,by omega⟩
 have:=List.all_eq_true.1 a5n i (List.mem_range.2 hi)
 simp only [Bool.and_eq_true,Nat.ble_eq,Bool.not_eq_true',beq_eq_false_iff_ne] at this
 exact this
theorem azz (k:Int):(kw k).length<=10:=by
 by_cases h:k<1∨8<k
 ·unfold kw
  rw [az0 h];simp
 ·exact (a4c h).1
def aok (k:Int):Bool:=decide (1<=k)&&decide (k<=8)
theorem a4d (k:Int):(!(kw k==([]:List UInt8)))=aok k:=by
 unfold aok
 by_cases h:k<1∨8<k
 ·unfold kw
  rw [az0 h]
  rcases h with h | h
  ·rw [decide_eq_false (by omega)];rfl
  ·rw [decide_eq_false (show ¬k<=8 by omega)];simp
 ·rw [decide_eq_true (show 1<=k by omega),decide_eq_true (show k<=8 by omega),beq_eq_false_iff_ne.2 (a4c h).2];rfl
noncomputable def noKw (s:List UInt8):Bool:=allF (fun i=>!(kw ((i:Int)+1)==s)) 0 8
theorem aqe (t:PV):aay (S148_5step 0) ((),(1:Int),t)=some (bif noKw (t.fld 1).asStr then .inr ((),t) else .inl (false,t)):=by
 have h:=acr (step:=S148_5step 0) (fun i=>((),(i:Int)+1,t)) 8 (fun i=>!(kw ((i:Int)+1)==(t.fld 1).asStr)) (Sum.inl (false,t):(Bool×PV)⊕(Unit×PV)) (Sum.inr ((),t)) (fun i hi=>by
  have h8:decide ((i:Int)+1<=(8:Int))=true:=decide_eq_true (by omega)
  have hww:IntKind.wrap .i64 ((i:Int)+1+(1:Int))=((i+1:Nat):Int)+1:=by rw [a1p (by omega) (by omega)];omega
  simp only [S148_5step,S148_5,h8,cond_true,alb,Option.bind_some,hww,beqC (t.fld 1).asStr]
  cases (kw ((i:Int)+1)==(t.fld 1).asStr)<;>rfl) rfl 8 0 (by omega)
 exact h
theorem ajv (s:List UInt8) (hs:s.length<=1048576):F149 0 s=some (aqf s):=by
 unfold F149
 cases s with
 | nil=>simp only [adi ([]:List UInt8) (by simp)];rfl
 | cons c r=>
  have e0:((c::r)==([]:List UInt8))=false:=rfl
  have e1:aaa (0:Int) (c::r).length=true:=by rw [show (0:Int)=((0:Nat):Int) from rfl,aab];simp
  have e2:((((c::r).getD (0:Int).toNat 0).toNat:Int)==(46:Int))=(c==46):=(eqB c.toNat 46).trans (a4w c 46)
  have e3:decide ((0:Int)<=(1:Int)/\(1:Int)<=((c::r).length:Int)/\((c::r).length:Int)<=((c::r).length:Int))=true:=decide_eq_true (by simp only [List.length_cons];omega)
  have e5:(((c::r).take ((c::r).length:Int).toNat).drop (1:Int).toNat)=r:=by
   rw [Int.toNat_natCast,List.take_length];rfl
  simp only [List.length_cons] at hs
  simp only [e0,e1,e2,e3,e5,imp,Bool.not_false,cond_true,adi r (by omega),adi (c::r) (by simp;omega),Option.bind_some,aqf]
  cases (c==46)<;>rfl
noncomputable def tnP (t:PV):Bool:=bif aok (t.fld 0).asInt then (t.fld 1).asStr==[] else aqf (t.fld 1).asStr&&noKw (t.fld 1).asStr
theorem anv (t:PV) (hs:(t.fld 1).asStr.length<=1048576):F148 0 t=some (tnP t):=by
 unfold F148 tnP
 simp only [alb,Option.bind_some,a4d,aa9,aqe,ajv _ hs]
 cases aok (t.fld 0).asInt with
 | true=>rfl
 | false=>
  cases noKw (t.fld 1).asStr with
  | false=>simp [sumE]
  | true=>simp [sumE];rw [ajv _ hs]
structure OkFld (x:PV):Prop where
 name:(x.fld 1).asStr.length<=1048576
 type:((x.fld 4).fld 1).asStr.length<=1048576
 union:(x.fld 5).asStr.length<=1048576
 dflt:adu (x.fld 7)
 notes:(x.fld 8).asList.length<=1048576
 note:∀ n,n∈(x.fld 8).asList->acv n
structure OkMsg (m:PV):Prop where
 name:(m.fld 0).asStr.length<=1048576
 fields:(m.fld 1).asList.length<=1048576
 field:∀ x,x∈(m.fld 1).asList->OkFld x
 spans:(m.fld 2).asList.length<=1048576
 gone:(m.fld 3).asList.length<=1048576
 goneS:∀ x,x∈(m.fld 3).asList->x.asStr.length<=1048576
 notes:(m.fld 4).asList.length<=1048576
 note:∀ n,n∈(m.fld 4).asList->acv n
structure OkItem (x:PV):Prop where
 name:(x.fld 0).asStr.length<=1048576
 notes:(x.fld 2).asList.length<=1048576
 note:∀ n,n∈(x.fld 2).asList->acv n
structure OkEnum (m:PV):Prop where
 name:(m.fld 0).asStr.length<=1048576
 items:(m.fld 2).asList.length<=1048576
 item:∀ x,x∈(m.fld 2).asList->OkItem x
 spans:(m.fld 3).asList.length<=1048576
 notes:(m.fld 4).asList.length<=1048576
 note:∀ n,n∈(m.fld 4).asList->acv n
structure OkMeth (x:PV):Prop where
 name:(x.fld 0).asStr.length<=1048576
 inn:(x.fld 1).asStr.length<=1048576
 out:(x.fld 2).asStr.length<=1048576
 notes:(x.fld 4).asList.length<=1048576
 note:∀ n,n∈(x.fld 4).asList->acv n
structure OkSvc (m:PV):Prop where
 name:(m.fld 0).asStr.length<=1048576
 meths:(m.fld 1).asList.length<=1048576
 meth:∀ x,x∈(m.fld 1).asList->OkMeth x
 notes:(m.fld 2).asList.length<=1048576
 note:∀ n,n∈(m.fld 2).asList->acv n
def acu (l:List PV) (i:Nat):Nat:=(l.map fun m=>(m.fld i).asList.length+1).sum
structure OkFile (f:PV):Prop where
 space:(f.fld 1).asStr.length<=1048576
 imports:(f.fld 2).asList.length<=1048576
 importS:∀ x,x∈(f.fld 2).asList->x.asStr.length<=1048576
 msgs:(f.fld 3).asList.length<=1048576
 msg:∀ x,x∈(f.fld 3).asList->OkMsg x
 enums:(f.fld 4).asList.length<=1048576
 enum:∀ x,x∈(f.fld 4).asList->OkEnum x
 svcs:(f.fld 5).asList.length<=1048576
 svc:∀ x,x∈(f.fld 5).asList->OkSvc x
 many:acu (f.fld 3).asList 1+acu (f.fld 4).asList 2+acu (f.fld 5).asList 1<=7000000
noncomputable def a3e (x:PV):Bool:=ajo (x.fld 1).asStr&&((x.fld 5).asStr==[]||ajo (x.fld 5).asStr)&&tnP (x.fld 4)
noncomputable def a5x (m:PV):Bool:=defP (m.fld 0).asStr&&(m.fld 1).asList.all a3e
noncomputable def a0k (x:PV):Bool:=ajo (x.fld 0).asStr
noncomputable def a0j (m:PV):Bool:=defP (m.fld 0).asStr&&(m.fld 2).asList.all a0k
def strm:List UInt8:=[115,116,114,101,97,109]
noncomputable def avz (x:PV):Bool:=ajo (x.fld 0).asStr&&aqf (x.fld 1).asStr&&aqf (x.fld 2).asStr&&!((x.fld 1).asStr==strm)&&!((x.fld 2).asStr==strm)
noncomputable def a5y (m:PV):Bool:=defP (m.fld 0).asStr&&(m.fld 1).asList.all avz
noncomputable def aoe (f:PV):Bool:=((f.fld 1).asStr==[]||defP (f.fld 1).asStr)&&(f.fld 3).asList.all a5x&&(f.fld 4).asList.all a0j&&(f.fld 5).asList.all a5y
theorem ajf (f m:PV) (i:Int) (h:∀ x,x∈(m.fld 1).asList->OkFld x) (hl:(m.fld 1).asList.length<=1048576) (b:Bool):
 aay (S118_9step 0) ((),b,i,(),(0:Int),f,m)=some ((),b&&(m.fld 1).asList.all a3e,i,f,m):=
 abl (step:=S118_9step 0) (fun k b=>((),b,i,(),(k:Int),f,m)) (fun b=>((),b,i,f,m)) (m.fld 1).asList .bad a3e (fun k b hk=>by
  have ho:=h _ (aax hk .bad)
  have h1:=agz ((((m.fld 1).asList.getD k .bad).fld 1).asStr) (by have:=ho.name;omega)
  have h2:=agz ((((m.fld 1).asList.getD k .bad).fld 5).asStr) (by have:=ho.union;omega)
  have h3:=anv ((((m.fld 1).asList.getD k .bad).fld 4)) ho.type
  simp only [S118_9step,S118_9,aat,aab,hk,decide_true,cond_true,Int.toNat_natCast,h1,h2,h3,Option.bind_some,abr (i:=k) (by omega)]
  unfold a3e
  generalize ajo (((m.fld 1).asList.getD k .bad).fld 1).asStr=a
  generalize ajo (((m.fld 1).asList.getD k .bad).fld 5).asStr=c
  generalize ((((m.fld 1).asList.getD k .bad).fld 5).asStr==([]:List UInt8))=d
  generalize tnP (((m.fld 1).asList.getD k .bad).fld 4)=e
  cases b<;>cases a<;>cases c<;>cases d<;>cases e<;>rfl) (fun b=>by
  simp only [S118_9step,S118_9,aat,Nat.lt_irrefl,decide_false,cond_false]) b
theorem ajg (f:PV) (h:OkFile f) (b:Bool):aay (S118_4step 0) ((),b,(0:Int),f)=some ((),b&&(f.fld 3).asList.all a5x,f):=
 abl (step:=S118_4step 0) (fun k b=>((),b,(k:Int),f)) (fun b=>((),b,f)) (f.fld 3).asList .bad a5x (fun k b hk=>by
  have ho:=h.msg _ (aax hk .bad)
  have hl:=h.msgs
  simp only [S118_4step,S118_4,aat,aab,hk,decide_true,cond_true,Int.toNat_natCast,ag7 _ ho.name,Option.bind_some]
  cases b with
  | false=>
   simp only [cond_false,Option.bind_some,aa9,ajf f _ _ ho.field ho.fields,abr (i:=k) (by omega),Bool.false_and]
  | true=>
   simp only [cond_true,Option.bind_some,aa9,ajf f _ _ ho.field ho.fields,abr (i:=k) (by omega),Bool.true_and]
   rfl) (fun b=>by
  simp only [S118_4step,S118_4,aat,Nat.lt_irrefl,decide_false,cond_false]) b
theorem ahy (f:PV) (i:Nat) (hi:i<(f.fld 4).asList.length) (h:OkEnum ((f.fld 4).asList.getD i .bad)) (b:Bool):
 aay (S118_18step 0) ((),b,(i:Int),(0:Int),f)=some ((),b&&(((f.fld 4).asList.getD i .bad).fld 2).asList.all a0k,(i:Int),f):=
 abl (step:=S118_18step 0) (fun k b=>((),b,(i:Int),(k:Int),f)) (fun b=>((),b,(i:Int),f)) (((f.fld 4).asList.getD i .bad).fld 2).asList .bad a0k (fun k b hk=>by
  have ho:=h.item _ (aax hk .bad)
  have hl:=h.items
  have h1:=agz (((((f.fld 4).asList.getD i .bad).fld 2).asList.getD k .bad).fld 0).asStr (by have:=ho.name;omega)
  simp only [S118_18step,S118_18,aat,aab,hi,hk,decide_true,cond_true,Int.toNat_natCast,h1,Option.bind_some,abr (i:=k) (by omega),imp]
  cases b<;>rfl) (fun b=>by
  simp only [S118_18step,S118_18,aat,aab,hi,decide_true,cond_true,Int.toNat_natCast,Nat.lt_irrefl,decide_false,cond_false]) b
theorem ahx (f:PV) (h:OkFile f) (b:Bool):aay (S118_14step 0) ((),b,(0:Int),f)=some ((),b&&(f.fld 4).asList.all a0j,f):=
 abl (step:=S118_14step 0) (fun k b=>((),b,(k:Int),f)) (fun b=>((),b,f)) (f.fld 4).asList .bad a0j (fun k b hk=>by
  have ho:=h.enum _ (aax hk .bad)
  have hl:=h.enums
  simp only [S118_14step,S118_14,aat,aab,hk,decide_true,cond_true,Int.toNat_natCast,ag7 _ ho.name,Option.bind_some,imp]
  cases b with
  | false=>simp only [cond_false,Bool.not_false,cond_true,Option.bind_some,aa9,ahy f k hk ho,abr (i:=k) (by omega),Bool.false_and]
  | true=>
   simp only [cond_true,Option.bind_some,aa9,ahy f k hk ho,abr (i:=k) (by omega),Bool.true_and]
   rfl) (fun b=>by
  simp only [S118_14step,S118_14,aat,Nat.lt_irrefl,decide_false,cond_false]) b
theorem ahz (f:PV) (i:Nat) (hi:i<(f.fld 5).asList.length) (h:OkSvc ((f.fld 5).asList.getD i .bad)) (b:Bool):
 aay (S118_26step 0) ((),b,(i:Int),(0:Int),f)=some ((),b&&(((f.fld 5).asList.getD i .bad).fld 1).asList.all avz,(i:Int),f):=
 abl (step:=S118_26step 0) (fun k b=>((),b,(i:Int),(k:Int),f)) (fun b=>((),b,(i:Int),f)) (((f.fld 5).asList.getD i .bad).fld 1).asList .bad avz (fun k b hk=>by
  have ho:=h.meth _ (aax hk .bad)
  have hl:=h.meths
  have h1:=agz (((((f.fld 5).asList.getD i .bad).fld 1).asList.getD k .bad).fld 0).asStr (by have:=ho.name;omega)
  simp only [S118_26step,S118_26,aat,aab,hi,hk,decide_true,cond_true,Int.toNat_natCast,h1,ajv _ ho.inn,ajv _ ho.out,Option.bind_some,abr (i:=k) (by omega)]
  unfold avz strm
  generalize ajo (((((f.fld 5).asList.getD i .bad).fld 1).asList.getD k .bad).fld 0).asStr=a
  generalize aqf (((((f.fld 5).asList.getD i .bad).fld 1).asList.getD k .bad).fld 1).asStr=c
  generalize aqf (((((f.fld 5).asList.getD i .bad).fld 1).asList.getD k .bad).fld 2).asStr=d
  generalize ((((((f.fld 5).asList.getD i .bad).fld 1).asList.getD k .bad).fld 1).asStr==([115,116,114,101,97,109]:List UInt8))=e
  generalize ((((((f.fld 5).asList.getD i .bad).fld 1).asList.getD k .bad).fld 2).asStr==([115,116,114,101,97,109]:List UInt8))=g
  cases b<;>cases a<;>cases c<;>cases d<;>cases e<;>cases g<;>rfl) (fun b=>by
  simp only [S118_26step,S118_26,aat,aab,hi,decide_true,cond_true,Int.toNat_natCast,Nat.lt_irrefl,decide_false,cond_false]) b
theorem ajh (f:PV) (h:OkFile f) (b:Bool):aay (S118_22step 0) ((),b,(0:Int),f)=some (b&&(f.fld 5).asList.all a5y,f):=
 abl (step:=S118_22step 0) (fun k b=>((),b,(k:Int),f)) (fun b=>(b,f)) (f.fld 5).asList .bad a5y (fun k b hk=>by
  have ho:=h.svc _ (aax hk .bad)
  have hl:=h.svcs
  simp only [S118_22step,S118_22,aat,aab,hk,decide_true,cond_true,Int.toNat_natCast,ag7 _ ho.name,Option.bind_some,imp]
  cases b with
  | false=>simp only [cond_false,Bool.not_false,cond_true,Option.bind_some,aa9,ahz f k hk ho,abr (i:=k) (by omega),Bool.false_and]
  | true=>
   simp only [cond_true,Option.bind_some,aa9,ahz f k hk ho,abr (i:=k) (by omega),Bool.true_and]
   rfl) (fun b=>by
  simp only [S118_22step,S118_22,aat,Nat.lt_irrefl,decide_false,cond_false]) b
theorem aud (f:PV) (h:OkFile f):F118 0 f=some (aoe f):=by
 unfold F118 aoe
 simp only [ag7 _ h.space,aa9]
 cases ((f.fld 1).asStr==([]:List UInt8)) with
 | true=>simp only [Bool.not_true,cond_false,cond_true,Option.bind_some,ajg f h,ahx f h,ajh f h,Bool.true_or]
 | false=>simp only [Bool.not_false,cond_false,cond_true,Option.bind_some,ajg f h,ahx f h,ajh f h,Bool.false_or]
end Go.Ab
