/- The numbers, texts, annotations and counts of a file: the same in the program and the specification. -/
import Derived.Test.YtodichgnoiaanaaGreatPEveryT
set_option linter.unusedVariables false
set_option linter.unusedSimpArgs false
set_option linter.unnecessarySimpa false
namespace Go.Ab
open Go
set_option maxRecDepth 100000
theorem az7 (a b c d:List PV):(bif (bif (bif ((a.length:Int)==(([]:List PV).length:Int)) then ((b.length:Int)==(([]:List PV).length:Int)) else false) then ((c.length:Int)==(([]:List PV).length:Int)) else false) then ((d.length:Int)==(([]:List PV).length:Int)) else false)=decide (a.length+b.length+c.length+d.length=0):=by
 cases a<;>cases b<;>cases c<;>cases d<;>simp<;>omega
def isV (k b:Int) (s:List UInt8) (v:PV):Bool:=(aaz v==k)&&(aca v==b)&&(acp v==s)&&decide (am8 v=0)
theorem av9 (v:PV) (k b:Int) (s:List UInt8):F178 0 v (PV.agg [(PV.int k),(PV.int b),(PV.str s),(PV.slice []),(PV.slice []),(PV.slice []),(PV.slice [])])=some (isV k b s v):=by
 unfold F178 isV am8 aaz aca acp
 rw [<-az7]
 show some (bif (bif (bif (bif (bif (bif ((v.fld 0).asInt==k) then ((v.fld 1).asInt==b) else false) then ((v.fld 2).asStr==s) else false) then _ else false) then _ else false) then _ else false) then _ else false)=_
 generalize ((v.fld 0).asInt==k)=q1
 generalize ((v.fld 1).asInt==b)=q2
 generalize ((v.fld 2).asStr==s)=q3
 cases q1<;>cases q2<;>cases q3<;>rfl
noncomputable def aw6 (v:PV):Bool:=(aaz v==9)&&ajo (acp v)&&(aca v==0)&&decide (am8 v=0)
theorem avo (v:PV) (hs:adu v):F179 0 v=some (aw6 v):=by
 have e0:(v.fld 0).asInt=aaz v:=rfl
 have e2:(v.fld 2).asStr=acp v:=rfl
 unfold F179 aw6
 simp only [e0,e2,agz (acp v) (by have:=hs.2.1;omega),av9]
 unfold isV
 simp only [beq_self_eq_true,Bool.true_and]
 cases (aaz v==(9:Int))<;>cases ajo (acp v)<;>cases (aca v==(0:Int))<;>rfl
def a5z (v:PV):Int:=bif (aaz v==6)&&(af2 (aca v).toNat==0) then 9221120237041090560 else aca v
theorem au6 {v:PV} (hs:adu v):∃ u:Nat,aca v=(u:Int)/\u<18446744073709551616:=by
 obtain ⟨_,_,h0,h1⟩:=hs
 exact ⟨(aca v).toNat,(Int.toNat_of_nonneg h0).symm,by omega⟩
theorem axr (v:PV) (hs:adu v):∃ w,F142 0 v=some w/\F178 0 v w=some (a5z v==aca v):=by
 obtain ⟨u,hu,h64⟩:=au6 hs
 have e0:(v.fld 0).asInt=aaz v:=rfl
 have e1:(v.fld 1).asInt=aca v:=rfl
 have hself:F178 0 v v=some true:=by
  unfold F178
  simp
 unfold F142 a5z
 simp only [e0,e1,hu,aid u,Int.toNat_natCast]
 cases (aaz v==(6:Int)) with
 | false=>exact ⟨v,rfl,by rw [hself];simp⟩
 | true=>
  cases h:af2 u==(0:Int) with
  | false=>exact ⟨v,by simp [h],by rw [hself];simp⟩
  | true=>
   refine ⟨_,by simp [h];rfl,?_⟩
   unfold F178
   show some (bif (bif (bif (bif (bif (bif ((v.fld 0).asInt==aaz v) then ((v.fld 1).asInt==(9221120237041090560:Int)) else false) then ((v.fld 2).asStr==(v.fld 2).asStr) else false) then (((v.fld 3).asList.length:Int)==((v.fld 3).asList.length:Int)) else false) then (((v.fld 4).asList.length:Int)==((v.fld 4).asList.length:Int)) else false) then (((v.fld 5).asList.length:Int)==((v.fld 5).asList.length:Int)) else false) then (((v.fld 6).asList.length:Int)==((v.fld 6).asList.length:Int)) else false)=_
   simp only [e0,e1,hu,beq_self_eq_true,cond_true,Bool.and_self]
   rw [beqC (u:Int) _]
   cases ((9221120237041090560:Int)==(u:Int))<;>rfl
noncomputable def av6 (x:PV):Bool:=
 bif !(x.fld 6).asBool then isV 0 0 [] (x.fld 7) else bif (x.fld 2).asInt==5 then false else bif ((x.fld 4).fld 0).asInt==0 then aw6 (x.fld 7) else ado ((x.fld 4).fld 0).asInt (x.fld 7)&&(a5z (x.fld 7)==aca (x.fld 7))
theorem ar6 (x:PV) (h:OkFld x):F171 0 x=some (av6 x):=by
 obtain ⟨w,h1,h2⟩:=axr _ h.dflt
 unfold F171 av6
 simp only [av9,avo _ h.dflt,h1,ac2 _ _ h.dflt,Option.bind_some]
 cases (x.fld 6).asBool<;>cases ((x.fld 2).asInt==(5:Int))<;>cases (((x.fld 4).fld 0).asInt==(0:Int))<;>cases ado ((x.fld 4).fld 0).asInt (x.fld 7)<;>first | rfl | simp [h2]
def keyF (c k:Int):Bool:=bif c != 5 then k==0 else (decide (1<=k/\k<=5)||k==7)
theorem a2y (x:PV):F170 0 x=some (keyF (x.fld 2).asInt (x.fld 3).asInt):=by
 unfold F170 keyF
 cases ((x.fld 2).asInt != (5:Int)) with
 | true=>rfl
 | false=>
  have e:(bif (decide ((x.fld 3).asInt≥(1:Int))) then (decide ((x.fld 3).asInt<=(5:Int))) else false)=decide (1<=(x.fld 3).asInt/\(x.fld 3).asInt<=5):=by
   rw [Bool.decide_and]
   cases decide ((x.fld 3).asInt<=(5:Int))<;>simp
  simp only [cond_false,e]
  cases decide (1<=(x.fld 3).asInt/\(x.fld 3).asInt<=5)<;>rfl
def ary (x:PV):Bool:=decide (0<=(x.fld 0).asInt/\(x.fld 0).asInt<=65535/\1<=(x.fld 2).asInt/\(x.fld 2).asInt<=5/\0<=((x.fld 4).fld 0).asInt/\((x.fld 4).fld 0).asInt<=8)
def a4p (x:PV):Bool:=((x.fld 5).asStr==[])||(((x.fld 2).asInt==2)&&!(x.fld 6).asBool)
noncomputable def alf (x:PV):Bool:=ary x&&keyF (x.fld 2).asInt (x.fld 3).asInt&&a4p x&&av6 x
theorem ar3 (x:PV) (h:OkFld x):F152 0 x=some (alf x):=by
 have e:(bif (bif (bif (bif (bif (decide ((x.fld 0).asInt<(0:Int))) then true else (decide ((x.fld 0).asInt>(65535:Int)))) then true else (decide ((x.fld 2).asInt<(1:Int)))) then true else (decide ((x.fld 2).asInt>(5:Int)))) then true else (decide (((x.fld 4).fld 0).asInt<(0:Int)))) then true else (decide (((x.fld 4).fld 0).asInt>(8:Int))))=!ary x:=by
  unfold ary
  simp only [ava]
  simp only [<-Bool.decide_or,<-decide_not,decide_eq_decide]
  omega
 unfold F152 alf
 rw [e]
 simp only [a2y,ar6 x h,Option.bind_some]
 unfold a4p
 generalize ary x=q1
 generalize keyF (x.fld 2).asInt (x.fld 3).asInt=q2
 generalize ((x.fld 5).asStr==([]:List UInt8))=q5
 generalize ((x.fld 2).asInt==(2:Int))=q6
 generalize (x.fld 6).asBool=q7
 generalize av6 x=q8
 cases q1<;>cases q2<;>cases q5<;>cases q6<;>cases q7<;>cases q8<;>rfl
def un (l:List PV) (i:Nat):List UInt8:=((l.getD i .bad).fld 5).asStr
def apart (l:List PV) (i k:Nat):Bool:=(un l k==un l i)&&!(un l i==[])&&!(un l (i-1)==un l i)
def adjP (l:List PV):Bool:=allF (fun i=>allF (fun k=>!apart l i k) 0 i) 0 l.length
theorem a0s (l:List PV) (hl:l.length<=1048576) (i:Nat) (hi:i<l.length):aay (S150_6step 0) (l,(i:Int),(0:Int))=some (bif allF (fun k=>!apart l i k) 0 i then .inr (l,(i:Int)) else .inl false):=
 acr (step:=S150_6step 0) (fun k=>(l,(i:Int),(k:Int))) i (fun k=>!apart l i k) (Sum.inl false:Bool⊕(List PV×Int)) (Sum.inr (l,(i:Int))) (fun k hk=>by
  have hk2:k<l.length:=by omega
  have hw:IntKind.wrap .i64 ((i:Int)-(1:Int))=((i-1:Nat):Int):=by
   rw [show (i:Int)-1=((i-1:Nat):Int) by omega];exact ac7 (by omega)
  have hi1:i-1<l.length:=by omega
  have u1:((l.getD k .bad).fld 5).asStr=un l k:=rfl
  have u2:((l.getD i .bad).fld 5).asStr=un l i:=rfl
  have u3:((l.getD (i-1) .bad).fld 5).asStr=un l (i-1):=rfl
  simp only [S150_6step,S150_6,aat,hk,aab,hk2,hi,hi1,hw,decide_true,cond_true,Int.toNat_natCast,u1,u2,u3,abr (i:=k) (by omega),beqC (un l i) (un l k)]
  unfold apart imp
  cases (un l k==un l i)<;>cases (un l i==([]:List UInt8))<;>cases (un l (i-1)==un l i)<;>rfl) (by
  simp only [S150_6step,S150_6,aat,Nat.lt_irrefl,decide_false,cond_false]) i 0 (by omega)
theorem anq (l:List PV) (hl:l.length<=1048576):F150 0 l=some (adjP l):=by
 have h:=acr (step:=S150_3step 0) (fun i=>(l,(i:Int))) l.length (fun i=>allF (fun k=>!apart l i k) 0 i) (Sum.inl false:Bool⊕Unit) (Sum.inr ()) (fun i hi=>by
  simp only [S150_3step,S150_3,aat,hi,decide_true,cond_true,aa9,a0s l hl i hi,Option.bind_some]
  cases allF (fun k=>!apart l i k) 0 i with
  | false=>rfl
  | true=>simp only [cond_true,ab0,abr (i:=i) (by omega)]) (by
  simp only [S150_3step,S150_3,aat,Nat.lt_irrefl,decide_false,cond_false]) l.length 0 (by omega)
 unfold F150 adjP
 rw [aa9,show (0:Int)=((0:Nat):Int) from rfl,h]
 cases allF (fun i=>allF (fun k=>!apart l i k) 0 i) 0 l.length<;>rfl
def ak2 (most:Int) (x:PV):Bool:=decide (0<=(x.fld 0).asInt/\(x.fld 0).asInt<=most/\0<=(x.fld 1).asInt/\(x.fld 1).asInt<=most)
theorem amr (l:List PV) (hl:l.length<=1048576) (most:Int):F151 0 l most=some (l.all (ak2 most)):=by
 have h:=acr (step:=S151_3step 0) (fun i=>(l,most,(i:Int))) l.length (fun i=>ak2 most (l.getD i .bad)) (Sum.inl false:Bool⊕Unit) (Sum.inr ()) (fun i hi=>by
  simp only [S151_3step,S151_3,aat,aab,hi,decide_true,cond_true,Int.toNat_natCast,abr (i:=i) (by omega),imp]
  have e:∀ a b:Int,(bif (bif (bif decide (a<(0:Int)) then true else decide (a>most)) then true else decide (b<(0:Int))) then true else decide (b>most))=!decide (0<=a/\a<=most/\0<=b/\b<=most):=fun a b=>by
   simp only [ava]
   simp only [<-Bool.decide_or,<-decide_not,decide_eq_decide]
   omega
  rw [e]
  show _=some (bif decide (0<=((l.getD i .bad).fld 0).asInt/\((l.getD i .bad).fld 0).asInt<=most/\0<=((l.getD i .bad).fld 1).asInt/\((l.getD i .bad).fld 1).asInt<=most) then _ else _)
  cases decide (0<=((l.getD i .bad).fld 0).asInt/\((l.getD i .bad).fld 0).asInt<=most/\0<=((l.getD i .bad).fld 1).asInt/\((l.getD i .bad).fld 1).asInt<=most)<;>rfl) (by
  simp only [S151_3step,S151_3,aat,Nat.lt_irrefl,decide_false,cond_false]) l.length 0 (by omega)
 rw [ayd] at h
 unfold F151
 rw [aa9,show (0:Int)=((0:Nat):Int) from rfl,h]
 cases l.all (ak2 most)<;>rfl
noncomputable def aqn (m:PV):Bool:=(m.fld 1).asList.all alf&&adjP (m.fld 1).asList&&(m.fld 2).asList.all (ak2 65535)
def alg (x:PV):Bool:=decide ((x.fld 1).asInt≥0)&&decide ((x.fld 1).asInt<=2147483647)
def aoy (m:PV):Bool:=(m.fld 3).asList.all (ak2 2147483647)&&(m.fld 2).asList.all alg
def aoz (x:PV):Bool:=decide ((x.fld 3).asInt≥1)&&decide ((x.fld 3).asInt<=4)
def ayg (m:PV):Bool:=(m.fld 1).asList.all aoz
noncomputable def agf (f:PV):Bool:=(f.fld 3).asList.all aqn&&(f.fld 4).asList.all aoy&&(f.fld 5).asList.all ayg
theorem aex (f m:PV) (i:Int) (h:∀ x,x∈(m.fld 1).asList->OkFld x) (hl:(m.fld 1).asList.length<=1048576) (b:Bool):
 aay (S119_9step 0) ((),b,i,(),(0:Int),f,m)=some ((),b&&(m.fld 1).asList.all alf,i,f,m):=
 abl (step:=S119_9step 0) (fun k b=>((),b,i,(),(k:Int),f,m)) (fun b=>((),b,i,f,m)) (m.fld 1).asList .bad alf (fun k b hk=>by
  have ho:=h _ (aax hk .bad)
  simp only [S119_9step,S119_9,aat,aab,hk,decide_true,cond_true,Int.toNat_natCast,ar3 _ ho,Option.bind_some,abr (i:=k) (by omega),imp]
  cases b<;>rfl) (fun b=>by
  simp only [S119_9step,S119_9,aat,Nat.lt_irrefl,decide_false,cond_false]) b
theorem anr (f:PV) (h:OkFile f) (b:Bool):aay (S119_4step 0) ((),b,(0:Int),f)=some ((),b&&(f.fld 3).asList.all aqn,f):=
 abl (step:=S119_4step 0) (fun k b=>((),b,(k:Int),f)) (fun b=>((),b,f)) (f.fld 3).asList .bad aqn (fun k b hk=>by
  have ho:=h.msg _ (aax hk .bad)
  have hl:=h.msgs
  simp only [S119_4step,S119_4,aat,aab,hk,decide_true,cond_true,Int.toNat_natCast,anq _ ho.fields,amr _ ho.spans,Option.bind_some]
  unfold aqn
  cases b with
  | false=>simp only [cond_false,Option.bind_some,aa9,aex f _ _ ho.field ho.fields,abr (i:=k) (by omega),Bool.false_and]
  | true=>
   cases adjP (((f.fld 3).asList.getD k .bad).fld 1).asList with
   | false=>simp only [cond_true,cond_false,Option.bind_some,aa9,aex f _ _ ho.field ho.fields,abr (i:=k) (by omega),Bool.false_and,Bool.and_false]
   | true=>
    simp only [cond_true,Option.bind_some,aa9,aex f _ _ ho.field ho.fields,abr (i:=k) (by omega),Bool.true_and,Bool.and_true]
    rw [Bool.and_comm]) (fun b=>by
  simp only [S119_4step,S119_4,aat,Nat.lt_irrefl,decide_false,cond_false]) b
theorem agu (f:PV) (i:Nat) (hi:i<(f.fld 4).asList.length) (h:OkEnum ((f.fld 4).asList.getD i .bad)) (b:Bool):
 aay (S119_17step 0) ((),b,(i:Int),(0:Int),f)=some ((),b&&(((f.fld 4).asList.getD i .bad).fld 2).asList.all alg,(i:Int),f):=
 abl (step:=S119_17step 0) (fun k b=>((),b,(i:Int),(k:Int),f)) (fun b=>((),b,(i:Int),f)) (((f.fld 4).asList.getD i .bad).fld 2).asList .bad alg (fun k b hk=>by
  have hl:=h.items
  simp only [S119_17step,S119_17,aat,aab,hi,hk,decide_true,cond_true,Int.toNat_natCast,Option.bind_some,abr (i:=k) (by omega),aj2]
  unfold alg
  rw [Bool.and_assoc]) (fun b=>by
  simp only [S119_17step,S119_17,aat,aab,hi,decide_true,cond_true,Int.toNat_natCast,Nat.lt_irrefl,decide_false,cond_false]) b
theorem aml (f:PV) (h:OkFile f) (b:Bool):aay (S119_13step 0) ((),b,(0:Int),f)=some ((),b&&(f.fld 4).asList.all aoy,f):=
 abl (step:=S119_13step 0) (fun k b=>((),b,(k:Int),f)) (fun b=>((),b,f)) (f.fld 4).asList .bad aoy (fun k b hk=>by
  have ho:=h.enum _ (aax hk .bad)
  have hl:=h.enums
  simp only [S119_13step,S119_13,aat,aab,hk,decide_true,cond_true,Int.toNat_natCast,amr _ ho.spans,Option.bind_some,imp]
  cases b with
  | false=>simp only [cond_false,Bool.not_false,cond_true,Option.bind_some,aa9,agu f k hk ho,abr (i:=k) (by omega),Bool.false_and]
  | true=>
   simp only [cond_true,Option.bind_some,aa9,agu f k hk ho,abr (i:=k) (by omega),Bool.true_and]
   rfl) (fun b=>by
  simp only [S119_13step,S119_13,aat,Nat.lt_irrefl,decide_false,cond_false]) b
theorem amm (f:PV) (i:Nat) (hi:i<(f.fld 5).asList.length) (h:OkSvc ((f.fld 5).asList.getD i .bad)) (b:Bool):
 aay (S119_25step 0) ((),b,(i:Int),(0:Int),f)=some ((),b&&(((f.fld 5).asList.getD i .bad).fld 1).asList.all aoz,(i:Int),f):=
 abl (step:=S119_25step 0) (fun k b=>((),b,(i:Int),(k:Int),f)) (fun b=>((),b,(i:Int),f)) (((f.fld 5).asList.getD i .bad).fld 1).asList .bad aoz (fun k b hk=>by
  have hl:=h.meths
  simp only [S119_25step,S119_25,aat,aab,hi,hk,decide_true,cond_true,Int.toNat_natCast,Option.bind_some,abr (i:=k) (by omega),aj2]
  unfold aoz
  rw [Bool.and_assoc]) (fun b=>by
  simp only [S119_25step,S119_25,aat,aab,hi,decide_true,cond_true,Int.toNat_natCast,Nat.lt_irrefl,decide_false,cond_false]) b
theorem ans (f:PV) (h:OkFile f) (b:Bool):aay (S119_22step 0) ((),b,(0:Int),f)=some (b&&(f.fld 5).asList.all ayg,f):=
 abl (step:=S119_22step 0) (fun k b=>((),b,(k:Int),f)) (fun b=>(b,f)) (f.fld 5).asList .bad ayg (fun k b hk=>by
  have ho:=h.svc _ (aax hk .bad)
  have hl:=h.svcs
  simp only [S119_22step,S119_22,aat,hk,decide_true,cond_true,aa9,amm f k hk ho,abr (i:=k) (by omega),Option.bind_some]
  rfl) (fun b=>by
  simp only [S119_22step,S119_22,aat,Nat.lt_irrefl,decide_false,cond_false]) b
theorem amn (f:PV) (h:OkFile f):F119 0 f=some (agf f):=by
 unfold F119 agf
 simp only [aa9,anr f h,aml f h,ans f h,Option.bind_some,Bool.true_and]
end Go.Ab
namespace Go.Ab
open Go
set_option maxRecDepth 100000
def txL (l:List PV):Bool:=l.all fun x=>aqh x.asStr
def a3v (m:PV):Bool:=txL (m.fld 3).asList
def asp (f:PV):Bool:=txL (f.fld 2).asList&&(f.fld 3).asList.all a3v
theorem a4q (l:List PV) (hl:l.length<=1048576) (hs:∀ x,x∈l->x.asStr.length<=1048576):F120 0 l=some (txL l):=by
 have h:=acr (step:=S120_3step 0) (fun i=>(l,(i:Int))) l.length (fun i=>aqh (l.getD i .bad).asStr) (Sum.inl false:Bool⊕Unit) (Sum.inr ()) (fun i hi=>by
  have hv:=aie (l.getD i .bad).asStr (by have:=hs _ (aax hi .bad);omega)
  simp only [S120_3step,S120_3,aat,aab,hi,decide_true,cond_true,Int.toNat_natCast,hv,Option.bind_some,abr (i:=i) (by omega)]
  cases aqh (l.getD i .bad).asStr<;>rfl) (by
  simp only [S120_3step,S120_3,aat,Nat.lt_irrefl,decide_false,cond_false]) l.length 0 (by omega)
 rw [ayd (fun x:PV=>aqh x.asStr)] at h
 unfold F120 txL
 rw [aa9,show (0:Int)=((0:Nat):Int) from rfl,h]
 cases l.all fun x=>aqh x.asStr<;>rfl
theorem ap6 (f:PV) (h:OkFile f) (b:Bool):aay (S77_8step 0) ((),b,(0:Int),f)=some ((),b&&(f.fld 3).asList.all a3v,f):=
 abl (step:=S77_8step 0) (fun k b=>((),b,(k:Int),f)) (fun b=>((),b,f)) (f.fld 3).asList .bad a3v (fun k b hk=>by
  have ho:=h.msg _ (aax hk .bad)
  have hl:=h.msgs
  simp only [S77_8step,S77_8,aat,aab,hk,decide_true,cond_true,Int.toNat_natCast,a4q _ ho.gone ho.goneS,Option.bind_some,abr (i:=k) (by omega),imp]
  cases b<;>rfl) (fun b=>by
  simp only [S77_8step,S77_8,aat,Nat.lt_irrefl,decide_false,cond_false]) b
def aqt (m:PV):Bool:=decide ((m.fld 1).asList.length<=64)&&decide ((m.fld 2).asList.length<=16)&&decide ((m.fld 3).asList.length<=16)
def alq (m:PV):Bool:=decide ((m.fld 2).asList.length<=64)&&decide ((m.fld 3).asList.length<=16)
def au8 (m:PV):Bool:=decide ((m.fld 1).asList.length<=64)
def au9 (f:PV):Bool:=decide ((f.fld 2).asList.length<=16)&&decide ((f.fld 3).asList.length<=64)&&decide ((f.fld 4).asList.length<=64)&&decide ((f.fld 5).asList.length<=64)
def agi (f:PV):Bool:=au9 f&&(f.fld 3).asList.all aqt&&(f.fld 4).asList.all alq&&(f.fld 5).asList.all au8
theorem le64 (n:Nat):decide ((n:Int)<=(64:Int))=decide (n<=64):=leI n 64
theorem le16 (n:Nat):decide ((n:Int)<=(16:Int))=decide (n<=16):=leI n 16
theorem ar1 (f:PV) (h:OkFile f):F122 0 f=some (agi f):=by
 have h1:∀ b,aay (S122_4step 0) ((),b,(0:Int),f)=some ((),b&&(f.fld 3).asList.all aqt,f):=fun b=>
  abl (step:=S122_4step 0) (fun k b=>((),b,(k:Int),f)) (fun b=>((),b,f)) (f.fld 3).asList .bad aqt (fun k b hk=>by
   have hl:=h.msgs
   simp only [S122_4step,S122_4,aat,aab,hk,decide_true,cond_true,Int.toNat_natCast,le64,le16,abr (i:=k) (by omega),imp,aj2,aiq]
   unfold aqt
   simp only [Bool.and_assoc]) (fun b=>by
   simp only [S122_4step,S122_4,aat,Nat.lt_irrefl,decide_false,cond_false]) b
 have h2:∀ b,aay (S122_8step 0) ((),b,(0:Int),f)=some ((),b&&(f.fld 4).asList.all alq,f):=fun b=>
  abl (step:=S122_8step 0) (fun k b=>((),b,(k:Int),f)) (fun b=>((),b,f)) (f.fld 4).asList .bad alq (fun k b hk=>by
   have hl:=h.enums
   simp only [S122_8step,S122_8,aat,aab,hk,decide_true,cond_true,Int.toNat_natCast,le64,le16,abr (i:=k) (by omega),imp,aj2,aiq]
   unfold alq
   simp only [Bool.and_assoc]) (fun b=>by
   simp only [S122_8step,S122_8,aat,Nat.lt_irrefl,decide_false,cond_false]) b
 have h3:∀ b,aay (S122_12step 0) ((),b,(0:Int),f)=some (b&&(f.fld 5).asList.all au8,f):=fun b=>
  abl (step:=S122_12step 0) (fun k b=>((),b,(k:Int),f)) (fun b=>(b,f)) (f.fld 5).asList .bad au8 (fun k b hk=>by
   have hl:=h.svcs
   simp only [S122_12step,S122_12,aat,aab,hk,decide_true,cond_true,Int.toNat_natCast,le64,abr (i:=k) (by omega),imp,aj2,aiq]
   rfl) (fun b=>by
   simp only [S122_12step,S122_12,aat,Nat.lt_irrefl,decide_false,cond_false]) b
 have e:(bif (bif (bif (decide (((f.fld 2).asList.length:Int)<=(16:Int))) then (decide (((f.fld 3).asList.length:Int)<=(64:Int))) else false) then (decide (((f.fld 4).asList.length:Int)<=(64:Int))) else false) then (decide (((f.fld 5).asList.length:Int)<=(64:Int))) else false)=au9 f:=by
  unfold au9
  simp only [le64,le16,aj2]
 unfold F122 agi
 simp only [e,aa9,h1,h2,h3,Option.bind_some]
noncomputable def errN (e:Int) (l:List PV) (t:Int):Int:=bif e != 0 then e else aip l t
noncomputable def axm (e:Int) (m:PV):Int:=(m.fld 1).asList.foldl (fun e x=>errN e (x.fld 8).asList 2) (errN e (m.fld 4).asList 1)
noncomputable def aof (e:Int) (m:PV):Int:=(m.fld 2).asList.foldl (fun e x=>errN e (x.fld 2).asList 4) (errN e (m.fld 4).asList 3)
noncomputable def axn (e:Int) (m:PV):Int:=(m.fld 1).asList.foldl (fun e x=>errN e (x.fld 4).asList 6) (errN e (m.fld 2).asList 5)
noncomputable def aes (f:PV):Int:=(f.fld 5).asList.foldl axn ((f.fld 4).asList.foldl aof ((f.fld 3).asList.foldl axm 0))
theorem ag8 (a b:Int):F153 0 a b=some (bif a != 0 then a else b):=by
 unfold F153
 cases (a != (0:Int))<;>rfl
theorem a3m (f:PV) (h:OkFile f):F121 0 f=some (aes f):=by
 have m1:∀ (i:Nat) (hi:i<(f.fld 3).asList.length) (e:Int),aay (S121_8step 0) ((),e,(i:Int),(0:Int),f)=some ((),(((f.fld 3).asList.getD i .bad).fld 1).asList.foldl (fun e x=>errN e (x.fld 8).asList 2) e,(i:Int),f):=fun i hi e=>by
  have ho:=h.msg _ (aax hi .bad)
  have hl:=ho.fields
  have q:=aa2 (step:=S121_8step 0) (fun k (e:Int)=>((),e,(i:Int),(k:Int),f)) (fun e=>((),e,(i:Int),f)) (((f.fld 3).asList.getD i .bad).fld 1).asList .bad (fun e x=>errN e (x.fld 8).asList 2) (fun _ _=>True) (fun k e hk _=>by
   have hf:=ho.field _ (aax hk .bad)
   refine ⟨?_,trivial⟩
   simp only [S121_8step,S121_8,aat,aab,hi,hk,decide_true,cond_true,Int.toNat_natCast,ac1 _ _ hf.notes hf.note,ag8,Option.bind_some,abr (i:=k) (by omega)]
   rfl) (fun e _=>by
   simp only [S121_8step,S121_8,aat,aab,hi,decide_true,cond_true,Int.toNat_natCast,Nat.lt_irrefl,decide_false,cond_false]) (((f.fld 3).asList.getD i .bad).fld 1).asList.length 0 e (by omega) trivial
  rw [List.drop_zero] at q
  exact q.1
 have m2:∀ (i:Nat) (hi:i<(f.fld 4).asList.length) (e:Int),aay (S121_16step 0) ((),e,(i:Int),(0:Int),f)=some ((),(((f.fld 4).asList.getD i .bad).fld 2).asList.foldl (fun e x=>errN e (x.fld 2).asList 4) e,(i:Int),f):=fun i hi e=>by
  have ho:=h.enum _ (aax hi .bad)
  have hl:=ho.items
  have q:=aa2 (step:=S121_16step 0) (fun k (e:Int)=>((),e,(i:Int),(k:Int),f)) (fun e=>((),e,(i:Int),f)) (((f.fld 4).asList.getD i .bad).fld 2).asList .bad (fun e x=>errN e (x.fld 2).asList 4) (fun _ _=>True) (fun k e hk _=>by
   have hf:=ho.item _ (aax hk .bad)
   refine ⟨?_,trivial⟩
   simp only [S121_16step,S121_16,aat,aab,hi,hk,decide_true,cond_true,Int.toNat_natCast,ac1 _ _ hf.notes hf.note,ag8,Option.bind_some,abr (i:=k) (by omega)]
   rfl) (fun e _=>by
   simp only [S121_16step,S121_16,aat,aab,hi,decide_true,cond_true,Int.toNat_natCast,Nat.lt_irrefl,decide_false,cond_false]) (((f.fld 4).asList.getD i .bad).fld 2).asList.length 0 e (by omega) trivial
  rw [List.drop_zero] at q
  exact q.1
 have m3:∀ (i:Nat) (hi:i<(f.fld 5).asList.length) (e:Int),aay (S121_24step 0) ((),e,(i:Int),(0:Int),f)=some ((),(((f.fld 5).asList.getD i .bad).fld 1).asList.foldl (fun e x=>errN e (x.fld 4).asList 6) e,(i:Int),f):=fun i hi e=>by
  have ho:=h.svc _ (aax hi .bad)
  have hl:=ho.meths
  have q:=aa2 (step:=S121_24step 0) (fun k (e:Int)=>((),e,(i:Int),(k:Int),f)) (fun e=>((),e,(i:Int),f)) (((f.fld 5).asList.getD i .bad).fld 1).asList .bad (fun e x=>errN e (x.fld 4).asList 6) (fun _ _=>True) (fun k e hk _=>by
   have hf:=ho.meth _ (aax hk .bad)
   refine ⟨?_,trivial⟩
   simp only [S121_24step,S121_24,aat,aab,hi,hk,decide_true,cond_true,Int.toNat_natCast,ac1 _ _ hf.notes hf.note,ag8,Option.bind_some,abr (i:=k) (by omega)]
   rfl) (fun e _=>by
   simp only [S121_24step,S121_24,aat,aab,hi,decide_true,cond_true,Int.toNat_natCast,Nat.lt_irrefl,decide_false,cond_false]) (((f.fld 5).asList.getD i .bad).fld 1).asList.length 0 e (by omega) trivial
  rw [List.drop_zero] at q
  exact q.1
 have n1:∀ e:Int,aay (S121_4step 0) ((),e,(0:Int),f)=some ((),(f.fld 3).asList.foldl axm e,f):=fun e=>by
  have hl:=h.msgs
  have q:=aa2 (step:=S121_4step 0) (fun k (e:Int)=>((),e,(k:Int),f)) (fun e=>((),e,f)) (f.fld 3).asList .bad axm (fun _ _=>True) (fun k e hk _=>by
   have ho:=h.msg _ (aax hk .bad)
   refine ⟨?_,trivial⟩
   simp only [S121_4step,S121_4,aat,aab,hk,decide_true,cond_true,Int.toNat_natCast,ac1 _ _ ho.notes ho.note,ag8,Option.bind_some,aa9,m1 k hk,abr (i:=k) (by omega)]
   rfl) (fun e _=>by
   simp only [S121_4step,S121_4,aat,Nat.lt_irrefl,decide_false,cond_false]) (f.fld 3).asList.length 0 e (by omega) trivial
  rw [List.drop_zero] at q
  exact q.1
 have n2:∀ e:Int,aay (S121_12step 0) ((),e,(0:Int),f)=some ((),(f.fld 4).asList.foldl aof e,f):=fun e=>by
  have hl:=h.enums
  have q:=aa2 (step:=S121_12step 0) (fun k (e:Int)=>((),e,(k:Int),f)) (fun e=>((),e,f)) (f.fld 4).asList .bad aof (fun _ _=>True) (fun k e hk _=>by
   have ho:=h.enum _ (aax hk .bad)
   refine ⟨?_,trivial⟩
   simp only [S121_12step,S121_12,aat,aab,hk,decide_true,cond_true,Int.toNat_natCast,ac1 _ _ ho.notes ho.note,ag8,Option.bind_some,aa9,m2 k hk,abr (i:=k) (by omega)]
   rfl) (fun e _=>by
   simp only [S121_12step,S121_12,aat,Nat.lt_irrefl,decide_false,cond_false]) (f.fld 4).asList.length 0 e (by omega) trivial
  rw [List.drop_zero] at q
  exact q.1
 have n3:∀ e:Int,aay (S121_20step 0) ((),e,(0:Int),f)=some ((f.fld 5).asList.foldl axn e,f):=fun e=>by
  have hl:=h.svcs
  have q:=aa2 (step:=S121_20step 0) (fun k (e:Int)=>((),e,(k:Int),f)) (fun e=>(e,f)) (f.fld 5).asList .bad axn (fun _ _=>True) (fun k e hk _=>by
   have ho:=h.svc _ (aax hk .bad)
   refine ⟨?_,trivial⟩
   simp only [S121_20step,S121_20,aat,aab,hk,decide_true,cond_true,Int.toNat_natCast,ac1 _ _ ho.notes ho.note,ag8,Option.bind_some,aa9,m3 k hk,abr (i:=k) (by omega)]
   rfl) (fun e _=>by
   simp only [S121_20step,S121_20,aat,Nat.lt_irrefl,decide_false,cond_false]) (f.fld 5).asList.length 0 e (by omega) trivial
  rw [List.drop_zero] at q
  exact q.1
 unfold F121 aes
 simp only [aa9,n1,n2,n3,Option.bind_some]
def nv (l:List PV) (t:Int):PV:=PV.agg [(PV.slice l),(PV.int t)]
def a0h (m:PV):List PV:=nv (m.fld 4).asList 1::(m.fld 1).asList.map fun x=>nv (x.fld 8).asList 2
def ars (m:PV):List PV:=nv (m.fld 4).asList 3::(m.fld 2).asList.map fun x=>nv (x.fld 2).asList 4
def a0i (m:PV):List PV:=nv (m.fld 2).asList 5::(m.fld 1).asList.map fun x=>nv (x.fld 4).asList 6
def ai8 (f:PV):List PV:=(f.fld 3).asList.flatMap a0h++(f.fld 4).asList.flatMap ars++(f.fld 5).asList.flatMap a0i
noncomputable def errL (l:List PV) (e:Int):Int:=l.foldl (fun e n=>errN e (n.fld 0).asList (n.fld 1).asInt) e
theorem avg (a b:List PV) (e:Int):errL (a++b) e=errL b (errL a e):=List.foldl_append
theorem a2i (m:PV) (e:Int):errL (a0h m) e=axm e m:=by
 unfold errL a0h axm
 rw [List.foldl_cons,List.foldl_map];rfl
theorem ayz (m:PV) (e:Int):errL (ars m) e=aof e m:=by
 unfold errL ars aof
 rw [List.foldl_cons,List.foldl_map];rfl
theorem a2j (m:PV) (e:Int):errL (a0i m) e=axn e m:=by
 unfold errL a0i axn
 rw [List.foldl_cons,List.foldl_map];rfl
theorem ay1 (g:PV->List PV) (k:Int->PV->Int) (h:∀ m e,errL (g m) e=k e m):∀ (l:List PV) (e:Int),errL (l.flatMap g) e=l.foldl k e:=by
 intro l
 induction l with
 | nil=>intro e;rfl
 | cons m r ih=>grind [avg]
theorem ay0 (f:PV):errL (ai8 f) 0=aes f:=by
 unfold ai8 aes
 grind [avg,ay1,a0h,axm,a2i,ars,aof,ayz,a0i,axn,a2j]
end Go.Ab
