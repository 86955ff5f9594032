/- Enums, services, files: the same text in the program and the specification. -/
import Derived.Test.YtodichgnoiaanaaGreatPMsgT
set_option linter.unusedVariables false
set_option linter.unusedSimpArgs false
set_option linter.unnecessarySimpa false
namespace Go.Ab
open Go
set_option maxRecDepth 100000
theorem apd (g:PV->List UInt8):∀ (l:List PV) (b:List UInt8),l.foldl (fun b x=>b++g x) b=b++l.flatMap g:=by
 intro l
 induction l with
 | nil=>intro b;simp
 | cons x r ih=>grind
theorem apb (g:PV->List UInt8) (B:Nat):∀ l:List PV,(∀ x,x∈l->(g x).length<=B)->(l.flatMap g).length<=B*l.length:=by
 intro l
 induction l with
 | nil=>intro _;simp
 | cons x r ih=>
  grind [List.length_append,List.length_cons,Nat.mul_add]
structure EnumOk (m:PV):Prop where
 ok:OkEnum m
 items:(m.fld 2).asList.length<=64
 num:∀ x,x∈(m.fld 2).asList->0<=(x.fld 1).asInt/\(x.fld 1).asInt<=2147483647
 ifew:∀ x,x∈(m.fld 2).asList->(x.fld 2).asList.length<=40
 spans:(m.fld 3).asList.length<=16
 span:∀ x,x∈(m.fld 3).asList->ak2 2147483647 x=true
 few:(m.fld 4).asList.length<=40
noncomputable def arb (x:PV):List UInt8:=[32,32]++((x.fld 0).asStr++([32,61,32]++(numT (x.fld 1).asInt++(aer (x.fld 2).asList++[59,10]))))
theorem arc (x:PV) (h:OkItem x) (hf:(x.fld 2).asList.length<=40):(arb x).length<=202000000:=by
 have h1:=acn _ hf h.note
 have h2:=aet (x.fld 1).asInt
 have h3:=h.name
 grind [arb,List.length_append,List.length_cons,List.length_nil]
noncomputable def alv (m:PV):List UInt8:=
 (bif (m.fld 1).asBool then [111,112,101,110,32] else [])++([101,110,117,109,32]++((m.fld 0).asStr++(aer (m.fld 4).asList++([32,123,10]++((m.fld 2).asList.flatMap arb++(resT spT (m.fld 3).asList++[125,10]))))))
theorem alw (m:PV) (h:EnumOk m):(aer (m.fld 4).asList).length<=200000201/\((m.fld 2).asList.flatMap arb).length<=12928000000/\(resT spT (m.fld 3).asList).length<=1000:=by
 have h1:=acn _ h.few h.ok.note
 have h2:=apb arb 202000000 (m.fld 2).asList fun x hx=>arc x (h.ok.item x hx) (h.ifew x hx)
 have h3:=ap7 spT 43 (m.fld 3).asList fun x _=>aqb x
 have h5:202000000*(m.fld 2).asList.length<=202000000*64:=Nat.mul_le_mul (by omega) h.items
 have h6:(43+2)*(m.fld 3).asList.length<=45*16:=Nat.mul_le_mul (by omega) h.spans
 grind
theorem aq3 (m:PV) (h:EnumOk m):(alv m).length<=20000000000:=by
 obtain ⟨h1,h2,h3⟩:=alw m h
 have h5:=h.ok.name
 unfold alv
 cases (m.fld 1).asBool<;>simp only [cond_true,cond_false,List.length_append,List.length_cons,List.length_nil]<;>omega
theorem ap1 (m:PV) (h:EnumOk m) (b:List UInt8) (hb:b.length<=20000000000000):
 aay (S126_6step 0) ((),b,(0:Int),m)=some ((),b++(m.fld 2).asList.flatMap arb,m):=by
 have hl:=h.items
 have q:=aa2 (step:=S126_6step 0) (fun k (b:List UInt8)=>((),b,(k:Int),m)) (fun b=>((),b,m)) (m.fld 2).asList .bad (fun b x=>b++arb x) (fun k b=>b.length<=20000000000000+202000000*k) (fun k b hk hI=>by
  have hm:=aax hk .bad
  have hx:=h.ok.item _ hm
  have hf:=h.ifew _ hm
  have hn:=h.num _ hm
  have h1:=arc _ hx hf
  have h2:=hx.name
  have h3:=acn _ hf hx.note
  have h4:=aet (((m.fld 2).asList.getD k .bad).fld 1).asInt
  have h5:=ahh _ hf hx.note
  have h6:202000000*k<=202000000*64:=Nat.mul_le_mul (by omega) (by omega)
  refine ⟨?_,by simp only [List.length_append,Nat.mul_add];omega⟩
  simp only [S126_6step,S126_6,aat,aab,hk,decide_true,cond_true,Int.toNat_natCast,h5,afs hn.1 hn.2,Option.bind_some,abr (i:=k) (by omega)]
  simp (disch:=(first | omega | (simp only [List.length_append,List.length_cons,List.length_nil];omega))) only [ag2,Option.bind_some]
  simp only [arb,List.append_assoc,List.cons_append,List.nil_append]) (fun b _=>by
  simp only [S126_6step,S126_6,aat,Nat.lt_irrefl,decide_false,cond_false]) (m.fld 2).asList.length 0 b (by omega) (by omega)
 rw [List.drop_zero,apd] at q
 exact q.1
theorem axp (m:PV) (h:EnumOk m):F126 0 m=some (alv m):=by
 obtain ⟨h1,h2,h3⟩:=alw m h
 have h5:=h.ok.name
 have b1:=ahh _ h.few h.ok.note
 have b2:∀ c:List UInt8,c.length<=20000000000000->_:=fun c hc=>ap1 m h c hc
 have b3:=amx _ h.spans h.span
 unfold F126 alv
 simp only [b1,b3,Option.bind_some,aa9]
 cases (m.fld 1).asBool<;>simp (disch:=(first | omega | (simp only [List.length_append,List.length_cons,List.length_nil];omega))) only [cond_true,cond_false,ag2,b2,b3,Option.bind_some,List.append_assoc,List.nil_append,List.cons_append]
structure SvcOk (m:PV):Prop where
 ok:OkSvc m
 meths:(m.fld 1).asList.length<=64
 mfew:∀ x,x∈(m.fld 1).asList->(x.fld 4).asList.length<=40
 few:(m.fld 2).asList.length<=40
def a3p (b:Bool) (s:List UInt8):List UInt8:=bif b then [115,116,114,101,97,109,32]++s else s
noncomputable def arp (x:PV):List UInt8:=
 [32,32,114,112,99,32]++((x.fld 0).asStr++([40]++(a3p (((x.fld 3).asInt==3)||((x.fld 3).asInt==4)) (x.fld 1).asStr++([41,32,114,101,116,117,114,110,115,32,40]++(a3p (((x.fld 3).asInt==2)||((x.fld 3).asInt==4)) (x.fld 2).asStr++([41]++(aer (x.fld 4).asList++[59,10])))))))
theorem arq (x:PV) (h:OkMeth x) (hf:(x.fld 4).asList.length<=40):(arp x).length<=205000000:=by
 have h1:=acn _ hf h.note
 have h2:=h.inn
 have h3:=h.out
 have h4:=h.name
 unfold arp a3p
 cases (((x.fld 3).asInt==3)||((x.fld 3).asInt==4))<;>cases (((x.fld 3).asInt==2)||((x.fld 3).asInt==4))<;>simp only [cond_true,cond_false,List.length_append,List.length_cons,List.length_nil]<;>omega
noncomputable def svcT (m:PV):List UInt8:=
 [115,101,114,118,105,99,101,32]++((m.fld 0).asStr++(aer (m.fld 2).asList++([32,123,10]++((m.fld 1).asList.flatMap arp++[125,10]))))
theorem aos (m:PV) (h:SvcOk m):(aer (m.fld 2).asList).length<=200000201/\((m.fld 1).asList.flatMap arp).length<=13120000000:=by
 have h1:=acn _ h.few h.ok.note
 have h2:=apb arp 205000000 (m.fld 1).asList fun x hx=>arq x (h.ok.meth x hx) (h.mfew x hx)
 have h5:205000000*(m.fld 1).asList.length<=205000000*64:=Nat.mul_le_mul (by omega) h.meths
 grind
theorem a3s (m:PV) (h:SvcOk m):(svcT m).length<=20000000000:=by
 obtain ⟨h1,h2⟩:=aos m h
 have h5:=h.ok.name
 grind [svcT,List.length_append,List.length_cons,List.length_nil]
theorem ap2 (m:PV) (h:SvcOk m) (b:List UInt8) (hb:b.length<=20000000000000):
 aay (S127_4step 0) ((),b,(0:Int),m)=some (b++(m.fld 1).asList.flatMap arp,m):=by
 have hl:=h.meths
 have q:=aa2 (step:=S127_4step 0) (fun k (b:List UInt8)=>((),b,(k:Int),m)) (fun b=>(b,m)) (m.fld 1).asList .bad (fun b x=>b++arp x) (fun k b=>b.length<=20000000000000+205000000*k) (fun k b hk hI=>by
  have hm:=aax hk .bad
  have hx:=h.ok.meth _ hm
  have hf:=h.mfew _ hm
  have h1:=arq _ hx hf
  have h2:=hx.name
  have h3:=acn _ hf hx.note
  have h4:=hx.inn
  have h7:=hx.out
  have h5:=ahh _ hf hx.note
  have h6:205000000*k<=205000000*64:=Nat.mul_le_mul (by omega) (by omega)
  refine ⟨?_,by simp only [List.length_append,Nat.mul_add];omega⟩
  simp only [S127_4step,S127_4,aat,aab,hk,decide_true,cond_true,Int.toNat_natCast,h5,Option.bind_some,abr (i:=k) (by omega),ava]
  unfold arp a3p
  cases (((((m.fld 1).asList.getD k .bad).fld 3).asInt==(3:Int))||((((m.fld 1).asList.getD k .bad).fld 3).asInt==(4:Int)))<;>cases (((((m.fld 1).asList.getD k .bad).fld 3).asInt==(2:Int))||((((m.fld 1).asList.getD k .bad).fld 3).asInt==(4:Int)))<;>simp (disch:=(first | omega | (simp only [List.length_append,List.length_cons,List.length_nil];omega))) only [cond_true,cond_false,ag2,Option.bind_some,List.append_assoc,List.cons_append,List.nil_append]) (fun b _=>by
  simp only [S127_4step,S127_4,aat,Nat.lt_irrefl,decide_false,cond_false]) (m.fld 1).asList.length 0 b (by omega) (by omega)
 rw [List.drop_zero,apd] at q
 exact q.1
theorem a0y (m:PV) (h:SvcOk m):F127 0 m=some (svcT m):=by
 obtain ⟨h1,h2⟩:=aos m h
 have h5:=h.ok.name
 have b1:=ahh _ h.few h.ok.note
 have b2:∀ c:List UInt8,c.length<=20000000000000->_:=fun c hc=>ap2 m h c hc
 unfold F127 svcT
 simp only [b1,Option.bind_some,aa9]
 simp (disch:=(first | omega | (simp only [List.length_append,List.length_cons,List.length_nil];omega))) only [ag2,b2,Option.bind_some,List.append_assoc,List.nil_append,List.cons_append]
def defG (g:PV->List UInt8) (b:List UInt8) (x:PV):List UInt8:=(bif b==[] then b else b++[10])++g x
theorem avc (g:PV->List UInt8):∀ (l:List PV) (b:List UInt8),(∀ x,x∈l->(g x).length<=20000000000)->(l.foldl (defG g) b).length<=b.length+20000000001*l.length:=by
 intro l
 induction l with
 | nil=>intro b _;simp
 | cons x r ih=>
  intro b h
  have h1:=h x (by simp)
  have h2:=ih (defG g b x) fun y hy=>h y (by simp [hy])
  have h3:(defG g b x).length<=b.length+20000000001:=by
   unfold defG
   grind
  grind
theorem ajz (b d:List UInt8) (hb:b.length+d.length<=100000000000000):F124 0 b d=some ((bif b==[] then b else b++[10])++d):=by
 unfold F124
 cases h:(b==([]:List UInt8)) with
 | true=>
  have:b=[]:=by simpa using h
  subst this;rfl
 | false=>simp (disch:=(first | omega | (simp only [List.length_append,List.length_cons,List.length_nil];omega))) only [cond_false,ag2]
theorem aub (f:PV) (hl:(f.fld 3).asList.length<=64) (h:∀ x,x∈(f.fld 3).asList->MsgOk x) (b:List UInt8) (hb:b.length<=3000000000000):aay (S78_10step 0) ((),b,(0:Int),f)=some ((),(f.fld 3).asList.foldl (defG msgT) b,f):=by
 have q:=aa2 (step:=S78_10step 0) (fun k (b:List UInt8)=>((),b,(k:Int),f)) (fun b=>((),b,f)) (f.fld 3).asList .bad (defG msgT) (fun k b=>b.length<=3000000000000+20000000001*k) (fun k b hk hI=>by
  have hx:=h _ (aax hk .bad)
  have h1:=avy _ hx
  have h6:20000000001*k<=20000000001*64:=Nat.mul_le_mul (by omega) (by omega)
  refine ⟨?_,?_⟩
  ·simp only [S78_10step,S78_10,aat,aab,hk,decide_true,cond_true,Int.toNat_natCast,a0w _ hx,Option.bind_some,abr (i:=k) (by omega),ajz b _ (show b.length+(msgT ((f.fld 3).asList.getD k .bad)).length<=100000000000000 by omega)]
   rfl
  ·unfold defG
   cases (b==([]:List UInt8))<;>simp only [cond_true,cond_false,List.length_append,List.length_cons,List.length_nil,Nat.mul_add]<;>omega) (fun b _=>by
  simp only [S78_10step,S78_10,aat,Nat.lt_irrefl,decide_false,cond_false]) (f.fld 3).asList.length 0 b (by omega) (by omega)
 rw [List.drop_zero] at q
 exact q.1
theorem ar2 (f:PV) (hl:(f.fld 4).asList.length<=64) (h:∀ x,x∈(f.fld 4).asList->EnumOk x) (b:List UInt8) (hb:b.length<=3000000000000):aay (S78_14step 0) ((),b,(0:Int),f)=some ((),(f.fld 4).asList.foldl (defG alv) b,f):=by
 have q:=aa2 (step:=S78_14step 0) (fun k (b:List UInt8)=>((),b,(k:Int),f)) (fun b=>((),b,f)) (f.fld 4).asList .bad (defG alv) (fun k b=>b.length<=3000000000000+20000000001*k) (fun k b hk hI=>by
  have hx:=h _ (aax hk .bad)
  have h1:=aq3 _ hx
  have h6:20000000001*k<=20000000001*64:=Nat.mul_le_mul (by omega) (by omega)
  refine ⟨?_,?_⟩
  ·simp only [S78_14step,S78_14,aat,aab,hk,decide_true,cond_true,Int.toNat_natCast,axp _ hx,Option.bind_some,abr (i:=k) (by omega),ajz b _ (show b.length+(alv ((f.fld 4).asList.getD k .bad)).length<=100000000000000 by omega)]
   rfl
  ·unfold defG
   cases (b==([]:List UInt8))<;>simp only [cond_true,cond_false,List.length_append,List.length_cons,List.length_nil,Nat.mul_add]<;>omega) (fun b _=>by
  simp only [S78_14step,S78_14,aat,Nat.lt_irrefl,decide_false,cond_false]) (f.fld 4).asList.length 0 b (by omega) (by omega)
 rw [List.drop_zero] at q
 exact q.1
theorem auc (f:PV) (hl:(f.fld 5).asList.length<=64) (h:∀ x,x∈(f.fld 5).asList->SvcOk x) (b:List UInt8) (hb:b.length<=3000000000000):aay (S78_18step 0) ((),b,(0:Int),f)=some ((f.fld 5).asList.foldl (defG svcT) b,f):=by
 have q:=aa2 (step:=S78_18step 0) (fun k (b:List UInt8)=>((),b,(k:Int),f)) (fun b=>(b,f)) (f.fld 5).asList .bad (defG svcT) (fun k b=>b.length<=3000000000000+20000000001*k) (fun k b hk hI=>by
  have hx:=h _ (aax hk .bad)
  have h1:=a3s _ hx
  have h6:20000000001*k<=20000000001*64:=Nat.mul_le_mul (by omega) (by omega)
  refine ⟨?_,?_⟩
  ·simp only [S78_18step,S78_18,aat,aab,hk,decide_true,cond_true,Int.toNat_natCast,a0y _ hx,Option.bind_some,abr (i:=k) (by omega),ajz b _ (show b.length+(svcT ((f.fld 5).asList.getD k .bad)).length<=100000000000000 by omega)]
   rfl
  ·unfold defG
   cases (b==([]:List UInt8))<;>simp only [cond_true,cond_false,List.length_append,List.length_cons,List.length_nil,Nat.mul_add]<;>omega) (fun b _=>by
  simp only [S78_18step,S78_18,aat,Nat.lt_irrefl,decide_false,cond_false]) (f.fld 5).asList.length 0 b (by omega) (by omega)
 rw [List.drop_zero] at q
 exact q.1
structure FileOk (f:PV):Prop where
 ok:OkFile f
 imports:(f.fld 2).asList.length<=16
 msgs:(f.fld 3).asList.length<=64
 msg:∀ x,x∈(f.fld 3).asList->MsgOk x
 enums:(f.fld 4).asList.length<=64
 enum:∀ x,x∈(f.fld 4).asList->EnumOk x
 svcs:(f.fld 5).asList.length<=64
 svc:∀ x,x∈(f.fld 5).asList->SvcOk x
def impT (x:PV):List UInt8:=[105,109,112,111,114,116,32]++(ak1 x.asStr++[59,10])
theorem avl (x:PV) (h:x.asStr.length<=1048576):(impT x).length<=4194400:=by
 grind [adl,impT,List.length_append,List.length_cons,List.length_nil]
theorem amp (f:PV) (h:FileOk f) (b:List UInt8) (hb:b.length<=10000000):
 aay (S78_6step 0) ((),b,(0:Int),f)=some ((),b++(f.fld 2).asList.flatMap impT,f):=by
 have hl:=h.imports
 have q:=aa2 (step:=S78_6step 0) (fun k (b:List UInt8)=>((),b,(k:Int),f)) (fun b=>((),b,f)) (f.fld 2).asList .bad (fun b x=>b++impT x) (fun k b=>b.length<=10000000+4194400*k) (fun k b hk hI=>by
  have hx:=h.ok.importS _ (aax hk .bad)
  have h1:=avl _ hx
  have h2:=adl ((f.fld 2).asList.getD k .bad).asStr
  have h6:4194400*k<=4194400*16:=Nat.mul_le_mul (by omega) (by omega)
  refine ⟨?_,by simp only [List.length_append,Nat.mul_add];omega⟩
  simp only [S78_6step,S78_6,aat,aab,hk,decide_true,cond_true,Int.toNat_natCast,aeg _ hx,Option.bind_some,abr (i:=k) (by omega)]
  simp (disch:=(first | omega | (simp only [List.length_append,List.length_cons,List.length_nil];omega))) only [ag2,Option.bind_some]
  simp only [impT,List.append_assoc,List.cons_append,List.nil_append]) (fun b _=>by
  simp only [S78_6step,S78_6,aat,Nat.lt_irrefl,decide_false,cond_false]) (f.fld 2).asList.length 0 b (by omega) (by omega)
 rw [List.drop_zero,apd] at q
 exact q.1
def topT (f:PV):List UInt8:=(bif (f.fld 1).asStr==[] then [] else [115,112,97,99,101,32]++((f.fld 1).asStr++[59,10]))++(f.fld 2).asList.flatMap impT
theorem a3t (f:PV) (h:FileOk f):(topT f).length<=100000000:=by
 have h1:=apb impT 4194400 (f.fld 2).asList fun x hx=>avl x (h.ok.importS x hx)
 have h2:=h.ok.space
 have h6:4194400*(f.fld 2).asList.length<=4194400*16:=Nat.mul_le_mul (by omega) h.imports
 unfold topT
 cases ((f.fld 1).asStr==([]:List UInt8))<;>simp only [cond_true,cond_false,List.length_append,List.length_cons,List.length_nil]<;>omega
noncomputable def ani (f:PV):List UInt8:=(f.fld 5).asList.foldl (defG svcT) ((f.fld 4).asList.foldl (defG alv) ((f.fld 3).asList.foldl (defG msgT) (topT f)))
theorem ate (f:PV) (h:FileOk f):(topT f).length<=100000000/\((f.fld 3).asList.foldl (defG msgT) (topT f)).length<=1300000000000/\((f.fld 4).asList.foldl (defG alv) ((f.fld 3).asList.foldl (defG msgT) (topT f))).length<=2600000000000:=by
 have h1:=a3t f h
 have h2:=avc msgT (f.fld 3).asList (topT f) fun x hx=>avy x (h.msg x hx)
 have h3:=avc alv (f.fld 4).asList ((f.fld 3).asList.foldl (defG msgT) (topT f)) fun x hx=>aq3 x (h.enum x hx)
 have h4:20000000001*(f.fld 3).asList.length<=20000000001*64:=Nat.mul_le_mul (by omega) h.msgs
 have h5:20000000001*(f.fld 4).asList.length<=20000000001*64:=Nat.mul_le_mul (by omega) h.enums
 grind
theorem amu (f:PV) (h:FileOk f):F78 0 f=some (ani f):=by
 obtain ⟨h1,h2,h3⟩:=ate f h
 have h5:=h.ok.space
 have b1:∀ c:List UInt8,c.length<=10000000->_:=fun c hc=>amp f h c hc
 have b2:=aub f h.msgs h.msg (topT f) (by omega)
 have b3:=ar2 f h.enums h.enum ((f.fld 3).asList.foldl (defG msgT) (topT f)) (by omega)
 have b4:=auc f h.svcs h.svc ((f.fld 4).asList.foldl (defG alv) ((f.fld 3).asList.foldl (defG msgT) (topT f))) (by omega)
 have et:topT f=(bif (f.fld 1).asStr==[] then [] else [115,112,97,99,101,32]++((f.fld 1).asStr++[59,10]))++(f.fld 2).asList.flatMap impT:=rfl
 unfold F78 ani
 cases hq:((f.fld 1).asStr==([]:List UInt8)) with
 | true=>
  rw [hq] at et
  simp only [cond_true,List.nil_append] at et
  simp (disch:=(first | omega | (simp only [List.length_append,List.length_cons,List.length_nil];omega))) only [Bool.not_true,cond_false,aa9,b1,List.nil_append,Option.bind_some,<-et,b2,b3,b4]
 | false=>
  rw [hq] at et
  simp only [cond_false,List.append_assoc,List.cons_append,List.nil_append] at et
  simp (disch:=(first | omega | (simp only [List.length_append,List.length_cons,List.length_nil];omega))) only [Bool.not_false,cond_true,ag2,aa9,b1,Option.bind_some,List.append_assoc,List.cons_append,List.nil_append,<-et,b2,b3,b4]
end Go.Ab
