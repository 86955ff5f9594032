/- The texts, annotations and counts of a file: the same in the program and the specification. -/
import Derived.Test.YtofplaamkkpciaaGreatDoorPCk5R
set_option linter.unusedVariables false
set_option linter.unusedSimpArgs false
set_option linter.unnecessarySimpa false
namespace Go.Ab
open Go
set_option maxRecDepth 100000
def txL(l:List PV):Bool:=l.all λx=>valid x.asStr
def bcs(m:PV):Bool:=txL (m.fld 3).asList
def ar0(f:PV):Bool:=txL (f.fld 2).asList&&(f.fld 3).asList.all bcs
theorem bg5(l:List PV)(m:l.length<=1048576):F308_c193 l ()=some (txL l):=
 ev_tx l (λx=>valid x.asStr) m λx o=>awg _
theorem bf7(f:PV)(h:OkFile f):F202 f=some (ar0 f):=by unfold F202 ar0;simp only[bg5 _ h.imports,Aa,ev_tm _ bcs h.msgs λx m=>by unfold F309;rw[bg5 _ (h.msg x m).gone];rfl];grind
theorem bg6(l:List PV)(z:l.length<=1048576)(o:∀x,x∈l->x.asStr.length<=1048576):F175 l=some (txL l):=by
 have h:=abb (step:=(Y2 S175_3)) (λi=>(l,(i:Int))) l.length (λi=>valid (l.getD i .bad).asStr) (Sum.inl false:Bool⊕Unit) (Sum.inr ()) (λi m=>by
  have t:=akw (l.getD i .bad).asStr (by have:=o _ (aas m .bad);omega);simp only[Y2,S175_3,aai,aaa,m,decide_true,Ad,Ae,t,Aa,abh (i:=i) (by omega)];cases valid (l.getD i .bad).asStr<;>rfl) (by
  simp only[Y2,S175_3,aai,Nat.lt_irrefl,decide_false,Af]) l.length 0 (by omega)
 rw[aub (λx:PV=>valid x.asStr)]at h;unfold F175 txL;rw[aat,show(0:Int)=((0:Nat):Int)from rfl,h];cases l.all λx=>valid x.asStr<;>rfl
theorem avx(f:PV)(h:OkFile f)(b:Bool):aap ((Y4 S124_8)) ((),b,(0:Int),f)=some ((),b&&(f.fld 3).asList.all bcs,f):=
 abx (step:=(Y4 S124_8)) (λk b=>((),b,(k:Int),f)) (λb=>((),b,f)) (f.fld 3).asList .bad bcs (λk b m=>by
  have o:=h.msg _ (aas m .bad);have t:=h.msgs;simp only[Y4,S124_8,aai,aaa,m,decide_true,Ad,Ae,bg6 _ o.gone o.goneS,Aa,abh (i:=k) (by omega),imp];cases b<;>rfl) (λb=>by
  simp only[Y4,S124_8,aai,Nat.lt_irrefl,decide_false,Af]) b
def ald(m:PV):Bool:=decide ((m.fld 1).asList.length<=64)&&decide ((m.fld 2).asList.length<=16)&&decide ((m.fld 3).asList.length<=16)
def aha(m:PV):Bool:=decide ((m.fld 2).asList.length<=64)&&decide ((m.fld 3).asList.length<=16)
def apr(m:PV):Bool:=decide ((m.fld 1).asList.length<=64)
def aps(f:PV):Bool:=decide ((f.fld 2).asList.length<=16)&&decide ((f.fld 3).asList.length<=64)&&decide ((f.fld 4).asList.length<=64)&&decide ((f.fld 5).asList.length<=64)
def af1(f:PV):Bool:=aps f&&(f.fld 3).asList.all ald&&(f.fld 4).asList.all aha&&(f.fld 5).asList.all apr
theorem le64(n:Nat):decide ((n:Int)<=(64:Int))=decide (n<=64):=leI n 64
theorem le16(n:Nat):decide ((n:Int)<=(16:Int))=decide (n<=16):=leI n 16
theorem a8o(m:PV):F311 m=some (ald m):=by
 unfold F311 ald;have e:decide ((if(((m.fld 3).asList.length:Int))>((m.fld 2).asList.length:Int)then((m.fld 3).asList.length:Int)else((m.fld 2).asList.length:Int))<=(16:Int))=(decide ((m.fld 2).asList.length<=16)&&decide ((m.fld 3).asList.length<=16)):=by grind
 grind
theorem a5b(m:PV):F312 m=some (aha m):=by grind[F312,aha,le64,le16,ahb]
theorem a8p(m:PV):F313 m=some (apr m):=by grind[F313,apr,le64]
theorem a8r(f:PV)(h:OkFile f):F205 f=some (af1 f):=by
 have e:(bif (decide (((f.fld 2).asList.length:Int)>(16:Int)))then true else(decide ((if((f.fld 5).asList.length:Int)>(if((f.fld 4).asList.length:Int)>((f.fld 3).asList.length:Int)then((f.fld 4).asList.length:Int)else((f.fld 3).asList.length:Int))then((f.fld 5).asList.length:Int)else(if((f.fld 4).asList.length:Int)>((f.fld 3).asList.length:Int)then((f.fld 4).asList.length:Int)else((f.fld 3).asList.length:Int)))>(64:Int))))=!aps f:=by unfold aps;grind
 unfold F205 af1;simp only[e,ev_cm _ ald h.msgs λx m=>a8o x,ev_ce _ aha h.enums λx m=>a5b x,ev_cs _ apr h.svcs λx m=>a8p x,Aa];cases aps f<;>cases(f.fld 3).asList.all ald<;>cases(f.fld 4).asList.all aha<;>rfl
theorem ayf(f:PV)(h:OkFile f):F177 f=some (af1 f):=by
 have t:∀b,aap ((Y4 S177_4)) ((),b,(0:Int),f)=some ((),b&&(f.fld 3).asList.all ald,f):=λb=>
  abx (step:=(Y4 S177_4)) (λk b=>((),b,(k:Int),f)) (λb=>((),b,f)) (f.fld 3).asList .bad ald (λk b m=>by
   have o:=h.msgs;simp only[Y4,S177_4,aai,aaa,m,decide_true,Ad,Ae,le64,le16,abh (i:=k) (by omega),imp,ahb,agd];unfold ald;simp only[Bool.and_assoc]) (λb=>by
   simp only[Y4,S177_4,aai,Nat.lt_irrefl,decide_false,Af]) b
 have z:∀b,aap ((Y4 S177_8)) ((),b,(0:Int),f)=some ((),b&&(f.fld 4).asList.all aha,f):=λb=>
  abx (step:=(Y4 S177_8)) (λk b=>((),b,(k:Int),f)) (λb=>((),b,f)) (f.fld 4).asList .bad aha (λk b m=>by
   have o:=h.enums;simp only[Y4,S177_8,aai,aaa,m,decide_true,Ad,Ae,le64,le16,abh (i:=k) (by omega),imp,ahb,agd];unfold aha;simp only[Bool.and_assoc]) (λb=>by
   simp only[Y4,S177_8,aai,Nat.lt_irrefl,decide_false,Af]) b
 have G:∀b,aap ((Y4 S177_12)) ((),b,(0:Int),f)=some (b&&(f.fld 5).asList.all apr,f):=λb=>
  abx (step:=(Y4 S177_12)) (λk b=>((),b,(k:Int),f)) (λb=>(b,f)) (f.fld 5).asList .bad apr (λk b m=>by
   have o:=h.svcs;simp only[Y4,S177_12,aai,aaa,m,decide_true,Ad,Ae,le64,abh (i:=k) (by omega),imp,ahb,agd];rfl) (λb=>by
   simp only[Y4,S177_12,aai,Nat.lt_irrefl,decide_false,Af]) b
 have e:(bif (bif (bif (decide (((f.fld 2).asList.length:Int)<=(16:Int)))then(decide (((f.fld 3).asList.length:Int)<=(64:Int)))else false)then(decide (((f.fld 4).asList.length:Int)<=(64:Int)))else false)then(decide (((f.fld 5).asList.length:Int)<=(64:Int)))else false)=aps f:=by unfold aps;simp only[le64,le16,ahb]
 unfold F177 af1;simp only[e,aat,t,z,G,Aa]
noncomputable def errN(e:Int)(l:List PV)(t:Int):Int:=bif e != 0 then e else ab3 l t
noncomputable def a6i(e:Int)(m:PV):Int:=(m.fld 1).asList.foldl (λe x=>errN e (x.fld 8).asList 2) (errN e (m.fld 4).asList 1)
noncomputable def atr(e:Int)(m:PV):Int:=(m.fld 2).asList.foldl (λe x=>errN e (x.fld 2).asList 4) (errN e (m.fld 4).asList 3)
noncomputable def a6j(e:Int)(m:PV):Int:=(m.fld 1).asList.foldl (λe x=>errN e (x.fld 4).asList 6) (errN e (m.fld 2).asList 5)
noncomputable def afv(f:PV):Int:=(f.fld 5).asList.foldl a6j ((f.fld 4).asList.foldl atr ((f.fld 3).asList.foldl a6i 0))
theorem aje(a b:Int):F259 a b=some (bif a != 0 then a else b):=by unfold F259;cases(a != (0:Int))<;>rfl
theorem bfg(f:PV)(h:OkFile f):F176 f=some (afv f):=by
 have H:∀(i:Nat)(t:i<(f.fld 3).asList.length)(e:Int),aap ((Y5 S176_8)) ((),e,(i:Int),(0:Int),f)=some ((),(((f.fld 3).asList.getD i .bad).fld 1).asList.foldl (λe x=>errN e (x.fld 8).asList 2) e,(i:Int),f):=λi t e=>by
  have o:=h.msg _ (aas t .bad);have G:=o.fields;have q:=aak (step:=(Y5 S176_8)) (λk(e:Int)=>((),e,(i:Int),(k:Int),f)) (λe=>((),e,(i:Int),f)) (((f.fld 3).asList.getD i .bad).fld 1).asList .bad (λe x=>errN e (x.fld 8).asList 2) (λ_ _=>True) (λk e m _=>by
   have z:=o.field _ (aas m .bad);refine⟨?_,trivial⟩;simp only[Y5,S176_8,aai,aaa,t,m,decide_true,Ad,Ae,adt _ _ z.notes z.note,aje,Aa,abh (i:=k) (by omega)];rfl) (λe _=>by
   simp only[Y5,S176_8,aai,aaa,t,decide_true,Ad,Ae,Nat.lt_irrefl,decide_false,Af]) (((f.fld 3).asList.getD i .bad).fld 1).asList.length 0 e (by omega) trivial
  rw[Ar]at q;exact q.1
 have m2:∀(i:Nat)(t:i<(f.fld 4).asList.length)(e:Int),aap ((Y5 S176_16)) ((),e,(i:Int),(0:Int),f)=some ((),(((f.fld 4).asList.getD i .bad).fld 2).asList.foldl (λe x=>errN e (x.fld 2).asList 4) e,(i:Int),f):=λi t e=>by
  have o:=h.enum _ (aas t .bad);have G:=o.items;have q:=aak (step:=(Y5 S176_16)) (λk(e:Int)=>((),e,(i:Int),(k:Int),f)) (λe=>((),e,(i:Int),f)) (((f.fld 4).asList.getD i .bad).fld 2).asList .bad (λe x=>errN e (x.fld 2).asList 4) (λ_ _=>True) (λk e m _=>by
   have z:=o.item _ (aas m .bad);refine⟨?_,trivial⟩;simp only[Y5,S176_16,aai,aaa,t,m,decide_true,Ad,Ae,adt _ _ z.notes z.note,aje,Aa,abh (i:=k) (by omega)];rfl) (λe _=>by
   simp only[Y5,S176_16,aai,aaa,t,decide_true,Ad,Ae,Nat.lt_irrefl,decide_false,Af]) (((f.fld 4).asList.getD i .bad).fld 2).asList.length 0 e (by omega) trivial
  rw[Ar]at q;exact q.1
 have I:∀(i:Nat)(t:i<(f.fld 5).asList.length)(e:Int),aap ((Y5 S176_24)) ((),e,(i:Int),(0:Int),f)=some ((),(((f.fld 5).asList.getD i .bad).fld 1).asList.foldl (λe x=>errN e (x.fld 4).asList 6) e,(i:Int),f):=λi t e=>by
  have o:=h.svc _ (aas t .bad);have G:=o.meths;have q:=aak (step:=(Y5 S176_24)) (λk(e:Int)=>((),e,(i:Int),(k:Int),f)) (λe=>((),e,(i:Int),f)) (((f.fld 5).asList.getD i .bad).fld 1).asList .bad (λe x=>errN e (x.fld 4).asList 6) (λ_ _=>True) (λk e m _=>by
   have z:=o.meth _ (aas m .bad);refine⟨?_,trivial⟩;simp only[Y5,S176_24,aai,aaa,t,m,decide_true,Ad,Ae,adt _ _ z.notes z.note,aje,Aa,abh (i:=k) (by omega)];rfl) (λe _=>by
   simp only[Y5,S176_24,aai,aaa,t,decide_true,Ad,Ae,Nat.lt_irrefl,decide_false,Af]) (((f.fld 5).asList.getD i .bad).fld 1).asList.length 0 e (by omega) trivial
  rw[Ar]at q;exact q.1
 have J:∀e:Int,aap ((Y4 S176_4)) ((),e,(0:Int),f)=some ((),(f.fld 3).asList.foldl a6i e,f):=λe=>by
  have G:=h.msgs;have q:=aak (step:=(Y4 S176_4)) (λk(e:Int)=>((),e,(k:Int),f)) (λe=>((),e,f)) (f.fld 3).asList .bad a6i (λ_ _=>True) (λk e m _=>by
   have o:=h.msg _ (aas m .bad);refine⟨?_,trivial⟩;simp only[Y4,S176_4,aai,aaa,m,decide_true,Ad,Ae,adt _ _ o.notes o.note,aje,Aa,aat,H k m,abh (i:=k) (by omega)];rfl) (λe _=>by
   simp only[Y4,S176_4,aai,Nat.lt_irrefl,decide_false,Af]) (f.fld 3).asList.length 0 e (by omega) trivial
  rw[Ar]at q;exact q.1
 have M:∀e:Int,aap ((Y4 S176_12)) ((),e,(0:Int),f)=some ((),(f.fld 4).asList.foldl atr e,f):=λe=>by
  have G:=h.enums;have q:=aak (step:=(Y4 S176_12)) (λk(e:Int)=>((),e,(k:Int),f)) (λe=>((),e,f)) (f.fld 4).asList .bad atr (λ_ _=>True) (λk e m _=>by
   have o:=h.enum _ (aas m .bad);refine⟨?_,trivial⟩;simp only[Y4,S176_12,aai,aaa,m,decide_true,Ad,Ae,adt _ _ o.notes o.note,aje,Aa,aat,m2 k m,abh (i:=k) (by omega)];rfl) (λe _=>by
   simp only[Y4,S176_12,aai,Nat.lt_irrefl,decide_false,Af]) (f.fld 4).asList.length 0 e (by omega) trivial
  rw[Ar]at q;exact q.1
 have O:∀e:Int,aap ((Y4 S176_20)) ((),e,(0:Int),f)=some ((f.fld 5).asList.foldl a6j e,f):=λe=>by
  have G:=h.svcs;have q:=aak (step:=(Y4 S176_20)) (λk(e:Int)=>((),e,(k:Int),f)) (λe=>(e,f)) (f.fld 5).asList .bad a6j (λ_ _=>True) (λk e m _=>by
   have o:=h.svc _ (aas m .bad);refine⟨?_,trivial⟩;simp only[Y4,S176_20,aai,aaa,m,decide_true,Ad,Ae,adt _ _ o.notes o.note,aje,Aa,aat,I k m,abh (i:=k) (by omega)];rfl) (λe _=>by
   simp only[Y4,S176_20,aai,Nat.lt_irrefl,decide_false,Af]) (f.fld 5).asList.length 0 e (by omega) trivial
  rw[Ar]at q;exact q.1
 unfold F176 afv;simp only[aat,J,M,O,Aa]
def nv(l:List PV)(t:Int):PV:=PV.agg [(PV.slice l),(PV.int t)]
def aom(m:PV):List PV:=nv (m.fld 4).asList 1::(m.fld 1).asList.map λx=>nv (x.fld 8).asList 2
def aj9(m:PV):List PV:=nv (m.fld 4).asList 3::(m.fld 2).asList.map λx=>nv (x.fld 2).asList 4
def ax3(m:PV):List PV:=nv (m.fld 2).asList 5::(m.fld 1).asList.map λx=>nv (x.fld 4).asList 6
def aek(f:PV):List PV:=(f.fld 3).asList.flatMap aom++(f.fld 4).asList.flatMap aj9++(f.fld 5).asList.flatMap ax3
theorem ap6{α:Type}(g:α->List PV):∀(l:List α)(acc:List PV),l.foldl (λacc x=>acc++g x) acc=acc++l.flatMap g:=by
 intro l;induction l with
 |nil=>intro acc;simp
 |cons x r m=>grind
theorem ail{α:Type}(g:α->PV):∀(l:List α)(acc:List PV),l.foldl (λacc x=>acc++[g x]) acc=acc++l.map g:=by
 intro l;induction l with
 |nil=>intro acc;simp
 |cons x r m=>grind
theorem aks{l:List PV}{k i:Nat}(m:k<l.length):abt (l.drop k) i=((l.getD k .bad).fld i).asList.length+1+abt (l.drop (k+1)) i:=by rw[aa2 m .bad];rfl
theorem aza{b:List PV}{x:PV}(h:b.length<=100000000):decide (b.length+[x].length<=accMax)=true:=Ah (by grind[accMax])
theorem bkz(f m:PV)(o:List PV)(n i:Int)(xs:List PV)(H:xs.length<=1048576)(acc:List PV)(G:acc.length+xs.length<=100000000):
 aap ((Y10 S203_8)) ((),acc,o,n,i,xs,(xs.length:Int),(0:Int),f,m)=some ((),acc++xs.map (λx=>nv (x.fld 8).asList 2),o,n,i,f,m):=by
 have q:=aak (step:=(Y10 S203_8)) (λk(acc:List PV)=>((),acc,o,n,i,xs,(xs.length:Int),(k:Int),f,m)) (λacc=>((),acc,o,n,i,f,m)) xs .bad (λacc x=>acc++[nv (x.fld 8).asList 2]) (λk acc=>acc.length+(xs.length-k)<=100000000) (λk acc t z=>by
  refine⟨?_,by simp;omega⟩;simp only[Y10,S203_8,aai,aaa,t,decide_true,Ad,Ae,aza (show acc.length<=100000000 by omega),abh (i:=k) (by omega)];rfl) (λacc _=>by
  simp only[Y10,S203_8,aai,Nat.lt_irrefl,decide_false,Af]) xs.length 0 acc (by omega) (by omega)
 grind[ail]
theorem bky(f m:PV)(o:List PV)(n i:Int)(xs:List PV)(H:xs.length<=1048576)(acc:List PV)(G:acc.length+xs.length<=100000000):
 aap ((Y10 S203_18)) ((),acc,o,n,i,xs,(xs.length:Int),(0:Int),f,m)=some ((),acc++xs.map (λx=>nv (x.fld 2).asList 4),o,n,i,f,m):=by
 have q:=aak (step:=(Y10 S203_18)) (λk(acc:List PV)=>((),acc,o,n,i,xs,(xs.length:Int),(k:Int),f,m)) (λacc=>((),acc,o,n,i,f,m)) xs .bad (λacc x=>acc++[nv (x.fld 2).asList 4]) (λk acc=>acc.length+(xs.length-k)<=100000000) (λk acc t z=>by
  refine⟨?_,by simp;omega⟩;simp only[Y10,S203_18,aai,aaa,t,decide_true,Ad,Ae,aza (show acc.length<=100000000 by omega),abh (i:=k) (by omega)];rfl) (λacc _=>by
  simp only[Y10,S203_18,aai,Nat.lt_irrefl,decide_false,Af]) xs.length 0 acc (by omega) (by omega)
 grind[ail]
theorem bk0(f m:PV)(o:List PV)(n i:Int)(xs:List PV)(H:xs.length<=1048576)(acc:List PV)(G:acc.length+xs.length<=100000000):
 aap ((Y9 S203_28)) (acc,o,n,i,xs,(xs.length:Int),(0:Int),f,m)=some (acc++xs.map (λx=>nv (x.fld 4).asList 6),o,n,i,f,m):=by
 have q:=aak (step:=(Y9 S203_28)) (λk(acc:List PV)=>(acc,o,n,i,xs,(xs.length:Int),(k:Int),f,m)) (λacc=>(acc,o,n,i,f,m)) xs .bad (λacc x=>acc++[nv (x.fld 4).asList 6]) (λk acc=>acc.length+(xs.length-k)<=100000000) (λk acc t z=>by
  refine⟨?_,by simp;omega⟩;simp only[Y9,S203_28,aai,aaa,t,decide_true,Ad,Ae,aza (show acc.length<=100000000 by omega),abh (i:=k) (by omega)];rfl) (λacc _=>by
  simp only[Y9,S203_28,aai,Nat.lt_irrefl,decide_false,Af]) xs.length 0 acc (by omega) (by omega)
 grind[ail]
theorem nl_eq(f:PV)(h:OkFile f):F203 f=some (aek f):=by
 have G:=h.many;have M:=aak (step:=(Y6 S203_4)) (λk(acc:List PV)=>((),acc,(f.fld 3).asList,((f.fld 3).asList.length:Int),(k:Int),f)) (λacc=>((),acc,f)) (f.fld 3).asList .bad (λacc m=>acc++aom m) (λk acc=>acc.length+abt ((f.fld 3).asList.drop k) 1<=7000000-abt (f.fld 4).asList 2-abt (f.fld 5).asList 1) (λk acc o H=>by
  have z:=h.msg _ (aas o .bad);have I:=h.msgs;have J:=aks (i:=1) o;have t:=z.fields;refine⟨?_,by grind[List.length_append,aom,List.length_cons,List.length_map]⟩;simp only[Y6,S203_4,aai,aaa,o,decide_true,Ad,Ae,aza (show acc.length<=100000000 by omega),aat,bkz f _ _ _ _ _ t _ (show(acc++[PV.agg [(PV.slice (((f.fld 3).asList.getD k .bad).fld 4).asList),(PV.int (1:Int))]]).length+_<=100000000 by grind),Aa,abh (i:=k) (by omega)];rw[Aq];rfl) (λacc _=>by
  simp only[Y6,S203_4,aai,Nat.lt_irrefl,decide_false,Af]) (f.fld 3).asList.length 0 [] (by omega) (by grind)
 rw[Ar,ap6,Aw,List.drop_length]at M;have V:((f.fld 3).asList.flatMap aom).length+0<=7000000-abt (f.fld 4).asList 2-abt (f.fld 5).asList 1:=M.2;have O:=aak (step:=(Y6 S203_14)) (λk(acc:List PV)=>((),acc,(f.fld 4).asList,((f.fld 4).asList.length:Int),(k:Int),f)) (λacc=>((),acc,f)) (f.fld 4).asList .bad (λacc m=>acc++aj9 m) (λk acc=>acc.length+abt ((f.fld 4).asList.drop k) 2<=7000000+abt (f.fld 4).asList 2) (λk acc o H=>by
  have z:=h.enum _ (aas o .bad);have I:=h.enums;have J:=aks (i:=2) o;have t:=z.items;refine⟨?_,by grind[List.length_append,aj9,List.length_cons,List.length_map]⟩;simp only[Y6,S203_14,aai,aaa,o,decide_true,Ad,Ae,aza (show acc.length<=100000000 by omega),aat,bky f _ _ _ _ _ t _ (show(acc++[PV.agg [(PV.slice (((f.fld 4).asList.getD k .bad).fld 4).asList),(PV.int (3:Int))]]).length+_<=100000000 by grind),Aa,abh (i:=k) (by omega)];rw[Aq];rfl) (λacc _=>by
  simp only[Y6,S203_14,aai,Nat.lt_irrefl,decide_false,Af]) (f.fld 4).asList.length 0 ((f.fld 3).asList.flatMap aom) (by omega) (by grind)
 rw[Ar,ap6,List.drop_length]at O;have W:((f.fld 3).asList.flatMap aom++(f.fld 4).asList.flatMap aj9).length+0<=7000000+abt (f.fld 4).asList 2:=O.2;have U:=aak (step:=(Y5 S203_24)) (λk(acc:List PV)=>(acc,(f.fld 5).asList,((f.fld 5).asList.length:Int),(k:Int),f)) (λacc=>(acc,f)) (f.fld 5).asList .bad (λacc m=>acc++ax3 m) (λk acc=>acc.length+abt ((f.fld 5).asList.drop k) 1<=7000000+abt (f.fld 4).asList 2+abt (f.fld 5).asList 1) (λk acc o H=>by
  have z:=h.svc _ (aas o .bad);have I:=h.svcs;have J:=aks (i:=1) o;have t:=z.meths;refine⟨?_,by grind[List.length_append,ax3,List.length_cons,List.length_map]⟩;simp only[Y5,S203_24,aai,aaa,o,decide_true,Ad,Ae,aza (show acc.length<=100000000 by omega),aat,bk0 f _ _ _ _ _ t _ (show(acc++[PV.agg [(PV.slice (((f.fld 5).asList.getD k .bad).fld 2).asList),(PV.int (5:Int))]]).length+_<=100000000 by grind),Aa,abh (i:=k) (by omega)];rw[Aq];rfl) (λacc _=>by
  simp only[Y5,S203_24,aai,Nat.lt_irrefl,decide_false,Af]) (f.fld 5).asList.length 0 ((f.fld 3).asList.flatMap aom++(f.fld 4).asList.flatMap aj9) (by omega) (by grind)
 rw[Ar,ap6]at U;unfold F203 aek;rw[show(0:Int)=((0:Nat):Int)from rfl];grind[aat]
noncomputable def errL(l:List PV)(e:Int):Int:=l.foldl (λe n=>errN e (n.fld 0).asList (n.fld 1).asInt) e
theorem a9a:∀(l:List PV)(e:Int),e≠0->errL l e=e:=by
 intro l;induction l with
 |nil=>intro e _;rfl
 |cons n r t=>
  intro e o;have m:errN e (n.fld 0).asList (n.fld 1).asInt=e:=by unfold errN;grind
  show errL r (errN e (n.fld 0).asList (n.fld 1).asInt)=e;grind
theorem a2t(a b:List PV)(e:Int):errL (a++b) e=errL b (errL a e):=List.foldl_append
theorem bdw(m:PV)(e:Int):errL (aom m) e=a6i e m:=by unfold errL aom a6i;rw[List.foldl_cons,List.foldl_map];rfl
theorem a8y(m:PV)(e:Int):errL (aj9 m) e=atr e m:=by unfold errL aj9 atr;rw[List.foldl_cons,List.foldl_map];rfl
theorem bdx(m:PV)(e:Int):errL (ax3 m) e=a6j e m:=by unfold errL ax3 a6j;rw[List.foldl_cons,List.foldl_map];rfl
theorem a8z(g:PV->List PV)(k:Int->PV->Int)(h:∀m e,errL (g m) e=k e m):∀(l:List PV)(e:Int),errL (l.flatMap g) e=l.foldl k e:=by
 intro l;induction l with
 |nil=>intro e;rfl
 |cons m r o=>grind[a2t]
theorem axf(f:PV):errL (aek f) 0=afv f:=by unfold aek afv;grind[a2t,a8z,aom,a6i,bdw,aj9,atr,a8y,ax3,a6j,bdx]
def NvOk(n:PV):Prop:=(n.fld 0).asList.length<=1048576/\∀x,x∈(n.fld 0).asList->ab5 x
theorem ba4(f:PV)(h:OkFile f):∀n,n∈aek f->NvOk n:=by
 intro n o;unfold aek at o;rcases Bm.1 o with o|o
 ·rcases Bm.1 o with o|o
  ·obtain⟨m,G,o⟩:=List.mem_flatMap.1 o;have t:=h.msg m G;rcases Bi.1 o with rfl|o
   ·exact⟨t.notes,t.note⟩
   ·obtain⟨x,z,rfl⟩:=List.mem_map.1 o;exact⟨(t.field x z).notes,(t.field x z).note⟩
  ·obtain⟨m,G,o⟩:=List.mem_flatMap.1 o;have t:=h.enum m G;rcases Bi.1 o with rfl|o
   ·exact⟨t.notes,t.note⟩
   ·obtain⟨x,z,rfl⟩:=List.mem_map.1 o;exact⟨(t.item x z).notes,(t.item x z).note⟩
 ·obtain⟨m,G,o⟩:=List.mem_flatMap.1 o;have t:=h.svc m G;rcases Bi.1 o with rfl|o
  ·exact⟨t.notes,t.note⟩
  ·obtain⟨x,z,rfl⟩:=List.mem_map.1 o;exact⟨(t.meth x z).notes,(t.meth x z).note⟩
theorem aui(f:PV)(l:List PV)(M:l.length<=100000000)(I:∀n,n∈l->NvOk n):∀(k i:Nat),i+k=l.length->aap ((Y5 S139_9)) ((),l,(l.length:Int),(i:Int),f)=some (bif errL (l.drop i) 0==0 then .inr ((),f)else .inl (errL (l.drop i) 0,f)):=by
 intro k;induction k with
 |zero=>
  intro i H;have:i=l.length:=by omega
  subst this;rw[List.drop_length];exact aae (by simp only[Y5,S139_9,aai,Nat.lt_irrefl,decide_false,Af];rfl)
 |succ k J=>
  intro i H;have m:i<l.length:=by omega
  have z:=I _ (aas m .bad);have t:=a2m (((l.getD i .bad).fld 0).asList) ((l.getD i .bad).fld 1).asInt z.1 z.2;have G:errL (l.drop i) 0=errL (l.drop (i+1)) (ab3 ((l.getD i .bad).fld 0).asList ((l.getD i .bad).fld 1).asInt):=by rw[aa2 m .bad];rfl
  rw[G];by_cases o:ab3 ((l.getD i .bad).fld 0).asList ((l.getD i .bad).fld 1).asInt=0
  ·rw[o]at t ⊢;rw[<-J (i+1) (by omega)];refine aan ?_;simp only[Y5,S139_9,aai,aaa,m,decide_true,Ad,Ae,t,Aa,abh (i:=i) (by omega)];rfl
  ·rw[a9a _ _ o,beqI o];refine aae ?_;simp only[Y5,S139_9,aai,aaa,m,decide_true,Ad,Ae,t,Aa,bneI o];rfl
end Go.Ab
namespace Go.Ab
open Go
set_option maxRecDepth 100000
theorem bam{name:Bn}(h:adb name≠0):name.length<=10/\adb name≠6/\adb name≠8:=by
 by_cases m:name∈abm
 ·simp only[abm,Bi,List.not_mem_nil,or_false]at m;have e:∀k:Int,k≠6/\k≠8->name.length<=10->some (adb name)=some k->name.length<=10/\adb name≠6/\adb name≠8:=λk m t o=>by grind
  rcases m with rfl|rfl|rfl|rfl|rfl|rfl|rfl|rfl|rfl|rfl|rfl|rfl|rfl
  ·exact e 1 (by decide) (by decide) (by kernel_rfl)
  ·exact e 1 (by decide) (by decide) (by kernel_rfl)
  ·exact e 1 (by decide) (by decide) (by kernel_rfl)
  ·exact e 7 (by decide) (by decide) (by kernel_rfl)
  ·exact e 7 (by decide) (by decide) (by kernel_rfl)
  ·exact e 7 (by decide) (by decide) (by kernel_rfl)
  ·exact e 7 (by decide) (by decide) (by kernel_rfl)
  ·exact e 4 (by decide) (by decide) (by kernel_rfl)
  ·exact e 4 (by decide) (by decide) (by kernel_rfl)
  ·exact e 4 (by decide) (by decide) (by kernel_rfl)
  ·exact e 4 (by decide) (by decide) (by kernel_rfl)
  ·exact e 3 (by decide) (by decide) (by kernel_rfl)
  ·exact e 3 (by decide) (by decide) (by kernel_rfl)
 grind[absurd,af2]
theorem akz{n:PV}(h:adl n=true):(adg n).length<=10/\aa0 (nVal n)≠6/\aa0 (nVal n)≠8:=by unfold adl at h;simp only[Ai]at h;grind[adb,adg,aa0,nVal,atj,bam]
def aeq(n:PV):Bn:=(adg n++[32,61,32])++amn (nVal n)
theorem ai4{n:PV}(m:ab5 n)(h:adl n=true):(aeq n).length<=5000000:=by have o:=(akz h).1;have t:=amo (nVal n) m.1.2.1;simp[aeq];omega
theorem ba9(l:List PV)(hl:l.length<=40)(X:∀n,n∈l->ab5 n):∀(m i:Nat)(acc:List PV),l.length-i<=m->i<=l.length->acc.length+(l.length-i)<=1000->
 aap ((Y4 S400_4)) (acc,l,(l.length:Int),(i:Int))=some (bif (l.drop i).all adl then .inr (acc++(l.drop i).map λn=>PV.str (aeq n))else .inl []):=by
 intro m
 induction m with
 |zero=>
  intro i acc W V U
  have o:¬i<l.length:=by omega
  rw[Ba (by omega)]
  exact aae (by simp only[Y4,S400_4,aai,o,decide_false,Af,List.all_nil,Ad,List.map_nil,List.append_nil])
 |succ m ih=>
  intro i acc W V U
  by_cases o:i<l.length
  ·have z:l.getD i .bad∈l:=by rw[abw o];exact List.getElem_mem _
   have t:=X _ z;rw[aa2 o .bad,Bb,Bl];have G:=a3t (l.getD i .bad) t;cases H:adl (l.getD i .bad)with
   |false=>rw[H]at G;refine aae ?_;simp only[Y4,S400_4,aai,aaa,o,decide_true,Ad,Ae,G,Aa,Ao,Bool.false_and,Af]
   |true=>
    rw[H]at G;obtain⟨hn,M,O⟩:=akz H;have Y:=bco _ t.1 M O;have Z:=amo (nVal (l.getD i .bad)) t.1.2.1;have I:((l.getD i .bad).fld 0).asStr=adg (l.getD i .bad):=rfl;have J:(l.getD i .bad).fld 1=nVal (l.getD i .bad):=rfl;have l1:decide ((adg (l.getD i .bad)).length+([32,61,32]:Bn).length<=aac)=true:=afe (by simp only[Ak,Al,Am];omega);have l2:decide ((adg (l.getD i .bad)++([32,61,32]:Bn)).length+(amn (nVal (l.getD i .bad))).length<=aac)=true:=afe (by simp only[Ak,Al,Am];omega);have l3:∀x:PV,decide (acc.length+[x].length<=accMax)=true:=λx=>Ah (by unfold accMax;simp;omega);rw[Bool.true_and,aan (x1:=(acc++[PV.str (aeq (l.getD i .bad))],l,(l.length:Int),((i+1:Nat):Int))),ih (i+1) _ (by omega) (by omega) (by simp;omega),Aq]
    ·rfl
    ·simp only[Y4,S400_4,aai,aaa,o,decide_true,Ad,Ae,G,Aa,An,Af,I,J,Y,l1,l2,l3,ar4 (i:=i) (by omega),aeq]
  ·rw[Ba (by omega)];exact aae (by simp only[Y4,S400_4,aai,o,decide_false,Af,List.all_nil,Ad,List.map_nil,List.append_nil])
def ahp:List PV->Bn
 |[]=>[]
 |n::r=>[44,32]++aeq n++ahp r
theorem arl(l:List PV)(o:∀n,n∈l->ab5 n)(m:l.all adl=true):(ahp l).length<=5000002*l.length:=by
 induction l with
 |nil=>simp[ahp]
 |cons n r t=>simp only[Bb,Ai]at m;grind[ai4,ahp]
theorem bek(n:PV)(r:List PV):([44,32]:Bn).intercalate ((n::r).map aeq)=aeq n++ahp r:=by
 induction r generalizing n with
 |nil=>simp[List.intercalate,ahp]
 |cons x r m=>grind[ahp,List.intercalate,List.intersperse_cons_cons,List.flatten_cons]
noncomputable def ay2:List PV->Bn
 |[]=>[]
 |n::r=>bif (n::r).all adl then[91]++(aeq n++ahp r)++[93]else[]
theorem a0x(l:List PV)(z:l.length<=40)(t:∀n,n∈l->ab5 n):F400 l=some (ay2 l):=by
 have h:=ba9 l z t l.length 0 [] (by omega) (by omega) (by simp;omega);unfold F400;rw[show((0:Nat):Int)=(0:Int)from rfl]at h;rw[aat,h,Ar,Aw];cases l with
 |nil=>rfl
 |cons n r=>
  rw[show ay2 (n::r)=bif (n::r).all adl then[91]++(aeq n++ahp r)++[93]else[]from rfl];cases o:(n::r).all adl with
  |false=>rfl
  |true=>
   have m:=o;simp only[Bb,Ai]at m;have X:=ai4 (t n (by simp)) m.1;have Y:=arl r (λx V=>t x (by simp[V])) m.2;have G:r.length<=39:=by simp at z;omega
   have U:((n::r).map λn=>PV.str (aeq n)).map PV.asStr=(n::r).map aeq:=by rw[List.map_map];rfl
   have O:amr 0 ((n::r).map λn=>PV.str (aeq n)) ([44,32]:Bn)=some (aeq n++ahp r):=by
    unfold amr;rw[U,bek];have H:Nat.ble ((n::r).map λn=>PV.str (aeq n)).length 140737488355328=true:=by rw[Nat.ble_eq];simp;omega
    have I:Nat.ble (aeq n++ahp r).length 140737488355328=true:=by rw[Nat.ble_eq];simp;omega
    rw[H,I];rfl
   have W:((((n::r).map λn=>PV.str (aeq n)).length:Int)==(0:Int))=false:=by simp;omega
   have J:decide (([91]:Bn).length+(aeq n++ahp r).length<=aac)=true:=afe (by simp only[Ak,Al,Am];omega);have M:decide ((([91]:Bn)++(aeq n++ahp r)).length+([93]:Bn).length<=aac)=true:=afe (by simp only[Ak,Al,Am];omega);simp only[Ad,Aa,aa6,W,Af,O,J,M]
def a0z(i:Nat)(n:PV):Bn:=(if 0<i then[44,32]else[])++aeq n
def refT:List PV->Nat->Bn
 |[],_=>[]
 |n::r,i=>a0z i n++refT r (i+1)
theorem bbu(r:List PV)(i:Nat):refT r (i+1)=ahp r:=by
 induction r generalizing i with
 |nil=>rfl
 |cons n r m=>rw[refT,ahp,m,a0z,if_pos (by omega)]
theorem ayn(l:List PV)(hl:l.length<=40)(hs:∀n,n∈l->ab5 n):∀(m i:Nat)(acc:Bn),l.length-i<=m->i<=l.length->acc.length+6000000*(l.length-i)<=1000000000000->
 aap ((Y3 S360_6)) (l,acc,(i:Int))=some (bif (l.drop i).all adl then .inr (acc++refT (l.drop i) i)else .inl []):=by
 intro m
 induction m with
 |zero=>
  intro i acc Y X V
  have o:¬i<l.length:=by omega
  rw[Ba (by omega)]
  exact aae (by simp only[Y3,S360_6,aai,o,decide_false,Af,List.all_nil,Ad,refT,List.append_nil])
 |succ m ih=>
  intro i acc Y X V
  by_cases o:i<l.length
  ·have G:l.getD i .bad∈l:=by rw[abw o];exact List.getElem_mem _
   have t:=hs _ G;rw[aa2 o .bad,Bb,refT];have I:=ara (l.getD i .bad) t;cases H:adl (l.getD i .bad)with
   |false=>rw[H]at I;refine aae ?_;simp only[Y3,S360_6,aai,aaa,o,decide_true,Ad,Ae,I,Aa,Ao,Bool.false_and,Af]
   |true=>
    rw[H]at I;obtain⟨hn,O,U⟩:=akz H;have ht:=atx _ t.1 O U;have aa:=amo (nVal (l.getD i .bad)) t.1.2.1;have J:((l.getD i .bad).fld 0).asStr=adg (l.getD i .bad):=rfl;have M:(l.getD i .bad).fld 1=nVal (l.getD i .bad):=rfl;have l1:decide ((adg (l.getD i .bad)).length+([32,61,32]:Bn).length<=aac)=true:=afe (by simp only[Ak,Al,Am];omega);have l2:decide ((adg (l.getD i .bad)++([32,61,32]:Bn)).length+(amn (nVal (l.getD i .bad))).length<=aac)=true:=afe (by simp only[Ak,Al,Am];omega);have l3:decide (acc.length+([44,32]:Bn).length<=aac)=true:=afe (by simp only[Ak,Al,Am];omega);have l4:decide ((acc++([44,32]:Bn)).length+(adg (l.getD i .bad)++([32,61,32]:Bn)++amn (nVal (l.getD i .bad))).length<=aac)=true:=afe (by simp only[Ak,Al,Am];omega);have l5:decide (acc.length+(adg (l.getD i .bad)++([32,61,32]:Bn)++amn (nVal (l.getD i .bad))).length<=aac)=true:=afe (by simp only[Ak,Al,Am];omega);have W:decide ((i:Int)>(0:Int))=decide (0<i):=by rw[decide_eq_decide];omega
    have ab:=ai4 t H;have Z:(a0z i (l.getD i .bad)).length<=5000002:=by
     unfold a0z;by_cases z:0<i
     ·rw[if_pos z,Ak];simp only[Al,Am];omega
     ·rw[if_neg z,Ak];simp only[Am];omega
    rw[Bool.true_and,aan (x1:=(l,acc++a0z i (l.getD i .bad),((i+1:Nat):Int))),ih (i+1) _ (by omega) (by omega) (by rw[Ak];omega),Aq];simp only[Y3,S360_6,aai,aaa,o,decide_true,Ad,Ae,I,Aa,An,Af,J,M,ht,W,l1,l2,l3,l4,l5,ar4 (i:=i) (by omega)];unfold a0z aeq;by_cases z:0<i
    ·simp only[z,decide_true,Ad,A8,Aq]
    ·simp only[z,decide_false,Af,A9,Aw]
  ·rw[Ba (by omega)];exact aae (by simp only[Y3,S360_6,aai,o,decide_false,Af,List.all_nil,Ad,refT,List.append_nil])
theorem ast(l:List PV)(z:l.length<=40)(t:∀n,n∈l->ab5 n):F360 l=some (ay2 l):=by
 have h:=ayn l z t l.length 0 [91] (by omega) (by omega) (by simp;omega);unfold F360;cases l with
 |nil=>rfl
 |cons n r=>
  have J:(((n::r).length:Int)==(0:Int))=false:=by simp;omega
  rw[show((0:Nat):Int)=(0:Int)from rfl]at h;rw[J,Af,aat,h,Ar];rw[show ay2 (n::r)=bif (n::r).all adl then[91]++(aeq n++ahp r)++[93]else[]from rfl];cases o:(n::r).all adl with
  |false=>rfl
  |true=>
   have m:=o;simp only[Bb,Ai]at m;have M:=ai4 (t n (by simp)) m.1;have O:=arl r (λx I=>t x (by simp[I])) m.2;have G:r.length<=39:=by simp at z;omega
   have e:refT (n::r) 0=aeq n++ahp r:=by rw[refT,bbu];simp[a0z]
   have H:decide ((([91]:Bn)++(aeq n++ahp r)).length+([93]:Bn).length<=aac)=true:=afe (by simp only[Ak,Al,Am];omega);simp only[Ad,Aa,aa6,e,H]
end Go.Ab
