/- The texts, annotations and counts of a file: the same in the program and the specification. -/
import Derived.Test.YticdffgjgfmicaaGreatDoorPCk5K
set_option linter.unusedVariables false
set_option linter.unusedSimpArgs false
set_option linter.unnecessarySimpa false
namespace Go.Ab
open Go
set_option maxRecDepth 100000
def txL(l:List PV):Bool:=l.all λx=>valid x.asStr
def bbq(m:PV):Bool:=txL (m.fld 3).asList
def arc(f:PV):Bool:=txL (f.fld 2).asList&&(f.fld 3).asList.all bbq
theorem bga(l:List PV)(m:l.length<=1048576):F281_c153 l ()=some (txL l):=
 ev_tx l (λx=>valid x.asStr) m λx o=>avq _
theorem bfd(f:PV)(h:OkFile f):F171 f=some (arc f):=by unfold F171 arc;simp only[bga _ h.imports,Aa,ev_tm _ bbq h.msgs λx m=>by unfold F282;rw[bga _ (h.msg x m).gone];rfl];grind
theorem bgb(l:List PV)(z:l.length<=1048576)(o:∀x,x∈l->x.asStr.length<=1048576):F226 l=some (txL l):=by
 have h:=acj (step:=(Y2 S226_3)) (λi=>(l,(i:Int))) l.length (λi=>valid (l.getD i .bad).asStr) (Sum.inl false:Bool⊕Unit) (Sum.inr ()) (λi m=>by
  have t:=akp (l.getD i .bad).asStr (by have:=o _ (aaq m .bad);omega);simp only[Y2,S226_3,aai,aaa,m,decide_true,Ad,Ae,t,Aa,abf (i:=i) (by omega)];cases valid (l.getD i .bad).asStr<;>rfl) (by
  simp only[Y2,S226_3,aai,Nat.lt_irrefl,decide_false,Af]) l.length 0 (by omega)
 rw[ayj (λx:PV=>valid x.asStr)]at h;unfold F226 txL;rw[aas,show(0:Int)=((0:Nat):Int)from rfl,h];cases l.all λx=>valid x.asStr<;>rfl
theorem au7(f:PV)(h:OkFile f)(b:Bool):aan ((Y4 S138_8)) ((),b,(0:Int),f)=some ((),b&&(f.fld 3).asList.all bbq,f):=
 abv (step:=(Y4 S138_8)) (λk b=>((),b,(k:Int),f)) (λb=>((),b,f)) (f.fld 3).asList .bad bbq (λk b m=>by
  have o:=h.msg _ (aaq m .bad);have t:=h.msgs;simp only[Y4,S138_8,aai,aaa,m,decide_true,Ad,Ae,bgb _ o.gone o.goneS,Aa,abf (i:=k) (by omega),imp];cases b<;>rfl) (λb=>by
  simp only[Y4,S138_8,aai,Nat.lt_irrefl,decide_false,Af]) b
def ak4(m:PV):Bool:=decide ((m.fld 1).asList.length<=64)&&decide ((m.fld 2).asList.length<=16)&&decide ((m.fld 3).asList.length<=16)
def ag5(m:PV):Bool:=decide ((m.fld 2).asList.length<=64)&&decide ((m.fld 3).asList.length<=16)
def ao4(m:PV):Bool:=decide ((m.fld 1).asList.length<=64)
def ao5(f:PV):Bool:=decide ((f.fld 2).asList.length<=16)&&decide ((f.fld 3).asList.length<=64)&&decide ((f.fld 4).asList.length<=64)&&decide ((f.fld 5).asList.length<=64)
def afw(f:PV):Bool:=ao5 f&&(f.fld 3).asList.all ak4&&(f.fld 4).asList.all ag5&&(f.fld 5).asList.all ao4
theorem le64(n:Nat):decide ((n:Int)<=(64:Int))=decide (n<=64):=leI n 64
theorem le16(n:Nat):decide ((n:Int)<=(16:Int))=decide (n<=16):=leI n 16
theorem a7i(m:PV):F284 m=some (ak4 m):=by
 unfold F284 ak4;have e:decide ((if(((m.fld 3).asList.length:Int))>((m.fld 2).asList.length:Int)then((m.fld 3).asList.length:Int)else((m.fld 2).asList.length:Int))<=(16:Int))=(decide ((m.fld 2).asList.length<=16)&&decide ((m.fld 3).asList.length<=16)):=by grind
 grind
theorem a3r(m:PV):F285 m=some (ag5 m):=by grind[F285,ag5,le64,le16,ag6]
theorem a7j(m:PV):F286 m=some (ao4 m):=by grind[F286,ao4,le64]
theorem a7l(f:PV)(h:OkFile f):F174 f=some (afw f):=by
 have e:(bif (decide (((f.fld 2).asList.length:Int)>(16:Int)))then true else(decide ((if((f.fld 5).asList.length:Int)>(if((f.fld 4).asList.length:Int)>((f.fld 3).asList.length:Int)then((f.fld 4).asList.length:Int)else((f.fld 3).asList.length:Int))then((f.fld 5).asList.length:Int)else(if((f.fld 4).asList.length:Int)>((f.fld 3).asList.length:Int)then((f.fld 4).asList.length:Int)else((f.fld 3).asList.length:Int)))>(64:Int))))=!ao5 f:=by unfold ao5;grind
 unfold F174 afw;simp only[e,ev_cm _ ak4 h.msgs λx m=>a7i x,ev_ce _ ag5 h.enums λx m=>a3r x,ev_cs _ ao4 h.svcs λx m=>a7j x,Aa];cases ao5 f<;>cases(f.fld 3).asList.all ak4<;>cases(f.fld 4).asList.all ag5<;>rfl
theorem axp(f:PV)(h:OkFile f):F228 f=some (afw f):=by
 have t:∀b,aan ((Y4 S228_4)) ((),b,(0:Int),f)=some ((),b&&(f.fld 3).asList.all ak4,f):=λb=>
  abv (step:=(Y4 S228_4)) (λk b=>((),b,(k:Int),f)) (λb=>((),b,f)) (f.fld 3).asList .bad ak4 (λk b m=>by
   have o:=h.msgs;simp only[Y4,S228_4,aai,aaa,m,decide_true,Ad,Ae,le64,le16,abf (i:=k) (by omega),imp,ag6,aga];unfold ak4;simp only[Bool.and_assoc]) (λb=>by
   simp only[Y4,S228_4,aai,Nat.lt_irrefl,decide_false,Af]) b
 have z:∀b,aan ((Y4 S228_8)) ((),b,(0:Int),f)=some ((),b&&(f.fld 4).asList.all ag5,f):=λb=>
  abv (step:=(Y4 S228_8)) (λk b=>((),b,(k:Int),f)) (λb=>((),b,f)) (f.fld 4).asList .bad ag5 (λk b m=>by
   have o:=h.enums;simp only[Y4,S228_8,aai,aaa,m,decide_true,Ad,Ae,le64,le16,abf (i:=k) (by omega),imp,ag6,aga];unfold ag5;simp only[Bool.and_assoc]) (λb=>by
   simp only[Y4,S228_8,aai,Nat.lt_irrefl,decide_false,Af]) b
 have G:∀b,aan ((Y4 S228_12)) ((),b,(0:Int),f)=some (b&&(f.fld 5).asList.all ao4,f):=λb=>
  abv (step:=(Y4 S228_12)) (λk b=>((),b,(k:Int),f)) (λb=>(b,f)) (f.fld 5).asList .bad ao4 (λk b m=>by
   have o:=h.svcs;simp only[Y4,S228_12,aai,aaa,m,decide_true,Ad,Ae,le64,abf (i:=k) (by omega),imp,ag6,aga];rfl) (λb=>by
   simp only[Y4,S228_12,aai,Nat.lt_irrefl,decide_false,Af]) b
 have e:(bif (bif (bif (decide (((f.fld 2).asList.length:Int)<=(16:Int)))then(decide (((f.fld 3).asList.length:Int)<=(64:Int)))else false)then(decide (((f.fld 4).asList.length:Int)<=(64:Int)))else false)then(decide (((f.fld 5).asList.length:Int)<=(64:Int)))else false)=ao5 f:=by unfold ao5;simp only[le64,le16,ag6]
 unfold F228 afw;simp only[e,aas,t,z,G,Aa]
noncomputable def errN(e:Int)(l:List PV)(t:Int):Int:=bif e != 0 then e else abz l t
noncomputable def a5d(e:Int)(m:PV):Int:=(m.fld 1).asList.foldl (λe x=>errN e (x.fld 8).asList 2) (errN e (m.fld 4).asList 1)
noncomputable def asw(e:Int)(m:PV):Int:=(m.fld 2).asList.foldl (λe x=>errN e (x.fld 2).asList 4) (errN e (m.fld 4).asList 3)
noncomputable def a5e(e:Int)(m:PV):Int:=(m.fld 1).asList.foldl (λe x=>errN e (x.fld 4).asList 6) (errN e (m.fld 2).asList 5)
noncomputable def afq(f:PV):Int:=(f.fld 5).asList.foldl a5e ((f.fld 4).asList.foldl asw ((f.fld 3).asList.foldl a5d 0))
theorem ai3(a b:Int):F320 a b=some (bif a != 0 then a else b):=by unfold F320;cases(a != (0:Int))<;>rfl
theorem bej(f:PV)(h:OkFile f):F227 f=some (afq f):=by
 have H:∀(i:Nat)(t:i<(f.fld 3).asList.length)(e:Int),aan ((Y5 S227_8)) ((),e,(i:Int),(0:Int),f)=some ((),(((f.fld 3).asList.getD i .bad).fld 1).asList.foldl (λe x=>errN e (x.fld 8).asList 2) e,(i:Int),f):=λi t e=>by
  have o:=h.msg _ (aaq t .bad);have G:=o.fields;have q:=aak (step:=(Y5 S227_8)) (λk(e:Int)=>((),e,(i:Int),(k:Int),f)) (λe=>((),e,(i:Int),f)) (((f.fld 3).asList.getD i .bad).fld 1).asList .bad (λe x=>errN e (x.fld 8).asList 2) (λ_ _=>True) (λk e m _=>by
   have z:=o.field _ (aaq m .bad);refine⟨?_,trivial⟩;simp only[Y5,S227_8,aai,aaa,t,m,decide_true,Ad,Ae,adn _ _ z.notes z.note,ai3,Aa,abf (i:=k) (by omega)];rfl) (λe _=>by
   simp only[Y5,S227_8,aai,aaa,t,decide_true,Ad,Ae,Nat.lt_irrefl,decide_false,Af]) (((f.fld 3).asList.getD i .bad).fld 1).asList.length 0 e (by omega) trivial
  rw[Ar]at q;exact q.1
 have I:∀(i:Nat)(t:i<(f.fld 4).asList.length)(e:Int),aan ((Y5 S227_16)) ((),e,(i:Int),(0:Int),f)=some ((),(((f.fld 4).asList.getD i .bad).fld 2).asList.foldl (λe x=>errN e (x.fld 2).asList 4) e,(i:Int),f):=λi t e=>by
  have o:=h.enum _ (aaq t .bad);have G:=o.items;have q:=aak (step:=(Y5 S227_16)) (λk(e:Int)=>((),e,(i:Int),(k:Int),f)) (λe=>((),e,(i:Int),f)) (((f.fld 4).asList.getD i .bad).fld 2).asList .bad (λe x=>errN e (x.fld 2).asList 4) (λ_ _=>True) (λk e m _=>by
   have z:=o.item _ (aaq m .bad);refine⟨?_,trivial⟩;simp only[Y5,S227_16,aai,aaa,t,m,decide_true,Ad,Ae,adn _ _ z.notes z.note,ai3,Aa,abf (i:=k) (by omega)];rfl) (λe _=>by
   simp only[Y5,S227_16,aai,aaa,t,decide_true,Ad,Ae,Nat.lt_irrefl,decide_false,Af]) (((f.fld 4).asList.getD i .bad).fld 2).asList.length 0 e (by omega) trivial
  rw[Ar]at q;exact q.1
 have J:∀(i:Nat)(t:i<(f.fld 5).asList.length)(e:Int),aan ((Y5 S227_24)) ((),e,(i:Int),(0:Int),f)=some ((),(((f.fld 5).asList.getD i .bad).fld 1).asList.foldl (λe x=>errN e (x.fld 4).asList 6) e,(i:Int),f):=λi t e=>by
  have o:=h.svc _ (aaq t .bad);have G:=o.meths;have q:=aak (step:=(Y5 S227_24)) (λk(e:Int)=>((),e,(i:Int),(k:Int),f)) (λe=>((),e,(i:Int),f)) (((f.fld 5).asList.getD i .bad).fld 1).asList .bad (λe x=>errN e (x.fld 4).asList 6) (λ_ _=>True) (λk e m _=>by
   have z:=o.meth _ (aaq m .bad);refine⟨?_,trivial⟩;simp only[Y5,S227_24,aai,aaa,t,m,decide_true,Ad,Ae,adn _ _ z.notes z.note,ai3,Aa,abf (i:=k) (by omega)];rfl) (λe _=>by
   simp only[Y5,S227_24,aai,aaa,t,decide_true,Ad,Ae,Nat.lt_irrefl,decide_false,Af]) (((f.fld 5).asList.getD i .bad).fld 1).asList.length 0 e (by omega) trivial
  rw[Ar]at q;exact q.1
 have M:∀e:Int,aan ((Y4 S227_4)) ((),e,(0:Int),f)=some ((),(f.fld 3).asList.foldl a5d e,f):=λe=>by
  have G:=h.msgs;have q:=aak (step:=(Y4 S227_4)) (λk(e:Int)=>((),e,(k:Int),f)) (λe=>((),e,f)) (f.fld 3).asList .bad a5d (λ_ _=>True) (λk e m _=>by
   have o:=h.msg _ (aaq m .bad);refine⟨?_,trivial⟩;simp only[Y4,S227_4,aai,aaa,m,decide_true,Ad,Ae,adn _ _ o.notes o.note,ai3,Aa,aas,H k m,abf (i:=k) (by omega)];rfl) (λe _=>by
   simp only[Y4,S227_4,aai,Nat.lt_irrefl,decide_false,Af]) (f.fld 3).asList.length 0 e (by omega) trivial
  rw[Ar]at q;exact q.1
 have O:∀e:Int,aan ((Y4 S227_12)) ((),e,(0:Int),f)=some ((),(f.fld 4).asList.foldl asw e,f):=λe=>by
  have G:=h.enums;have q:=aak (step:=(Y4 S227_12)) (λk(e:Int)=>((),e,(k:Int),f)) (λe=>((),e,f)) (f.fld 4).asList .bad asw (λ_ _=>True) (λk e m _=>by
   have o:=h.enum _ (aaq m .bad);refine⟨?_,trivial⟩;simp only[Y4,S227_12,aai,aaa,m,decide_true,Ad,Ae,adn _ _ o.notes o.note,ai3,Aa,aas,I k m,abf (i:=k) (by omega)];rfl) (λe _=>by
   simp only[Y4,S227_12,aai,Nat.lt_irrefl,decide_false,Af]) (f.fld 4).asList.length 0 e (by omega) trivial
  rw[Ar]at q;exact q.1
 have U:∀e:Int,aan ((Y4 S227_20)) ((),e,(0:Int),f)=some ((f.fld 5).asList.foldl a5e e,f):=λe=>by
  have G:=h.svcs;have q:=aak (step:=(Y4 S227_20)) (λk(e:Int)=>((),e,(k:Int),f)) (λe=>(e,f)) (f.fld 5).asList .bad a5e (λ_ _=>True) (λk e m _=>by
   have o:=h.svc _ (aaq m .bad);refine⟨?_,trivial⟩;simp only[Y4,S227_20,aai,aaa,m,decide_true,Ad,Ae,adn _ _ o.notes o.note,ai3,Aa,aas,J k m,abf (i:=k) (by omega)];rfl) (λe _=>by
   simp only[Y4,S227_20,aai,Nat.lt_irrefl,decide_false,Af]) (f.fld 5).asList.length 0 e (by omega) trivial
  rw[Ar]at q;exact q.1
 unfold F227 afq;simp only[aas,M,O,U,Aa]
def nv(l:List PV)(t:Int):PV:=PV.agg [(PV.slice l),(PV.int t)]
def an7(m:PV):List PV:=nv (m.fld 4).asList 1::(m.fld 1).asList.map λx=>nv (x.fld 8).asList 2
def aj0(m:PV):List PV:=nv (m.fld 4).asList 3::(m.fld 2).asList.map λx=>nv (x.fld 2).asList 4
def axe(m:PV):List PV:=nv (m.fld 2).asList 5::(m.fld 1).asList.map λx=>nv (x.fld 4).asList 6
def aef(f:PV):List PV:=(f.fld 3).asList.flatMap an7++(f.fld 4).asList.flatMap aj0++(f.fld 5).asList.flatMap axe
theorem apk{α:Type}(g:α->List PV):∀(l:List α)(acc:List PV),l.foldl (λacc x=>acc++g x) acc=acc++l.flatMap g:=by
 intro l;induction l with
 |nil=>intro acc;simp
 |cons x r m=>grind
theorem aie{α:Type}(g:α->PV):∀(l:List α)(acc:List PV),l.foldl (λacc x=>acc++[g x]) acc=acc++l.map g:=by
 intro l;induction l with
 |nil=>intro acc;simp
 |cons x r m=>grind
theorem akl{l:List PV}{k i:Nat}(m:k<l.length):abr (l.drop k) i=((l.getD k .bad).fld i).asList.length+1+abr (l.drop (k+1)) i:=by rw[aa1 m .bad];rfl
theorem ayh{b:List PV}{x:PV}(h:b.length<=100000000):decide (b.length+[x].length<=accMax)=true:=Ah (by grind[accMax])
theorem bjo(f m:PV)(o:List PV)(n i:Int)(xs:List PV)(H:xs.length<=1048576)(acc:List PV)(G:acc.length+xs.length<=100000000):
 aan ((Y10 S172_8)) ((),acc,o,n,i,xs,(xs.length:Int),(0:Int),f,m)=some ((),acc++xs.map (λx=>nv (x.fld 8).asList 2),o,n,i,f,m):=by
 have q:=aak (step:=(Y10 S172_8)) (λk(acc:List PV)=>((),acc,o,n,i,xs,(xs.length:Int),(k:Int),f,m)) (λacc=>((),acc,o,n,i,f,m)) xs .bad (λacc x=>acc++[nv (x.fld 8).asList 2]) (λk acc=>acc.length+(xs.length-k)<=100000000) (λk acc t z=>by
  refine⟨?_,by simp;omega⟩;simp only[Y10,S172_8,aai,aaa,t,decide_true,Ad,Ae,ayh (show acc.length<=100000000 by omega),abf (i:=k) (by omega)];rfl) (λacc _=>by
  simp only[Y10,S172_8,aai,Nat.lt_irrefl,decide_false,Af]) xs.length 0 acc (by omega) (by omega)
 grind[aie]
theorem bjn(f m:PV)(o:List PV)(n i:Int)(xs:List PV)(H:xs.length<=1048576)(acc:List PV)(G:acc.length+xs.length<=100000000):
 aan ((Y10 S172_18)) ((),acc,o,n,i,xs,(xs.length:Int),(0:Int),f,m)=some ((),acc++xs.map (λx=>nv (x.fld 2).asList 4),o,n,i,f,m):=by
 have q:=aak (step:=(Y10 S172_18)) (λk(acc:List PV)=>((),acc,o,n,i,xs,(xs.length:Int),(k:Int),f,m)) (λacc=>((),acc,o,n,i,f,m)) xs .bad (λacc x=>acc++[nv (x.fld 2).asList 4]) (λk acc=>acc.length+(xs.length-k)<=100000000) (λk acc t z=>by
  refine⟨?_,by simp;omega⟩;simp only[Y10,S172_18,aai,aaa,t,decide_true,Ad,Ae,ayh (show acc.length<=100000000 by omega),abf (i:=k) (by omega)];rfl) (λacc _=>by
  simp only[Y10,S172_18,aai,Nat.lt_irrefl,decide_false,Af]) xs.length 0 acc (by omega) (by omega)
 grind[aie]
theorem bjp(f m:PV)(o:List PV)(n i:Int)(xs:List PV)(H:xs.length<=1048576)(acc:List PV)(G:acc.length+xs.length<=100000000):
 aan ((Y9 S172_28)) (acc,o,n,i,xs,(xs.length:Int),(0:Int),f,m)=some (acc++xs.map (λx=>nv (x.fld 4).asList 6),o,n,i,f,m):=by
 have q:=aak (step:=(Y9 S172_28)) (λk(acc:List PV)=>(acc,o,n,i,xs,(xs.length:Int),(k:Int),f,m)) (λacc=>(acc,o,n,i,f,m)) xs .bad (λacc x=>acc++[nv (x.fld 4).asList 6]) (λk acc=>acc.length+(xs.length-k)<=100000000) (λk acc t z=>by
  refine⟨?_,by simp;omega⟩;simp only[Y9,S172_28,aai,aaa,t,decide_true,Ad,Ae,ayh (show acc.length<=100000000 by omega),abf (i:=k) (by omega)];rfl) (λacc _=>by
  simp only[Y9,S172_28,aai,Nat.lt_irrefl,decide_false,Af]) xs.length 0 acc (by omega) (by omega)
 grind[aie]
theorem nl_eq(f:PV)(h:OkFile f):F172 f=some (aef f):=by
 have G:=h.many;have M:=aak (step:=(Y6 S172_4)) (λk(acc:List PV)=>((),acc,(f.fld 3).asList,((f.fld 3).asList.length:Int),(k:Int),f)) (λacc=>((),acc,f)) (f.fld 3).asList .bad (λacc m=>acc++an7 m) (λk acc=>acc.length+abr ((f.fld 3).asList.drop k) 1<=7000000-abr (f.fld 4).asList 2-abr (f.fld 5).asList 1) (λk acc o H=>by
  have z:=h.msg _ (aaq o .bad);have I:=h.msgs;have J:=akl (i:=1) o;have t:=z.fields;refine⟨?_,by grind[List.length_append,an7,List.length_cons,List.length_map]⟩;simp only[Y6,S172_4,aai,aaa,o,decide_true,Ad,Ae,ayh (show acc.length<=100000000 by omega),aas,bjo f _ _ _ _ _ t _ (show(acc++[PV.agg [(PV.slice (((f.fld 3).asList.getD k .bad).fld 4).asList),(PV.int (1:Int))]]).length+_<=100000000 by grind),Aa,abf (i:=k) (by omega)];rw[Ap];rfl) (λacc _=>by
  simp only[Y6,S172_4,aai,Nat.lt_irrefl,decide_false,Af]) (f.fld 3).asList.length 0 [] (by omega) (by grind)
 rw[Ar,apk,Aw,List.drop_length]at M;have V:((f.fld 3).asList.flatMap an7).length+0<=7000000-abr (f.fld 4).asList 2-abr (f.fld 5).asList 1:=M.2;have O:=aak (step:=(Y6 S172_14)) (λk(acc:List PV)=>((),acc,(f.fld 4).asList,((f.fld 4).asList.length:Int),(k:Int),f)) (λacc=>((),acc,f)) (f.fld 4).asList .bad (λacc m=>acc++aj0 m) (λk acc=>acc.length+abr ((f.fld 4).asList.drop k) 2<=7000000+abr (f.fld 4).asList 2) (λk acc o H=>by
  have z:=h.enum _ (aaq o .bad);have I:=h.enums;have J:=akl (i:=2) o;have t:=z.items;refine⟨?_,by grind[List.length_append,aj0,List.length_cons,List.length_map]⟩;simp only[Y6,S172_14,aai,aaa,o,decide_true,Ad,Ae,ayh (show acc.length<=100000000 by omega),aas,bjn f _ _ _ _ _ t _ (show(acc++[PV.agg [(PV.slice (((f.fld 4).asList.getD k .bad).fld 4).asList),(PV.int (3:Int))]]).length+_<=100000000 by grind),Aa,abf (i:=k) (by omega)];rw[Ap];rfl) (λacc _=>by
  simp only[Y6,S172_14,aai,Nat.lt_irrefl,decide_false,Af]) (f.fld 4).asList.length 0 ((f.fld 3).asList.flatMap an7) (by omega) (by grind)
 rw[Ar,apk,List.drop_length]at O;have W:((f.fld 3).asList.flatMap an7++(f.fld 4).asList.flatMap aj0).length+0<=7000000+abr (f.fld 4).asList 2:=O.2;have U:=aak (step:=(Y5 S172_24)) (λk(acc:List PV)=>(acc,(f.fld 5).asList,((f.fld 5).asList.length:Int),(k:Int),f)) (λacc=>(acc,f)) (f.fld 5).asList .bad (λacc m=>acc++axe m) (λk acc=>acc.length+abr ((f.fld 5).asList.drop k) 1<=7000000+abr (f.fld 4).asList 2+abr (f.fld 5).asList 1) (λk acc o H=>by
  have z:=h.svc _ (aaq o .bad);have I:=h.svcs;have J:=akl (i:=1) o;have t:=z.meths;refine⟨?_,by grind[List.length_append,axe,List.length_cons,List.length_map]⟩;simp only[Y5,S172_24,aai,aaa,o,decide_true,Ad,Ae,ayh (show acc.length<=100000000 by omega),aas,bjp f _ _ _ _ _ t _ (show(acc++[PV.agg [(PV.slice (((f.fld 5).asList.getD k .bad).fld 2).asList),(PV.int (5:Int))]]).length+_<=100000000 by grind),Aa,abf (i:=k) (by omega)];rw[Ap];rfl) (λacc _=>by
  simp only[Y5,S172_24,aai,Nat.lt_irrefl,decide_false,Af]) (f.fld 5).asList.length 0 ((f.fld 3).asList.flatMap an7++(f.fld 4).asList.flatMap aj0) (by omega) (by grind)
 rw[Ar,apk]at U;unfold F172 aef;rw[show(0:Int)=((0:Nat):Int)from rfl];grind[aas]
noncomputable def errL(l:List PV)(e:Int):Int:=l.foldl (λe n=>errN e (n.fld 0).asList (n.fld 1).asInt) e
theorem a7u:∀(l:List PV)(e:Int),e≠0->errL l e=e:=by
 intro l;induction l with
 |nil=>intro e _;rfl
 |cons n r t=>
  intro e o;have m:errN e (n.fld 0).asList (n.fld 1).asInt=e:=by unfold errN;grind
  show errL r (errN e (n.fld 0).asList (n.fld 1).asInt)=e;grind
theorem a1i(a b:List PV)(e:Int):errL (a++b) e=errL b (errL a e):=List.foldl_append
theorem bcz(m:PV)(e:Int):errL (an7 m) e=a5d e m:=by unfold errL an7 a5d;rw[List.foldl_cons,List.foldl_map];rfl
theorem a7s(m:PV)(e:Int):errL (aj0 m) e=asw e m:=by unfold errL aj0 asw;rw[List.foldl_cons,List.foldl_map];rfl
theorem bc0(m:PV)(e:Int):errL (axe m) e=a5e e m:=by unfold errL axe a5e;rw[List.foldl_cons,List.foldl_map];rfl
theorem a7t(g:PV->List PV)(k:Int->PV->Int)(h:∀m e,errL (g m) e=k e m):∀(l:List PV)(e:Int),errL (l.flatMap g) e=l.foldl k e:=by
 intro l;induction l with
 |nil=>intro e;rfl
 |cons m r o=>grind[a1i]
theorem awo(f:PV):errL (aef f) 0=afq f:=by unfold aef afq;grind[a1i,a7t,an7,a5d,bcz,aj0,asw,a7s,axe,a5e,bc0]
def NvOk(n:PV):Prop:=(n.fld 0).asList.length<=1048576/\∀x,x∈(n.fld 0).asList->ab1 x
theorem a9v(f:PV)(h:OkFile f):∀n,n∈aef f->NvOk n:=by
 intro n o;unfold aef at o;rcases Bm.1 o with o|o
 ·rcases Bm.1 o with o|o
  ·obtain⟨m,G,o⟩:=List.mem_flatMap.1 o;have t:=h.msg m G;rcases Bi.1 o with rfl|o
   ·exact⟨t.notes,t.note⟩
   ·obtain⟨x,z,rfl⟩:=List.mem_map.1 o;exact⟨(t.field x z).notes,(t.field x z).note⟩
  ·obtain⟨m,G,o⟩:=List.mem_flatMap.1 o;have t:=h.enum m G;rcases Bi.1 o with rfl|o
   ·exact⟨t.notes,t.note⟩
   ·obtain⟨x,z,rfl⟩:=List.mem_map.1 o;exact⟨(t.item x z).notes,(t.item x z).note⟩
 ·obtain⟨m,G,o⟩:=List.mem_flatMap.1 o;have t:=h.svc m G;rcases Bi.1 o with rfl|o
  ·exact⟨t.notes,t.note⟩
  ·obtain⟨x,z,rfl⟩:=List.mem_map.1 o;exact⟨(t.meth x z).notes,(t.meth x z).note⟩
theorem atu(f:PV)(l:List PV)(M:l.length<=100000000)(I:∀n,n∈l->NvOk n):∀(k i:Nat),i+k=l.length->aan ((Y5 S111_9)) ((),l,(l.length:Int),(i:Int),f)=some (bif errL (l.drop i) 0==0 then .inr ((),f)else .inl (errL (l.drop i) 0,f)):=by
 intro k;induction k with
 |zero=>
  intro i H;have:i=l.length:=by omega
  subst this;rw[List.drop_length];exact aae (by simp only[Y5,S111_9,aai,Nat.lt_irrefl,decide_false,Af];rfl)
 |succ k J=>
  intro i H;have m:i<l.length:=by omega
  have z:=I _ (aaq m .bad);have t:=a1b (((l.getD i .bad).fld 0).asList) ((l.getD i .bad).fld 1).asInt z.1 z.2;have G:errL (l.drop i) 0=errL (l.drop (i+1)) (abz ((l.getD i .bad).fld 0).asList ((l.getD i .bad).fld 1).asInt):=by rw[aa1 m .bad];rfl
  rw[G];by_cases o:abz ((l.getD i .bad).fld 0).asList ((l.getD i .bad).fld 1).asInt=0
  ·rw[o]at t ⊢;rw[<-J (i+1) (by omega)];refine aal ?_;simp only[Y5,S111_9,aai,aaa,m,decide_true,Ad,Ae,t,Aa,abf (i:=i) (by omega)];rfl
  ·rw[a7u _ _ o,beqI o];refine aae ?_;simp only[Y5,S111_9,aai,aaa,m,decide_true,Ad,Ae,t,Aa,bneI o];rfl
end Go.Ab
namespace Go.Ab
open Go
set_option maxRecDepth 100000
theorem a9g{name:Bn}(h:ac8 name≠0):name.length<=10/\ac8 name≠6/\ac8 name≠8:=by
 by_cases m:name∈abl
 ·simp only[abl,Bi,List.not_mem_nil,or_false]at m;have e:∀k:Int,k≠6/\k≠8->name.length<=10->some (ac8 name)=some k->name.length<=10/\ac8 name≠6/\ac8 name≠8:=λk m t o=>by grind
  rcases m with rfl|rfl|rfl|rfl|rfl|rfl|rfl|rfl|rfl|rfl|rfl|rfl|rfl
  ·exact e 1 (by decide) (by decide) (by kernel_rfl)
  ·exact e 1 (by decide) (by decide) (by kernel_rfl)
  ·exact e 1 (by decide) (by decide) (by kernel_rfl)
  ·exact e 7 (by decide) (by decide) (by kernel_rfl)
  ·exact e 7 (by decide) (by decide) (by kernel_rfl)
  ·exact e 7 (by decide) (by decide) (by kernel_rfl)
  ·exact e 7 (by decide) (by decide) (by kernel_rfl)
  ·exact e 4 (by decide) (by decide) (by kernel_rfl)
  ·exact e 4 (by decide) (by decide) (by kernel_rfl)
  ·exact e 4 (by decide) (by decide) (by kernel_rfl)
  ·exact e 4 (by decide) (by decide) (by kernel_rfl)
  ·exact e 3 (by decide) (by decide) (by kernel_rfl)
  ·exact e 3 (by decide) (by decide) (by kernel_rfl)
 grind[absurd,afx]
theorem aks{n:PV}(h:adg n=true):(adb n).length<=10/\aa0 (nVal n)≠6/\aa0 (nVal n)≠8:=by unfold adg at h;simp only[Ai]at h;grind[ac8,adb,aa0,nVal,asr,a9g]
def ael(n:PV):Bn:=(adb n++[32,61,32])++al7 (nVal n)
theorem aiv{n:PV}(m:ab1 n)(h:adg n=true):(ael n).length<=5000000:=by have o:=(aks h).1;have t:=al8 (nVal n) m.1.2.1;simp[ael];omega
theorem baa(l:List PV)(hl:l.length<=40)(X:∀n,n∈l->ab1 n):∀(m i:Nat)(acc:List PV),l.length-i<=m->i<=l.length->acc.length+(l.length-i)<=1000->
 aan ((Y4 S369_4)) (acc,l,(l.length:Int),(i:Int))=some (bif (l.drop i).all adg then .inr (acc++(l.drop i).map λn=>PV.str (ael n))else .inl []):=by
 intro m
 induction m with
 |zero=>
  intro i acc W V U
  have o:¬i<l.length:=by omega
  rw[Ba (by omega)]
  exact aae (by simp only[Y4,S369_4,aai,o,decide_false,Af,List.all_nil,Ad,List.map_nil,List.append_nil])
 |succ m ih=>
  intro i acc W V U
  by_cases o:i<l.length
  ·have z:l.getD i .bad∈l:=by rw[aa9 o];exact List.getElem_mem _
   have t:=X _ z;rw[aa1 o .bad,Bb,Bl];have G:=a2h (l.getD i .bad) t;cases H:adg (l.getD i .bad)with
   |false=>rw[H]at G;refine aae ?_;simp only[Y4,S369_4,aai,aaa,o,decide_true,Ad,Ae,G,Aa,Aq,Bool.false_and,Af]
   |true=>
    rw[H]at G;obtain⟨hn,M,O⟩:=aks H;have Y:=bbm _ t.1 M O;have Z:=al8 (nVal (l.getD i .bad)) t.1.2.1;have I:((l.getD i .bad).fld 0).asStr=adb (l.getD i .bad):=rfl;have J:(l.getD i .bad).fld 1=nVal (l.getD i .bad):=rfl;have l1:decide ((adb (l.getD i .bad)).length+([32,61,32]:Bn).length<=aac)=true:=ae8 (by simp only[Ak,Al,Am];omega);have l2:decide ((adb (l.getD i .bad)++([32,61,32]:Bn)).length+(al7 (nVal (l.getD i .bad))).length<=aac)=true:=ae8 (by simp only[Ak,Al,Am];omega);have l3:∀x:PV,decide (acc.length+[x].length<=accMax)=true:=λx=>Ah (by unfold accMax;simp;omega);rw[Bool.true_and,aal (x1:=(acc++[PV.str (ael (l.getD i .bad))],l,(l.length:Int),((i+1:Nat):Int))),ih (i+1) _ (by omega) (by omega) (by simp;omega),Ap]
    ·rfl
    ·simp only[Y4,S369_4,aai,aaa,o,decide_true,Ad,Ae,G,Aa,An,Af,I,J,Y,l1,l2,l3,arj (i:=i) (by omega),ael]
  ·rw[Ba (by omega)];exact aae (by simp only[Y4,S369_4,aai,o,decide_false,Af,List.all_nil,Ad,List.map_nil,List.append_nil])
def ahl:List PV->Bn
 |[]=>[]
 |n::r=>[44,32]++ael n++ahl r
theorem aqy(l:List PV)(o:∀n,n∈l->ab1 n)(m:l.all adg=true):(ahl l).length<=5000002*l.length:=by
 induction l with
 |nil=>simp[ahl]
 |cons n r t=>simp only[Bb,Ai]at m;grind[aiv,ahl]
theorem bdn(n:PV)(r:List PV):([44,32]:Bn).intercalate ((n::r).map ael)=ael n++ahl r:=by
 induction r generalizing n with
 |nil=>simp[List.intercalate,ahl]
 |cons x r m=>grind[ahl,List.intercalate,List.intersperse_cons_cons,List.flatten_cons]
noncomputable def aya:List PV->Bn
 |[]=>[]
 |n::r=>bif (n::r).all adg then[91]++(ael n++ahl r)++[93]else[]
theorem az2(l:List PV)(z:l.length<=40)(t:∀n,n∈l->ab1 n):F369 l=some (aya l):=by
 have h:=baa l z t l.length 0 [] (by omega) (by omega) (by simp;omega);unfold F369;rw[show((0:Nat):Int)=(0:Int)from rfl]at h;rw[aas,h,Ar,Aw];cases l with
 |nil=>rfl
 |cons n r=>
  rw[show aya (n::r)=bif (n::r).all adg then[91]++(ael n++ahl r)++[93]else[]from rfl];cases o:(n::r).all adg with
  |false=>rfl
  |true=>
   have m:=o;simp only[Bb,Ai]at m;have X:=aiv (t n (by simp)) m.1;have Y:=aqy r (λx V=>t x (by simp[V])) m.2;have G:r.length<=39:=by simp at z;omega
   have U:((n::r).map λn=>PV.str (ael n)).map PV.asStr=(n::r).map ael:=by rw[List.map_map];rfl
   have O:amc 0 ((n::r).map λn=>PV.str (ael n)) ([44,32]:Bn)=some (ael n++ahl r):=by
    unfold amc;rw[U,bdn];have H:Nat.ble ((n::r).map λn=>PV.str (ael n)).length 140737488355328=true:=by rw[Nat.ble_eq];simp;omega
    have I:Nat.ble (ael n++ahl r).length 140737488355328=true:=by rw[Nat.ble_eq];simp;omega
    rw[H,I];rfl
   have W:((((n::r).map λn=>PV.str (ael n)).length:Int)==(0:Int))=false:=by simp;omega
   have J:decide (([91]:Bn).length+(ael n++ahl r).length<=aac)=true:=ae8 (by simp only[Ak,Al,Am];omega);have M:decide ((([91]:Bn)++(ael n++ahl r)).length+([93]:Bn).length<=aac)=true:=ae8 (by simp only[Ak,Al,Am];omega);simp only[Ad,Aa,abg,W,Af,O,J,M]
def az4(i:Nat)(n:PV):Bn:=(if 0<i then[44,32]else[])++ael n
def refT:List PV->Nat->Bn
 |[],_=>[]
 |n::r,i=>az4 i n++refT r (i+1)
theorem baw(r:List PV)(i:Nat):refT r (i+1)=ahl r:=by
 induction r generalizing i with
 |nil=>rfl
 |cons n r m=>rw[refT,ahl,m,az4,if_pos (by omega)]
theorem axx(l:List PV)(hl:l.length<=40)(hs:∀n,n∈l->ab1 n):∀(m i:Nat)(acc:Bn),l.length-i<=m->i<=l.length->acc.length+6000000*(l.length-i)<=1000000000000->
 aan ((Y3 S387_6)) (l,acc,(i:Int))=some (bif (l.drop i).all adg then .inr (acc++refT (l.drop i) i)else .inl []):=by
 intro m
 induction m with
 |zero=>
  intro i acc Y X V
  have o:¬i<l.length:=by omega
  rw[Ba (by omega)]
  exact aae (by simp only[Y3,S387_6,aai,o,decide_false,Af,List.all_nil,Ad,refT,List.append_nil])
 |succ m ih=>
  intro i acc Y X V
  by_cases o:i<l.length
  ·have G:l.getD i .bad∈l:=by rw[aa9 o];exact List.getElem_mem _
   have t:=hs _ G;rw[aa1 o .bad,Bb,refT];have I:=aqp (l.getD i .bad) t;cases H:adg (l.getD i .bad)with
   |false=>rw[H]at I;refine aae ?_;simp only[Y3,S387_6,aai,aaa,o,decide_true,Ad,Ae,I,Aa,Aq,Bool.false_and,Af]
   |true=>
    rw[H]at I;obtain⟨hn,O,U⟩:=aks H;have ht:=as3 _ t.1 O U;have aa:=al8 (nVal (l.getD i .bad)) t.1.2.1;have J:((l.getD i .bad).fld 0).asStr=adb (l.getD i .bad):=rfl;have M:(l.getD i .bad).fld 1=nVal (l.getD i .bad):=rfl;have l1:decide ((adb (l.getD i .bad)).length+([32,61,32]:Bn).length<=aac)=true:=ae8 (by simp only[Ak,Al,Am];omega);have l2:decide ((adb (l.getD i .bad)++([32,61,32]:Bn)).length+(al7 (nVal (l.getD i .bad))).length<=aac)=true:=ae8 (by simp only[Ak,Al,Am];omega);have l3:decide (acc.length+([44,32]:Bn).length<=aac)=true:=ae8 (by simp only[Ak,Al,Am];omega);have l4:decide ((acc++([44,32]:Bn)).length+(adb (l.getD i .bad)++([32,61,32]:Bn)++al7 (nVal (l.getD i .bad))).length<=aac)=true:=ae8 (by simp only[Ak,Al,Am];omega);have l5:decide (acc.length+(adb (l.getD i .bad)++([32,61,32]:Bn)++al7 (nVal (l.getD i .bad))).length<=aac)=true:=ae8 (by simp only[Ak,Al,Am];omega);have W:decide ((i:Int)>(0:Int))=decide (0<i):=by rw[decide_eq_decide];omega
    have ab:=aiv t H;have Z:(az4 i (l.getD i .bad)).length<=5000002:=by
     unfold az4;by_cases z:0<i
     ·rw[if_pos z,Ak];simp only[Al,Am];omega
     ·rw[if_neg z,Ak];simp only[Am];omega
    rw[Bool.true_and,aal (x1:=(l,acc++az4 i (l.getD i .bad),((i+1:Nat):Int))),ih (i+1) _ (by omega) (by omega) (by rw[Ak];omega),Ap];simp only[Y3,S387_6,aai,aaa,o,decide_true,Ad,Ae,I,Aa,An,Af,J,M,ht,W,l1,l2,l3,l4,l5,arj (i:=i) (by omega)];unfold az4 ael;by_cases z:0<i
    ·simp only[z,decide_true,Ad,A8,Ap]
    ·simp only[z,decide_false,Af,A9,Aw]
  ·rw[Ba (by omega)];exact aae (by simp only[Y3,S387_6,aai,o,decide_false,Af,List.all_nil,Ad,refT,List.append_nil])
theorem ar5(l:List PV)(z:l.length<=40)(t:∀n,n∈l->ab1 n):F387 l=some (aya l):=by
 have h:=axx l z t l.length 0 [91] (by omega) (by omega) (by simp;omega);unfold F387;cases l with
 |nil=>rfl
 |cons n r=>
  have J:(((n::r).length:Int)==(0:Int))=false:=by simp;omega
  rw[show((0:Nat):Int)=(0:Int)from rfl]at h;rw[J,Af,aas,h,Ar];rw[show aya (n::r)=bif (n::r).all adg then[91]++(ael n++ahl r)++[93]else[]from rfl];cases o:(n::r).all adg with
  |false=>rfl
  |true=>
   have m:=o;simp only[Bb,Ai]at m;have M:=aiv (t n (by simp)) m.1;have O:=aqy r (λx I=>t x (by simp[I])) m.2;have G:r.length<=39:=by simp at z;omega
   have e:refT (n::r) 0=ael n++ahl r:=by rw[refT,baw];simp[az4]
   have H:decide ((([91]:Bn)++(ael n++ahl r)).length+([93]:Bn).length<=aac)=true:=ae8 (by simp only[Ak,Al,Am];omega);simp only[Ad,Aa,abg,e,H]
end Go.Ab
