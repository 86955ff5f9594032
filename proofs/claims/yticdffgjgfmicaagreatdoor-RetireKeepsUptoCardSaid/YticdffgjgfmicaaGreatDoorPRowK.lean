/- The text of a file: the same in the program and the specification. -/
import Derived.Test.YticdffgjgfmicaaGreatDoorPNotesK
set_option linter.unusedVariables false
set_option linter.unusedSimpArgs false
set_option linter.unnecessarySimpa false
namespace Go.Ab
open Go
set_option maxRecDepth 100000
theorem adc{α:Type}{a b:Bn}{X:Option α}(h:a.length+b.length<=1000000000000000):(bif decide (a.length+b.length<=aac)then X else none)=X:=by grind[decide_eq_true,aac]
theorem bfp{α:Type}{a:List PV}{x:PV}{X:Option α}(h:a.length<=10000000):(bif decide (a.length+[x].length<=accMax)then X else none)=X:=by grind[ayh]
theorem wrOk{s bs:Bn}(h:bs.length+s.length<=100000000000000):aa2 0 s bs=some ((s.length:Int),.nilIface,bs++s):=by grind[aa2,Nat.ble,Nat.ble_eq]
theorem azq(k:Int)(m s bs:Bn)(o:ah1 0 ([32,32]:Bn) k=some m)(t:m.length<=10)(h:bs.length+s.length<=90000000000000):F175 () k s bs=some (bs++(m++s++[10])):=by unfold F175;simp(disch:=(first|omega|(simp only[Ak,Al,Am];omega))) only[o,adc,wrOk,Aa]
theorem azo{s bs:Bn}(h:bs.length+s.length<=90000000000000):F175 () (0:Int) s bs=some (bs++(s++[10])):=azq 0 [] s bs rfl (by simp) h
theorem azp{s bs:Bn}(h:bs.length+s.length<=90000000000000):F175 () (1:Int) s bs=some (bs++([32,32]++s++[10])):=azq 1 [32,32] s bs rfl (by simp) h
theorem line2{s bs:Bn}(h:bs.length+s.length<=90000000000000):F175 () (2:Int) s bs=some (bs++([32,32,32,32]++s++[10])):=azq 2 [32,32,32,32] s bs rfl (by simp) h
def numT(n:Int):Bn:=decB n.toNat
theorem ad1(n:Int):(numT n).length<=20:=aod _
theorem aog{n:Int}(m:0<=n)(o:n<=2147483647):akw 0 n=some (numT n):=by grind[a1v,an6,numT,decide_eq_false]
theorem ag7{n:Int}(m:0<=n)(z:n<=2147483647):F327 n=some (numT n):=by
 obtain⟨u,rfl⟩:∃u:Nat,n=(u:Int):=⟨n.toNat,(Int.toNat_of_nonneg m).symm⟩;have t:IntKind.wrap .u64 (u:Int)=(u:Int):=by rw[IntKind.wrap_u64];omega
 have o:acn (PV.agg [(PV.int (5:Int)),(PV.int (u:Int)),(PV.str ([]:Bn)),(PV.slice []),(PV.slice []),(PV.slice []),(PV.slice [])]):=⟨show(0:Nat)<=1048576 by omega,show(0:Nat)<=1048576 by omega,m,by show(u:Int)<18446744073709551616;omega⟩;unfold F327;rw[t,aqt _ o];rfl
noncomputable def ard(t:PV):Bn:=
 bif agq (t.fld 0).asInt&&((t.fld 1).asStr==[])then kw (t.fld 0).asInt else
 bif (((t.fld 0).asInt==0)||((t.fld 0).asInt==9)||((t.fld 0).asInt==10))&&ajp (t.fld 1).asStr then(t.fld 1).asStr else[]
theorem bh4(t:PV)(m:(t.fld 1).asStr.length<=1048576):F370 t=some (ard t):=by grind[F370,ard,au0,bja,ald,agq,asInt,ajp]
theorem a5n(t:PV)(m:(t.fld 1).asStr.length<=1048576):F388 t=some (ard t):=by grind[F388,ard,aol,bfw,al9,agq,asInt,ajp]
theorem arf(t:PV)(m:(t.fld 1).asStr.length<=1048576):(ard t).length<=1048576:=by grind[a1s,asInt,ard]
noncomputable def litT(v:PV):Bn:=
 bif aug v then acu v else bif !ady (aa0 v) v then[]else bif (aa0 v==6)||(aa0 v==8)then akm (aiw v)else aiw v
theorem a0v{v:PV}(t:acn v)(h:ady (aa0 v) v=true)(m:((aa0 v==6)||(aa0 v==8))=true):(aiw v).length<=100000:=by
 unfold aiw;rw[h];simp only[Ad];cases o:aa0 v==6 with
 |true=>simp only[Ad];grind[akc,aua,abj,af9,decide]
 |false=>rw[o,Bool.false_or]at m;grind[ai4,adf,acu,hex2,aoe]
theorem bjd(v:PV)(m:acn v):F372 v=some (litT v):=by
 have o:(v.fld 0).asInt=aa0 v:=rfl;have t:(v.fld 2).asStr=acu v:=rfl;unfold F372 litT;simp only[o,t,a1z _ m,ahb _ _ m,bfc _ m,Aa];cases aug v with
 |true=>rfl
 |false=>
  cases G:ady (aa0 v) v with
  |false=>rfl
  |true=>
   rw[aso];cases z:((aa0 v==6)||(aa0 v==8))with
   |false=>rfl
   |true=>have:=a0v m G z;simp only[Ad,Af,An,alt _ (show(aiw v).length<=1048576 by omega),Aa]
theorem bao(v:PV)(m:acn v):F389 v=some (litT v):=by
 have o:(v.fld 0).asInt=aa0 v:=rfl;have t:(v.fld 2).asStr=acu v:=rfl;unfold F389 litT;simp only[o,t,a1n _ m,ado _ _ m,aqt _ m,Aa];cases aug v with
 |true=>rfl
 |false=>
  cases G:ady (aa0 v) v with
  |false=>rfl
  |true=>
   rw[aso];cases z:((aa0 v==6)||(aa0 v==8))with
   |false=>rfl
   |true=>have:=a0v m G z;simp only[Ad,Af,An,aff _ (show(aiw v).length<=1048576 by omega),Aa]
theorem auj(v:PV)(m:acn v):(litT v).length<=5000000:=by
 have o:=bbl v m.2.1;have t:=m.2.1;unfold litT;cases aug v with
 |true=>grind
 |false=>
  simp only[Af];cases z:ady (aa0 v) v with
  |false=>simp
  |true=>simp only[An,Af];grind[aa0,a0v,adf,aiw]
noncomputable def aeg(l:List PV):Bn:=bif (l.length:Int)==0 then[]else[32]++aya l
theorem arb(l:List PV)(t:l.length<=40)(z:∀n,n∈l->ab1 n):(aya l).length<=200000200:=by
 cases l with
 |nil=>simp[aya]
 |cons n r=>
  rw[show aya (n::r)=bif (n::r).all adg then[91]++(ael n++ahl r)++[93]else[]from rfl];cases o:(n::r).all adg with
  |false=>simp
  |true=>have m:=o;simp only[Bb,Ai]at m;grind[aiv,aqy]
theorem ab3(l:List PV)(m:l.length<=40)(o:∀n,n∈l->ab1 n):(aeg l).length<=200000201:=by grind[arb,aeg]
theorem af4(l:List PV)(m:l.length<=40)(o:∀n,n∈l->ab1 n):F291 l=some (aeg l):=by have:=arb l m o;unfold F291 aeg;simp(disch:=(first|omega|(simp only[Ak,Al,Am];omega))) only[az2 l m o,Aa,adc];grind
theorem ajf(l:List PV)(m:l.length<=40)(o:∀n,n∈l->ab1 n):F323 l=some (aeg l):=by have:=arb l m o;unfold F323 aeg;simp(disch:=(first|omega|(simp only[Ak,Al,Am];omega))) only[ar5 l m o,Aa,adc];cases((l.length:Int)==(0:Int))<;>rfl
structure RowOk(x:PV):Prop where
 ok:OkFld x
 num0:0<=(x.fld 0).asInt
 num1:(x.fld 0).asInt<=65535
 card1:1<=(x.fld 2).asInt
 card5:(x.fld 2).asInt<=5
 few:(x.fld 8).asList.length<=40
def ayw(c:Int):Bn:=bif c==1 then[114,101,113,117,105,114,101,100,32]else bif c==2 then[111,112,116,105,111,110,97,108,32]else bif c==3 then[112,108,97,105,110,32]else[108,105,115,116,32]
theorem ao1(c:Int):(ayw c).length<=9:=by unfold ayw;cases c==1<;>cases c==2<;>cases c==3<;>simp
noncomputable def bdg(x:PV):Bn:=
 bif (x.fld 2).asInt==5 then[109,97,112,60]++(kw (x.fld 3).asInt++([44,32]++(ard (x.fld 4)++[62])))else bif (x.fld 5).asStr==[]then ayw (x.fld 2).asInt++ard (x.fld 4)else ard (x.fld 4)
noncomputable def rowT(x:PV):Bn:=
 bdg x++([32]++((x.fld 1).asStr++([32,61,32]++(numT (x.fld 0).asInt++((bif (x.fld 6).asBool then[32,100,101,102,97,117,108,116,32]++litT (x.fld 7)else[])++(aeg (x.fld 8).asList++[59]))))))
theorem avd(x:PV)(h:RowOk x):(rowT x).length<=300000000:=by have m:=arf _ h.ok.type;have o:=ab3 _ h.few h.ok.note;have t:=auj _ h.ok.dflt;have z:=a1s (x.fld 3).asInt;have G:=ao1 (x.fld 2).asInt;have H:=ad1 (x.fld 0).asInt;have I:=h.ok.name;unfold rowT bdg;cases((x.fld 2).asInt==5)<;>cases((x.fld 5).asStr==([]:Bn))<;>cases(x.fld 6).asBool<;>simp only[Ad,Af,Ak,Al,Am]<;>omega
theorem bj5(x:PV)(h:RowOk x):F292 x=some (rowT x):=by
 have J:=arf _ h.ok.type;have M:=ab3 _ h.few h.ok.note;have O:=auj _ h.ok.dflt;have U:=a1s (x.fld 3).asInt;have V:=ao1 (x.fld 2).asInt;have W:=ad1 (x.fld 0).asInt;have X:=h.ok.name;have I:aab (x.fld 2).asInt 5=(bif (x.fld 2).asInt==5 then false else true):=by
  have a:=h.card1;have b:=h.card5;have:(x.fld 2).asInt=1\/(x.fld 2).asInt=2\/(x.fld 2).asInt=3\/(x.fld 2).asInt=4\/(x.fld 2).asInt=5:=by omega
  rcases this with e|e|e|e|e<;>rw[e]<;>rfl
 have m:(bif (x.fld 2).asInt==5 then([]:Bn)else((PV.agg [(PV.str ([]:Bn)),(PV.str ([114,101,113,117,105,114,101,100,32]:Bn)),(PV.str ([111,112,116,105,111,110,97,108,32]:Bn)),(PV.str ([112,108,97,105,110,32]:Bn)),(PV.str ([108,105,115,116,32]:Bn))]).fld (x.fld 2).asInt.toNat).asStr)=(bif (x.fld 2).asInt==5 then[]else ayw (x.fld 2).asInt):=by
  have a:=h.card1;have b:=h.card5;have:(x.fld 2).asInt=1\/(x.fld 2).asInt=2\/(x.fld 2).asInt=3\/(x.fld 2).asInt=4\/(x.fld 2).asInt=5:=by omega
  rcases this with e|e|e|e|e<;>rw[e]<;>rfl
 have o:=bh4 _ h.ok.type;have t:=af4 _ h.few h.ok.note;have z:=bjd _ h.ok.dflt;have G:=aog h.num0 (by have:=h.num1;omega);unfold F292 rowT bdg;simp only[o,t,z,G,bja,Aa,I];generalize ard (x.fld 4)=Y at*;generalize aeg (x.fld 8).asList=Z at*;generalize litT (x.fld 7)=t3 at*;generalize kw (x.fld 3).asInt=t4 at*;generalize ayw (x.fld 2).asInt=t5 at*;generalize numT (x.fld 0).asInt=t6 at*;generalize(x.fld 1).asStr=t7 at*;cases H:((x.fld 2).asInt==5)with
 |true=>cases(x.fld 6).asBool<;>simp(disch:=(first|omega|(simp only[Ak,Al,Am];omega))) only[Ad,Af,adc,Ap];rfl
 |false=>rw[H]at m;simp only[Af]at m;simp only[m];cases((x.fld 5).asStr==([]:Bn))<;>cases(x.fld 6).asBool<;>simp(disch:=(first|omega|(simp only[Ak,Al,Am];omega))) only[Ad,Af,adc,Ap,Aw]
theorem bas(x:PV)(h:RowOk x):F324 x=some (rowT x):=by
 have J:=arf _ h.ok.type;have M:=ab3 _ h.few h.ok.note;have O:=auj _ h.ok.dflt;have U:=a1s (x.fld 3).asInt;have V:=ao1 (x.fld 2).asInt;have W:=ad1 (x.fld 0).asInt;have X:=h.ok.name;have I:aab (IntKind.wrap .i64 ((x.fld 2).asInt-(1:Int))) ([(PV.str ([114,101,113,117,105,114,101,100,32]:Bn)),(PV.str ([111,112,116,105,111,110,97,108,32]:Bn)),(PV.str ([112,108,97,105,110,32]:Bn)),(PV.str ([108,105,115,116,32]:Bn))].length)=(bif (x.fld 2).asInt==5 then false else true):=by
  have a:=h.card1;have b:=h.card5;have:(x.fld 2).asInt=1\/(x.fld 2).asInt=2\/(x.fld 2).asInt=3\/(x.fld 2).asInt=4\/(x.fld 2).asInt=5:=by omega
  rcases this with e|e|e|e|e<;>rw[e]<;>rfl
 have m:(bif (x.fld 2).asInt==5 then([]:Bn)else([(PV.str ([114,101,113,117,105,114,101,100,32]:Bn)),(PV.str ([111,112,116,105,111,110,97,108,32]:Bn)),(PV.str ([112,108,97,105,110,32]:Bn)),(PV.str ([108,105,115,116,32]:Bn))].getD (IntKind.wrap .i64 ((x.fld 2).asInt-(1:Int))).toNat .bad).asStr)=(bif (x.fld 2).asInt==5 then[]else ayw (x.fld 2).asInt):=by
  have a:=h.card1;have b:=h.card5;have:(x.fld 2).asInt=1\/(x.fld 2).asInt=2\/(x.fld 2).asInt=3\/(x.fld 2).asInt=4\/(x.fld 2).asInt=5:=by omega
  rcases this with e|e|e|e|e<;>rw[e]<;>rfl
 have o:=a5n _ h.ok.type;have t:=ajf _ h.few h.ok.note;have z:=bao _ h.ok.dflt;have G:=ag7 h.num0 (by have:=h.num1;omega);unfold F324 rowT bdg;simp only[o,t,z,G,aol,Aa,I];generalize ard (x.fld 4)=Y at*;generalize aeg (x.fld 8).asList=Z at*;generalize litT (x.fld 7)=t3 at*;generalize kw (x.fld 3).asInt=t4 at*;generalize ayw (x.fld 2).asInt=t5 at*;generalize numT (x.fld 0).asInt=t6 at*;generalize(x.fld 1).asStr=t7 at*;cases H:((x.fld 2).asInt==5)with
 |true=>cases(x.fld 6).asBool<;>simp(disch:=(first|omega|(simp only[Ak,Al,Am];omega))) only[Ad,Af,adc,Ap,Aw]
 |false=>rw[H]at m;simp only[Af]at m;simp only[m];cases((x.fld 5).asStr==([]:Bn))<;>cases(x.fld 6).asBool<;>simp(disch:=(first|omega|(simp only[Ak,Al,Am];omega))) only[Ad,Af,adc,Ap,Aw]
end Go.Ab
namespace Go.Ab
open Go
set_option maxRecDepth 100000
def ar7(g:PV->Bn):List PV->Bn
 |[]=>[]
 |x::r=>[44,32]++(g x++ar7 g r)
def amt(g:PV->Bn):List PV->Bn
 |[]=>[]
 |x::r=>g x++ar7 g r
theorem bdw(g:PV->Bn)(l:List PV):([44,32]:Bn).intercalate (l.map g)=amt g l:=by
 cases l with
 |nil=>rfl
 |cons x r=>
  induction r generalizing x with
  |nil=>simp[List.intercalate,amt,ar7]
  |cons y r m=>grind[amt,ar7,List.intercalate,List.intersperse_cons_cons,List.flatten_cons]
theorem ba1(g:PV->Bn)(B:Nat):∀l:List PV,(∀x,x∈l->(g x).length<=B)->(ar7 g l).length<=(B+2)*l.length:=by
 intro l;induction l with
 |nil=>grind[ar7]
 |cons x r m=>grind[ar7,List.length_append,List.length_cons,List.length_nil,Nat.mul_add]
theorem agl(g:PV->Bn)(B:Nat)(l:List PV)(h:∀x,x∈l->(g x).length<=B):(amt g l).length<=(B+2)*l.length:=by
 cases l with
 |nil=>simp[amt]
 |cons x r=>have o:=h x (by simp);have t:=ba1 g B r λy m=>h y (by simp[m]);grind[amt,List.length_append,List.length_cons,Nat.mul_add]
def sepG(g:PV->Bn)(b:Bn)(x:PV):Bn:=(bif b==[]then b else b++[44,32])++g x
theorem ba6(g:PV->Bn)(t:∀x,g x≠[]):∀(l:List PV)(b:Bn),b≠[]->l.foldl (sepG g) b=b++ar7 g l:=by
 intro l;induction l with
 |nil=>grind[ar7]
 |cons x r z=>
  intro b o;have m:(b==([]:Bn))=false:=by simpa using o
  rw[List.foldl_cons,z _ (by unfold sepG;simp[t x])];simp only[sepG,m,Af,ar7,Ap]
theorem ax3(g:PV->Bn)(m:∀x,g x≠[])(l:List PV):l.foldl (sepG g) []=amt g l:=by
 cases l with
 |nil=>rfl
 |cons x r=>rw[List.foldl_cons,ba6 g m r _ (by simp[sepG,m x])];rfl
def resT(g:PV->Bn)(l:List PV):Bn:=bif (l.length:Int)==0 then[]else[32,32,114,101,115,101,114,118,101,100,32]++(amt g l++[59,10])
theorem au9(g:PV->Bn)(B:Nat)(l:List PV)(h:∀x,x∈l->(g x).length<=B):(resT g l).length<=(B+2)*l.length+20:=by
 have:=agl g B l h;unfold resT;cases((l.length:Int)==0)with
 |true=>simp
 |false=>simp only[Af,Ak,Al,Am];omega
theorem a1u(g:PV->Bn)(m:∀x,g x≠[])(l:List PV):(amt g l==[])=((l.length:Int)==0):=by
 cases l with
 |nil=>rfl
 |cons x r=>
  have e:(((x::r).length:Int)==(0:Int))=false:=by grind
  rw[e,Bc];simp[amt,m x]
theorem gt0(l:List PV):decide ((l.length:Int)>(0:Int))=!((l.length:Int)==0):=by grind
theorem a1w(g:PV->Bn)(B:Nat)(l:List PV)(hB:B<=10000000)(o:l.length<=100)(h:∀x,x∈l->(g x).length<=B):amc 0 (l.map λx=>PV.str (g x)) ([44,32]:Bn)=some (amt g l):=by
 have m:=agl g B l h;have z:(l.map λx=>PV.str (g x)).map PV.asStr=l.map g:=by rw[List.map_map];rfl
 have t:(B+2)*l.length<=10000002*100:=Nat.mul_le_mul (by omega) o;grind[amc,bdw,Nat.ble,Nat.ble_eq,List.length_map,amt]
def spT(x:PV):Bn:=numT (x.fld 0).asInt++(bif (x.fld 0).asInt==(x.fld 1).asInt then[]else[32,45,32]++numT (x.fld 1).asInt)
theorem bgp:∀f u,decF (f+1) u≠[]:=by intro f u;unfold decF;cases Nat.ble u 9<;>simp
theorem bhq(n:Int):numT n≠[]:=bgp 19 _
theorem bbd(x:PV):spT x≠[]:=by simp[spT,bhq]
theorem am3(x:PV):(spT x).length<=43:=by grind[ad1,asInt,spT]
theorem axl(l:List PV)(J:l.length<=16)(M:∀x,x∈l->ahy 2147483647 x=true)(bs:Bn)(W:bs.length<=50000000000000):F293 () l bs=some (bs++resT spT l):=by
 have q:=aak (step:=(Y6 S293_3)) (λk(acc:List PV)=>((),acc,l,(l.length:Int),(k:Int),bs)) (λacc=>((),acc,bs)) l .bad (λacc x=>acc++[PV.str (spT x)]) (λk acc=>acc.length+(l.length-k)<=10000000) (λk acc t V=>by
  have m:=M _ (aaq t .bad);unfold ahy at m;simp only[Ax]at m;obtain⟨G,o,H,I⟩:=m;have O:=ad1 ((l.getD k .bad).fld 0).asInt;have U:=ad1 ((l.getD k .bad).fld 1).asInt;refine⟨?_,by simp;omega⟩;simp only[Y6,S293_3,aai,aaa,t,decide_true,Ad,Ae,aog G o,aog H I,Aa,abf (i:=k) (by omega),bne];unfold spT;cases(((l.getD k .bad).fld 0).asInt==((l.getD k .bad).fld 1).asInt)<;>simp(disch:=(first|omega|(simp only[Ak,Al,Am];omega))) only[Ad,Af,An,Aq,adc,bfp,List.append_nil]) (λacc _=>by
  simp only[Y6,S293_3,aai,Nat.lt_irrefl,decide_false,Af]) l.length 0 [] (by omega) (by simp;omega)
 rw[Ar,aie,Aw]at q;have z:=agl spT 43 l λx _=>am3 x;have o:(43+2)*l.length<=45*16:=Nat.mul_le_mul (by omega) J;unfold F293 resT;rw[aas,show(0:Int)=((0:Nat):Int)from rfl,q.1,Aa];have e:((l.map λx=>PV.str (spT x)).length:Int)=(l.length:Int):=by grind
 simp(disch:=(first|omega|(simp only[Ak,Al,Am];omega))) only[e,gt0,a1w spT 43 l (by omega) (by omega) λx _=>am3 x,Aa,adc,azp];grind
theorem aqx(l:List PV)(V:l.length<=16)(W:∀x,x∈l->ahy 2147483647 x=true):F325 l=some (resT spT l):=by
 have q:=aak (step:=(Y3 S325_4)) (λk(b:Bn)=>(l,b,(k:Int))) (λb=>b) l .bad (sepG spT) (λk b=>b.length<=50*k/\(b=[] ↔ k=0)) (λk b H G=>by
  obtain⟨G,J⟩:=G;have t:=W _ (aaq H .bad);unfold ahy at t;simp only[Ax]at t;obtain⟨M,z,O,U⟩:=t;have X:=ad1 ((l.getD k .bad).fld 0).asInt;have Y:=ad1 ((l.getD k .bad).fld 1).asInt;have Z:=am3 (l.getD k .bad);have m:(b==([]:Bn))=!decide (0<k):=by
   by_cases h:0<k
   ·rw[Ah h,An,Bc];exact λe=>by have:=J.1 e;omega
   ·rw[Au h,J.2 (by omega)];rfl
  have o:decide ((k:Int)>(0:Int))=decide (0<k):=by rw[decide_eq_decide];omega
  refine⟨?_,?_,?_⟩
  ·simp only[Y3,S325_4,aai,aaa,H,decide_true,Ad,Ae,ag7 M z,ag7 O U,Aa,abf (i:=k) (by omega),bne,o];unfold sepG spT;rw[m,beqC ((l.getD k .bad).fld 0).asInt _];cases decide (0<k)<;>cases(((l.getD k .bad).fld 1).asInt==((l.getD k .bad).fld 0).asInt)<;>simp(disch:=(first|omega|(simp only[Ak,Al,Am];omega))) only[Ad,Af,An,Aq,adc,List.append_nil,Ap]
  ·unfold sepG;cases(b==([]:Bn))<;>simp only[Ad,Af,Ak,Al,Am]<;>omega
  ·simp[sepG,bbd]) (λb _=>by
  simp only[Y3,S325_4,aai,Nat.lt_irrefl,decide_false,Af]) l.length 0 [] (by omega) ⟨by simp,by simp⟩
 rw[Ar,ax3 spT bbd]at q;have I:=agl spT 43 l λx _=>am3 x;have z:(43+2)*l.length<=45*16:=Nat.mul_le_mul (by omega) V;unfold F325 resT;rw[aas,show(0:Int)=((0:Nat):Int)from rfl,q.1,Aa,a1u spT bbd];simp(disch:=(first|omega|(simp only[Ak,Al,Am];omega))) only[adc];rw[show((0:Nat):Int)=(0:Int)from rfl];cases((l.length:Int)==(0:Int))<;>simp only[Ad,Af,Ap]
def goT(x:PV):Bn:=akm x.asStr
theorem a8m(x:PV):goT x≠[]:=by simp[goT,akm]
theorem apm(x:PV)(h:x.asStr.length<=1048576):(goT x).length<=4194306:=by grind[adf,goT]
theorem bg4(l:List PV)(O:l.length<=16)(I:∀x,x∈l->x.asStr.length<=1048576):F326 l=some (resT goT l):=by
 have q:=aak (step:=(Y3 S326_4)) (λk(b:Bn)=>(l,b,(k:Int))) (λb=>b) l .bad (sepG goT) (λk b=>b.length<=4200000*k/\(b=[] ↔ k=0)) (λk b G z=>by
  obtain⟨z,J⟩:=z;have m:=I _ (aaq G .bad);have V:=apm (l.getD k .bad) m;have M:F229 (l.getD k .bad).asStr=some (goT (l.getD k .bad)):=aff _ m;have o:(b==([]:Bn))=!decide (0<k):=by
   by_cases h:0<k
   ·rw[Ah h,An,Bc];exact λe=>by have:=J.1 e;omega
   ·rw[Au h,J.2 (by omega)];rfl
  have t:decide ((k:Int)>(0:Int))=decide (0<k):=by rw[decide_eq_decide];omega
  refine⟨?_,?_,?_⟩
  ·simp only[Y3,S326_4,aai,aaa,G,decide_true,Ad,Ae,M,Aa,abf (i:=k) (by omega),t];unfold sepG;rw[o];cases decide (0<k)<;>simp(disch:=(first|omega|(simp only[Ak,Al,Am];omega))) only[Ad,Af,An,Aq,adc,Ap]
  ·unfold sepG;cases(b==([]:Bn))<;>simp only[Ad,Af,Ak,Al,Am]<;>omega
  ·simp[sepG,a8m]) (λb _=>by
  simp only[Y3,S326_4,aai,Nat.lt_irrefl,decide_false,Af]) l.length 0 [] (by omega) ⟨by simp,by simp⟩
 rw[Ar,ax3 goT a8m]at q;have H:=agl goT 4194306 l λx m=>apm x (I x m);have U:(4194306+2)*l.length<=4194308*16:=Nat.mul_le_mul (by omega) O;unfold F326 resT;rw[aas,show(0:Int)=((0:Nat):Int)from rfl,q.1,Aa,a1u goT a8m];simp(disch:=(first|omega|(simp only[Ak,Al,Am];omega))) only[adc];rw[show((0:Nat):Int)=(0:Int)from rfl];cases((l.length:Int)==(0:Int))<;>simp only[Ad,Af,Ap]
theorem a8n(m:PV)(l:List PV)(I:l.length<=16)(z:∀x,x∈l->x.asStr.length<=1048576)(bs:Bn):aan ((Y7 S178_21)) ((),[],l,(l.length:Int),(0:Int),bs,m)=some ((),l.map (λx=>PV.str (goT x)),bs,m):=by
 have q:=aak (step:=(Y7 S178_21)) (λk(acc:List PV)=>((),acc,l,(l.length:Int),(k:Int),bs,m)) (λacc=>((),acc,bs,m)) l .bad (λacc x=>acc++[PV.str (goT x)]) (λk acc=>acc.length+(l.length-k)<=10000000) (λk acc o H=>by
  have G:=z _ (aaq o .bad);have t:F176 (l.getD k .bad).asStr=some (goT (l.getD k .bad)):=alt _ G;refine⟨?_,by simp;omega⟩;simp(disch:=(first|omega|(simp only[Ak,Al,Am];omega))) only[Y7,S178_21,aai,aaa,o,decide_true,Ad,Ae,t,Aa,bfp];grind[abf]) (λacc _=>by
  simp only[Y7,S178_21,aai,Nat.lt_irrefl,decide_false,Af]) l.length 0 [] (by omega) (by simp;omega)
 grind[aie]
structure MsgOk(m:PV):Prop where
 ok:OkMsg m
 rows:∀x,x∈(m.fld 1).asList->RowOk x
 fields:(m.fld 1).asList.length<=64
 spans:(m.fld 2).asList.length<=16
 span:∀x,x∈(m.fld 2).asList->ahy 2147483647 x=true
 gone:(m.fld 3).asList.length<=16
 few:(m.fld 4).asList.length<=40
def uT(x:PV):Bn:=(x.fld 5).asStr
def beb(u v:Bn):Bn:=
 (bif !(u==[])&&!(v==u)then[32,32,125,10]else[])++((bif !(v==[])&&!(v==u)then[32,32,117,110,105,111,110,32]++(v++[32,123,10])else[])++(bif v==[]then[32,32]else[32,32,32,32]))
noncomputable def ax6(u:Bn)(x:PV):Bn:=beb u (uT x)++(rowT x++[10])
theorem aq5(u:Bn)(x:PV)(h:RowOk x):(ax6 u x).length<=302000000:=by have m:=avd x h;have o:(uT x).length<=1048576:=h.ok.union;unfold ax6 beb;cases !(u==[])&&!(uT x==u)<;>cases !(uT x==[])&&!(uT x==u)<;>cases uT x==[]<;>simp only[Ad,Af,Ak,Al,Am]<;>omega
noncomputable def ae6:Bn->List PV->Bn
 |_,[]=>[]
 |u,x::r=>ax6 u x++ae6 (uT x) r
def arv:Bn->List PV->Bn
 |u,[]=>u
 |_,x::r=>arv (uT x) r
theorem anm:∀(l:List PV)(b u:Bn),l.foldl (λ(p:Bn×Bn)x=>(p.1++ax6 p.2 x,uT x)) (b,u)=(b++ae6 u l,arv u l):=by
 intro l;induction l with
 |nil=>grind[ae6,arv]
 |cons x r m=>grind[ae6,arv]
theorem ay9:∀(l:List PV)(u:Bn),(∀x,x∈l->RowOk x)->(ae6 u l).length<=302000000*l.length:=by
 intro l;induction l with
 |nil=>grind[ae6]
 |cons x r m=>grind[aq5,uT,ae6,List.length_append,List.length_cons,Nat.mul_add]
theorem aza(m:PV)(l:List PV)(X:l.length<=64)(I:∀x,x∈l->RowOk x)(b:Bn)(W:b.length<=20000000000000):
 aan ((Y8 S178_5)) ((),(),([]:Bn),l,(l.length:Int),(0:Int),b,m)=some ((),(),arv [] l,b++ae6 [] l,m):=by
 have q:=aak (step:=(Y8 S178_5)) (λk(p:Bn×Bn)=>((),(),p.2,l,(l.length:Int),(k:Int),p.1,m)) (λp=>((),(),p.2,p.1,m)) l .bad (λ(p:Bn×Bn)x=>(p.1++ax6 p.2 x,uT x)) (λk p=>p.1.length<=20000000000000+302000000*k) (λk p z V=>by
  have o:=I _ (aaq z .bad);have J:=avd _ o;have M:(uT (l.getD k .bad)).length<=1048576:=o.ok.union;have O:=aq5 p.2 _ o;have G:((l.getD k .bad).fld 5).asStr=uT (l.getD k .bad):=rfl;have H:=bj5 _ o;have U:302000000*k<=302000000*64:=Nat.mul_le_mul (by omega) (by omega);refine⟨?_,by grind⟩;simp only[Y8,S178_5,aai,aaa,z,decide_true,Ad,Ae,G,H,Aa,abf (i:=k) (by omega)];unfold ax6 beb;generalize rowT (l.getD k .bad)=t at*;generalize uT (l.getD k .bad)=v at*;generalize p.2=u at*;generalize p.1=c at*;cases(u==([]:Bn))<;>cases(v==u)<;>cases(v==([]:Bn))<;>simp(disch:=(first|omega|(simp only[Ak,Al,Am];omega))) only[An,Aq,Bool.and_true,Bool.and_false,Bool.true_and,Bool.false_and,Ad,Af,adc,azp,line2,Aa,Ap,Aw,A0]) (λp _=>by
  simp only[Y8,S178_5,aai,Nat.lt_irrefl,decide_false,Af]) l.length 0 (b,[]) (by omega) (by simp;omega)
 grind[anm]
theorem ar4(m:PV)(h:MsgOk m)(b:Bn)(V:b.length<=20000000000000):
 aan ((Y5 S231_5)) ((),b,([]:Bn),(0:Int),m)=some ((),b++ae6 [] (m.fld 1).asList,arv [] (m.fld 1).asList,m):=by
 have W:=h.fields
 have q:=aak (step:=(Y5 S231_5)) (λk(p:Bn×Bn)=>((),p.1,p.2,(k:Int),m)) (λp=>((),p.1,p.2,m)) (m.fld 1).asList .bad (λ(p:Bn×Bn)x=>(p.1++ax6 p.2 x,uT x)) (λk p=>p.1.length<=20000000000000+302000000*k) (λk p z U=>by
  have o:=h.rows _ (aaq z .bad);have I:=avd _ o;have J:(uT ((m.fld 1).asList.getD k .bad)).length<=1048576:=o.ok.union;have M:=aq5 p.2 _ o;have G:(((m.fld 1).asList.getD k .bad).fld 5).asStr=uT ((m.fld 1).asList.getD k .bad):=rfl;have H:=bas _ o;have O:302000000*k<=302000000*64:=Nat.mul_le_mul (by omega) (by omega);refine⟨?_,by simp only[Ak,Nat.mul_add];omega⟩;simp only[Y5,S231_5,aai,aaa,z,decide_true,Ad,Ae,G,H,Aa,abf (i:=k) (by omega),beqC p.2 (uT ((m.fld 1).asList.getD k .bad))];unfold ax6 beb;generalize rowT ((m.fld 1).asList.getD k .bad)=t at*;generalize uT ((m.fld 1).asList.getD k .bad)=v at*;generalize p.2=u at*;generalize p.1=c at*;cases(u==([]:Bn))<;>cases(v==u)<;>cases(v==([]:Bn))<;>simp(disch:=(first|omega|(simp only[Ak,Al,Am];omega))) only[An,Aq,Bool.and_true,Bool.and_false,Bool.true_and,Bool.false_and,Ad,Af,adc,Aa,Ap,Aw,A0]) (λp _=>by
  simp only[Y5,S231_5,aai,Nat.lt_irrefl,decide_false,Af]) (m.fld 1).asList.length 0 (b,[]) (by omega) (by simp;omega)
 rw[Ar,anm]at q
 exact q.1
noncomputable def msgT(m:PV):Bn:=
 [109,101,115,115,97,103,101,32]++((m.fld 0).asStr++(aeg (m.fld 4).asList++([32,123,10]++(ae6 [] (m.fld 1).asList++((bif arv [] (m.fld 1).asList==[]then[]else[32,32,125,10])++(resT spT (m.fld 2).asList++(resT goT (m.fld 3).asList++[125,10])))))))
theorem amv(m:PV)(h:MsgOk m):(aeg (m.fld 4).asList).length<=200000201/\(ae6 [] (m.fld 1).asList).length<=19328000000/\(resT spT (m.fld 2).asList).length<=1000/\(resT goT (m.fld 3).asList).length<=70000000:=by have t:=ab3 _ h.few h.ok.note;have z:=ay9 _ [] h.rows;have G:=au9 spT 43 (m.fld 2).asList λx _=>am3 x;have H:=au9 goT 4194306 (m.fld 3).asList λx o=>apm x (h.ok.goneS x o);have I:302000000*(m.fld 1).asList.length<=302000000*64:=Nat.mul_le_mul (by omega) h.fields;have J:(43+2)*(m.fld 2).asList.length<=45*16:=Nat.mul_le_mul (by omega) h.spans;have M:(4194306+2)*(m.fld 3).asList.length<=4194308*16:=Nat.mul_le_mul (by omega) h.gone;grind
theorem auq(m:PV)(h:MsgOk m):(msgT m).length<=20000000000:=by obtain⟨o,t,z,G⟩:=amv m h;have H:=h.ok.name;unfold msgT;cases arv [] (m.fld 1).asList==[]<;>simp only[Ad,Af,Ak,Al,Am]<;>omega
theorem bjj(m:PV)(h:MsgOk m)(bs:Bn)(hb:bs.length<=10000000000000):F178 () m bs=some (bs++msgT m):=by
 obtain⟨V,W,X,Y⟩:=amv m h;have Z:=h.ok.name;have J:=af4 _ h.few h.ok.note;have M:∀c:Bn,c.length<=20000000000000->_:=λc o=>aza m _ h.fields h.rows c o;have z:∀c:Bn,c.length<=50000000000000->_:=λc o=>axl _ h.spans h.span c o;have G:=a8n m _ h.gone h.ok.goneS;have H:=a1w goT 4194306 (m.fld 3).asList (by omega) (by have:=h.gone;omega) λx t=>apm x (h.ok.goneS x t);have O:=agl goT 4194306 (m.fld 3).asList λx t=>apm x (h.ok.goneS x t);have U:(4194306+2)*(m.fld 3).asList.length<=4194308*16:=Nat.mul_le_mul (by omega) h.gone;have e:(((m.fld 3).asList.map λx=>PV.str (goT x)).length:Int)=((m.fld 3).asList.length:Int):=by grind
 have I:resT goT (m.fld 3).asList=bif ((m.fld 3).asList.length:Int)==0 then[]else[32,32,114,101,115,101,114,118,101,100,32]++(amt goT (m.fld 3).asList++[59,10]):=rfl;unfold F178 msgT;simp(disch:=(first|omega|(simp only[Ak,Al,Am];omega))) only[J,adc,Aa,azo,aas,M];cases arv [] (m.fld 1).asList==([]:Bn)with
 |true=>simp(disch:=(first|omega|(simp only[Ak,Al,Am];omega))) only[An,Af,Ad,z,G,Aa,aas,e,gt0];rw[I];cases(((m.fld 3).asList.length:Int)==(0:Int))<;>simp(disch:=(first|omega|(simp only[Ak,Al,Am];omega))) only[An,Aq,Af,Ad,H,adc,azo,azp,Aa,Ap,Aw,A0]
 |false=>simp(disch:=(first|omega|(simp only[Ak,Al,Am];omega))) only[Aq,Af,Ad,azp,z,G,Aa,aas,e,gt0];rw[I];cases(((m.fld 3).asList.length:Int)==(0:Int))<;>simp(disch:=(first|omega|(simp only[Ak,Al,Am];omega))) only[An,Aq,Af,Ad,H,adc,azo,azp,Aa,Ap,Aw,A0]
theorem bap(m:PV)(h:MsgOk m):F231 m=some (msgT m):=by obtain⟨I,J,M,O⟩:=amv m h;have U:=h.ok.name;have o:=ajf _ h.few h.ok.note;have t:∀c:Bn,c.length<=20000000000000->_:=λc H=>ar4 m h c H;have z:=aqx _ h.spans h.span;have G:=bg4 _ h.gone h.ok.goneS;unfold F231 msgT;simp(disch:=(first|omega|(simp only[Ak,Al,Am];omega))) only[o,adc,Aa,aas,t,z,G];cases arv [] (m.fld 1).asList==([]:Bn)<;>simp(disch:=(first|omega|(simp only[Ak,Al,Am];omega))) only[An,Aq,Af,Ad,adc,Ap,Aw,A0]
end Go.Ab
