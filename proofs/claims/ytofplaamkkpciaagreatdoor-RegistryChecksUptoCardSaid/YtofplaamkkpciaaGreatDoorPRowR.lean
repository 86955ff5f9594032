/- The text of a file: the same in the program and the specification. -/
import Derived.Test.YtofplaamkkpciaaGreatDoorPNotesR
set_option linter.unusedVariables false
set_option linter.unusedSimpArgs false
set_option linter.unnecessarySimpa false
namespace Go.Ab
open Go
set_option maxRecDepth 100000
theorem adh{α:Type}{a b:Bn}{X:Option α}(h:a.length+b.length<=1000000000000000):(bif decide (a.length+b.length<=aac)then X else none)=X:=by grind[decide_eq_true,aac]
theorem bgj{α:Type}{a:List PV}{x:PV}{X:Option α}(h:a.length<=10000000):(bif decide (a.length+[x].length<=accMax)then X else none)=X:=by grind[aza]
theorem wrOk{s bs:Bn}(h:bs.length+s.length<=100000000000000):aa3 0 s bs=some ((s.length:Int),.nilIface,bs++s):=by grind[aa3,Nat.ble,Nat.ble_eq]
theorem a0k(k:Int)(m s bs:Bn)(o:ah6 0 ([32,32]:Bn) k=some m)(t:m.length<=10)(h:bs.length+s.length<=90000000000000):F206 () k s bs=some (bs++(m++s++[10])):=by unfold F206;simp(disch:=(first|omega|(simp only[Ak,Al,Am];omega))) only[o,adh,wrOk,Aa]
theorem a0i{s bs:Bn}(h:bs.length+s.length<=90000000000000):F206 () (0:Int) s bs=some (bs++(s++[10])):=a0k 0 [] s bs rfl (by simp) h
theorem a0j{s bs:Bn}(h:bs.length+s.length<=90000000000000):F206 () (1:Int) s bs=some (bs++([32,32]++s++[10])):=a0k 1 [32,32] s bs rfl (by simp) h
theorem line2{s bs:Bn}(h:bs.length+s.length<=90000000000000):F206 () (2:Int) s bs=some (bs++([32,32,32,32]++s++[10])):=a0k 2 [32,32,32,32] s bs rfl (by simp) h
def numT(n:Int):Bn:=decB n.toNat
theorem ad4(n:Int):(numT n).length<=20:=aot _
theorem aow{n:Int}(m:0<=n)(o:n<=2147483647):ak4 0 n=some (numT n):=by grind[a3i,aol,numT,decide_eq_false]
theorem ahc{n:Int}(m:0<=n)(z:n<=2147483647):F267 n=some (numT n):=by
 obtain⟨u,rfl⟩:∃u:Nat,n=(u:Int):=⟨n.toNat,(Int.toNat_of_nonneg m).symm⟩;have t:IntKind.wrap .u64 (u:Int)=(u:Int):=by rw[IntKind.wrap_u64];omega
 have o:acp (PV.agg [(PV.int (5:Int)),(PV.int (u:Int)),(PV.str ([]:Bn)),(PV.slice []),(PV.slice []),(PV.slice []),(PV.slice [])]):=⟨show(0:Nat)<=1048576 by omega,show(0:Nat)<=1048576 by omega,m,by show(u:Int)<18446744073709551616;omega⟩;unfold F267;rw[t,arf _ o];rfl
noncomputable def ar1(t:PV):Bn:=
 bif agu (t.fld 0).asInt&&((t.fld 1).asStr==[])then kw (t.fld 0).asInt else
 bif (((t.fld 0).asInt==0)||((t.fld 0).asInt==9)||((t.fld 0).asInt==10))&&ajz (t.fld 1).asStr then(t.fld 1).asStr else[]
theorem bja(t:PV)(m:(t.fld 1).asStr.length<=1048576):F401 t=some (ar1 t):=by grind[F401,ar1,avo,bkk,alo,agu,asInt,ajz]
theorem a6s(t:PV)(m:(t.fld 1).asStr.length<=1048576):F361 t=some (ar1 t):=by grind[F361,ar1,ao2,bgs,amp,agu,asInt,ajz]
theorem ar2(t:PV)(m:(t.fld 1).asStr.length<=1048576):(ar1 t).length<=1048576:=by grind[a3f,asInt,ar1]
noncomputable def litT(v:PV):Bn:=
 bif au5 v then acv v else bif !ad2 (aa0 v) v then[]else bif (aa0 v==6)||(aa0 v==8)then akt (ai5 v)else ai5 v
theorem a1t{v:PV}(t:acp v)(h:ad2 (aa0 v) v=true)(m:((aa0 v==6)||(aa0 v==8))=true):(ai5 v).length<=100000:=by
 unfold ai5;rw[h];simp only[Ad];cases o:aa0 v==6 with
 |true=>simp only[Ad];grind[akk,auy,abk,agc,decide]
 |false=>rw[o,Bool.false_or]at m;grind[ajf,adj,acv,hex2,aou]
theorem bko(v:PV)(m:acp v):F403 v=some (litT v):=by
 have o:(v.fld 0).asInt=aa0 v:=rfl;have t:(v.fld 2).asStr=acv v:=rfl;unfold F403 litT;simp only[o,t,a3m _ m,ahg _ _ m,bf6 _ m,Aa];cases au5 v with
 |true=>rfl
 |false=>
  cases G:ad2 (aa0 v) v with
  |false=>rfl
  |true=>
   rw[atg];cases z:((aa0 v==6)||(aa0 v==8))with
   |false=>rfl
   |true=>have:=a1t m G z;simp only[Ad,Af,An,al9 _ (show(ai5 v).length<=1048576 by omega),Aa]
theorem bbn(v:PV)(m:acp v):F362 v=some (litT v):=by
 have o:(v.fld 0).asInt=aa0 v:=rfl;have t:(v.fld 2).asStr=acv v:=rfl;unfold F362 litT;simp only[o,t,a3a _ m,adu _ _ m,arf _ m,Aa];cases au5 v with
 |true=>rfl
 |false=>
  cases G:ad2 (aa0 v) v with
  |false=>rfl
  |true=>
   rw[atg];cases z:((aa0 v==6)||(aa0 v==8))with
   |false=>rfl
   |true=>have:=a1t m G z;simp only[Ad,Af,An,afj _ (show(ai5 v).length<=1048576 by omega),Aa]
theorem au8(v:PV)(m:acp v):(litT v).length<=5000000:=by
 have o:=bcn v m.2.1;have t:=m.2.1;unfold litT;cases au5 v with
 |true=>grind
 |false=>
  simp only[Af];cases z:ad2 (aa0 v) v with
  |false=>simp
  |true=>simp only[An,Af];grind[aa0,a1t,adj,ai5]
noncomputable def ael(l:List PV):Bn:=bif (l.length:Int)==0 then[]else[32]++ay2 l
theorem arz(l:List PV)(t:l.length<=40)(z:∀n,n∈l->ab5 n):(ay2 l).length<=200000200:=by
 cases l with
 |nil=>simp[ay2]
 |cons n r=>
  rw[show ay2 (n::r)=bif (n::r).all adl then[91]++(aeq n++ahp r)++[93]else[]from rfl];cases o:(n::r).all adl with
  |false=>simp
  |true=>have m:=o;simp only[Bb,Ai]at m;grind[ai4,arl]
theorem ab7(l:List PV)(m:l.length<=40)(o:∀n,n∈l->ab5 n):(ael l).length<=200000201:=by grind[arz,ael]
theorem af8(l:List PV)(m:l.length<=40)(o:∀n,n∈l->ab5 n):F318 l=some (ael l):=by have:=arz l m o;unfold F318 ael;simp(disch:=(first|omega|(simp only[Ak,Al,Am];omega))) only[a0x l m o,Aa,adh];grind
theorem ajp(l:List PV)(m:l.length<=40)(o:∀n,n∈l->ab5 n):F263 l=some (ael l):=by have:=arz l m o;unfold F263 ael;simp(disch:=(first|omega|(simp only[Ak,Al,Am];omega))) only[ast l m o,Aa,adh];cases((l.length:Int)==(0:Int))<;>rfl
structure RowOk(x:PV):Prop where
 ok:OkFld x
 num0:0<=(x.fld 0).asInt
 num1:(x.fld 0).asInt<=65535
 card1:1<=(x.fld 2).asInt
 card5:(x.fld 2).asInt<=5
 few:(x.fld 8).asList.length<=40
def azp(c:Int):Bn:=bif c==1 then[114,101,113,117,105,114,101,100,32]else bif c==2 then[111,112,116,105,111,110,97,108,32]else bif c==3 then[112,108,97,105,110,32]else[108,105,115,116,32]
theorem apn(c:Int):(azp c).length<=9:=by unfold azp;cases c==1<;>cases c==2<;>cases c==3<;>simp
noncomputable def bee(x:PV):Bn:=
 bif (x.fld 2).asInt==5 then[109,97,112,60]++(kw (x.fld 3).asInt++([44,32]++(ar1 (x.fld 4)++[62])))else bif (x.fld 5).asStr==[]then azp (x.fld 2).asInt++ar1 (x.fld 4)else ar1 (x.fld 4)
noncomputable def rowT(x:PV):Bn:=
 bee x++([32]++((x.fld 1).asStr++([32,61,32]++(numT (x.fld 0).asInt++((bif (x.fld 6).asBool then[32,100,101,102,97,117,108,116,32]++litT (x.fld 7)else[])++(ael (x.fld 8).asList++[59]))))))
theorem av3(x:PV)(h:RowOk x):(rowT x).length<=300000000:=by have m:=ar2 _ h.ok.type;have o:=ab7 _ h.few h.ok.note;have t:=au8 _ h.ok.dflt;have z:=a3f (x.fld 3).asInt;have G:=apn (x.fld 2).asInt;have H:=ad4 (x.fld 0).asInt;have I:=h.ok.name;unfold rowT bee;cases((x.fld 2).asInt==5)<;>cases((x.fld 5).asStr==([]:Bn))<;>cases(x.fld 6).asBool<;>simp only[Ad,Af,Ak,Al,Am]<;>omega
theorem bli(x:PV)(h:RowOk x):F319 x=some (rowT x):=by
 have J:=ar2 _ h.ok.type;have M:=ab7 _ h.few h.ok.note;have O:=au8 _ h.ok.dflt;have U:=a3f (x.fld 3).asInt;have V:=apn (x.fld 2).asInt;have W:=ad4 (x.fld 0).asInt;have X:=h.ok.name;have I:aab (x.fld 2).asInt 5=(bif (x.fld 2).asInt==5 then false else true):=by
  have a:=h.card1;have b:=h.card5;have:(x.fld 2).asInt=1\/(x.fld 2).asInt=2\/(x.fld 2).asInt=3\/(x.fld 2).asInt=4\/(x.fld 2).asInt=5:=by omega
  rcases this with e|e|e|e|e<;>rw[e]<;>rfl
 have m:(bif (x.fld 2).asInt==5 then([]:Bn)else((PV.agg [(PV.str ([]:Bn)),(PV.str ([114,101,113,117,105,114,101,100,32]:Bn)),(PV.str ([111,112,116,105,111,110,97,108,32]:Bn)),(PV.str ([112,108,97,105,110,32]:Bn)),(PV.str ([108,105,115,116,32]:Bn))]).fld (x.fld 2).asInt.toNat).asStr)=(bif (x.fld 2).asInt==5 then[]else azp (x.fld 2).asInt):=by
  have a:=h.card1;have b:=h.card5;have:(x.fld 2).asInt=1\/(x.fld 2).asInt=2\/(x.fld 2).asInt=3\/(x.fld 2).asInt=4\/(x.fld 2).asInt=5:=by omega
  rcases this with e|e|e|e|e<;>rw[e]<;>rfl
 have o:=bja _ h.ok.type;have t:=af8 _ h.few h.ok.note;have z:=bko _ h.ok.dflt;have G:=aow h.num0 (by have:=h.num1;omega);unfold F319 rowT bee;simp only[o,t,z,G,bkk,Aa,I];generalize ar1 (x.fld 4)=Y at*;generalize ael (x.fld 8).asList=Z at*;generalize litT (x.fld 7)=t3 at*;generalize kw (x.fld 3).asInt=t4 at*;generalize azp (x.fld 2).asInt=t5 at*;generalize numT (x.fld 0).asInt=t6 at*;generalize(x.fld 1).asStr=t7 at*;cases H:((x.fld 2).asInt==5)with
 |true=>cases(x.fld 6).asBool<;>simp(disch:=(first|omega|(simp only[Ak,Al,Am];omega))) only[Ad,Af,adh,Aq];rfl
 |false=>rw[H]at m;simp only[Af]at m;simp only[m];cases((x.fld 5).asStr==([]:Bn))<;>cases(x.fld 6).asBool<;>simp(disch:=(first|omega|(simp only[Ak,Al,Am];omega))) only[Ad,Af,adh,Aq,Aw]
theorem bbr(x:PV)(h:RowOk x):F264 x=some (rowT x):=by
 have J:=ar2 _ h.ok.type;have M:=ab7 _ h.few h.ok.note;have O:=au8 _ h.ok.dflt;have U:=a3f (x.fld 3).asInt;have V:=apn (x.fld 2).asInt;have W:=ad4 (x.fld 0).asInt;have X:=h.ok.name;have I:aab (IntKind.wrap .i64 ((x.fld 2).asInt-(1:Int))) ([(PV.str ([114,101,113,117,105,114,101,100,32]:Bn)),(PV.str ([111,112,116,105,111,110,97,108,32]:Bn)),(PV.str ([112,108,97,105,110,32]:Bn)),(PV.str ([108,105,115,116,32]:Bn))].length)=(bif (x.fld 2).asInt==5 then false else true):=by
  have a:=h.card1;have b:=h.card5;have:(x.fld 2).asInt=1\/(x.fld 2).asInt=2\/(x.fld 2).asInt=3\/(x.fld 2).asInt=4\/(x.fld 2).asInt=5:=by omega
  rcases this with e|e|e|e|e<;>rw[e]<;>rfl
 have m:(bif (x.fld 2).asInt==5 then([]:Bn)else([(PV.str ([114,101,113,117,105,114,101,100,32]:Bn)),(PV.str ([111,112,116,105,111,110,97,108,32]:Bn)),(PV.str ([112,108,97,105,110,32]:Bn)),(PV.str ([108,105,115,116,32]:Bn))].getD (IntKind.wrap .i64 ((x.fld 2).asInt-(1:Int))).toNat .bad).asStr)=(bif (x.fld 2).asInt==5 then[]else azp (x.fld 2).asInt):=by
  have a:=h.card1;have b:=h.card5;have:(x.fld 2).asInt=1\/(x.fld 2).asInt=2\/(x.fld 2).asInt=3\/(x.fld 2).asInt=4\/(x.fld 2).asInt=5:=by omega
  rcases this with e|e|e|e|e<;>rw[e]<;>rfl
 have o:=a6s _ h.ok.type;have t:=ajp _ h.few h.ok.note;have z:=bbn _ h.ok.dflt;have G:=ahc h.num0 (by have:=h.num1;omega);unfold F264 rowT bee;simp only[o,t,z,G,ao2,Aa,I];generalize ar1 (x.fld 4)=Y at*;generalize ael (x.fld 8).asList=Z at*;generalize litT (x.fld 7)=t3 at*;generalize kw (x.fld 3).asInt=t4 at*;generalize azp (x.fld 2).asInt=t5 at*;generalize numT (x.fld 0).asInt=t6 at*;generalize(x.fld 1).asStr=t7 at*;cases H:((x.fld 2).asInt==5)with
 |true=>cases(x.fld 6).asBool<;>simp(disch:=(first|omega|(simp only[Ak,Al,Am];omega))) only[Ad,Af,adh,Aq,Aw]
 |false=>rw[H]at m;simp only[Af]at m;simp only[m];cases((x.fld 5).asStr==([]:Bn))<;>cases(x.fld 6).asBool<;>simp(disch:=(first|omega|(simp only[Ak,Al,Am];omega))) only[Ad,Af,adh,Aq,Aw]
end Go.Ab
namespace Go.Ab
open Go
set_option maxRecDepth 100000
def asw(g:PV->Bn):List PV->Bn
 |[]=>[]
 |x::r=>[44,32]++(g x++asw g r)
def am9(g:PV->Bn):List PV->Bn
 |[]=>[]
 |x::r=>g x++asw g r
theorem beu(g:PV->Bn)(l:List PV):([44,32]:Bn).intercalate (l.map g)=am9 g l:=by
 cases l with
 |nil=>rfl
 |cons x r=>
  induction r generalizing x with
  |nil=>simp[List.intercalate,am9,asw]
  |cons y r m=>grind[am9,asw,List.intercalate,List.intersperse_cons_cons,List.flatten_cons]
theorem bbz(g:PV->Bn)(B:Nat):∀l:List PV,(∀x,x∈l->(g x).length<=B)->(asw g l).length<=(B+2)*l.length:=by
 intro l;induction l with
 |nil=>grind[asw]
 |cons x r m=>grind[asw,List.length_append,List.length_cons,List.length_nil,Nat.mul_add]
theorem agp(g:PV->Bn)(B:Nat)(l:List PV)(h:∀x,x∈l->(g x).length<=B):(am9 g l).length<=(B+2)*l.length:=by
 cases l with
 |nil=>simp[am9]
 |cons x r=>have o:=h x (by simp);have t:=bbz g B r λy m=>h y (by simp[m]);grind[am9,List.length_append,List.length_cons,Nat.mul_add]
def sepG(g:PV->Bn)(b:Bn)(x:PV):Bn:=(bif b==[]then b else b++[44,32])++g x
theorem bb5(g:PV->Bn)(t:∀x,g x≠[]):∀(l:List PV)(b:Bn),b≠[]->l.foldl (sepG g) b=b++asw g l:=by
 intro l;induction l with
 |nil=>grind[asw]
 |cons x r z=>
  intro b o;have m:(b==([]:Bn))=false:=by simpa using o
  rw[List.foldl_cons,z _ (by unfold sepG;simp[t x])];simp only[sepG,m,Af,asw,Aq]
theorem ayu(g:PV->Bn)(m:∀x,g x≠[])(l:List PV):l.foldl (sepG g) []=am9 g l:=by
 cases l with
 |nil=>rfl
 |cons x r=>rw[List.foldl_cons,bb5 g m r _ (by simp[sepG,m x])];rfl
def resT(g:PV->Bn)(l:List PV):Bn:=bif (l.length:Int)==0 then[]else[32,32,114,101,115,101,114,118,101,100,32]++(am9 g l++[59,10])
theorem avy(g:PV->Bn)(B:Nat)(l:List PV)(h:∀x,x∈l->(g x).length<=B):(resT g l).length<=(B+2)*l.length+20:=by
 have:=agp g B l h;unfold resT;cases((l.length:Int)==0)with
 |true=>simp
 |false=>simp only[Af,Ak,Al,Am];omega
theorem a3h(g:PV->Bn)(m:∀x,g x≠[])(l:List PV):(am9 g l==[])=((l.length:Int)==0):=by
 cases l with
 |nil=>rfl
 |cons x r=>
  have e:(((x::r).length:Int)==(0:Int))=false:=by grind
  rw[e,Be];simp[am9,m x]
theorem gt0(l:List PV):decide ((l.length:Int)>(0:Int))=!((l.length:Int)==0):=by grind
theorem a3j(g:PV->Bn)(B:Nat)(l:List PV)(hB:B<=10000000)(o:l.length<=100)(h:∀x,x∈l->(g x).length<=B):amr 0 (l.map λx=>PV.str (g x)) ([44,32]:Bn)=some (am9 g l):=by
 have m:=agp g B l h;have z:(l.map λx=>PV.str (g x)).map PV.asStr=l.map g:=by rw[List.map_map];rfl
 have t:(B+2)*l.length<=10000002*100:=Nat.mul_le_mul (by omega) o;grind[amr,beu,Nat.ble,Nat.ble_eq,List.length_map,am9]
def spT(x:PV):Bn:=numT (x.fld 0).asInt++(bif (x.fld 0).asInt==(x.fld 1).asInt then[]else[32,45,32]++numT (x.fld 1).asInt)
theorem bhi:∀f u,decF (f+1) u≠[]:=by intro f u;unfold decF;cases Nat.ble u 9<;>simp
theorem bin(n:Int):numT n≠[]:=bhi 19 _
theorem bce(x:PV):spT x≠[]:=by simp[spT,bin]
theorem anm(x:PV):(spT x).length<=43:=by grind[ad4,asInt,spT]
theorem ayb(l:List PV)(J:l.length<=16)(M:∀x,x∈l->ah3 2147483647 x=true)(bs:Bn)(W:bs.length<=50000000000000):F320 () l bs=some (bs++resT spT l):=by
 have q:=aak (step:=(Y6 S320_3)) (λk(acc:List PV)=>((),acc,l,(l.length:Int),(k:Int),bs)) (λacc=>((),acc,bs)) l .bad (λacc x=>acc++[PV.str (spT x)]) (λk acc=>acc.length+(l.length-k)<=10000000) (λk acc t V=>by
  have m:=M _ (aas t .bad);unfold ah3 at m;simp only[Ax]at m;obtain⟨G,o,H,I⟩:=m;have O:=ad4 ((l.getD k .bad).fld 0).asInt;have U:=ad4 ((l.getD k .bad).fld 1).asInt;refine⟨?_,by simp;omega⟩;simp only[Y6,S320_3,aai,aaa,t,decide_true,Ad,Ae,aow G o,aow H I,Aa,abh (i:=k) (by omega),bne];unfold spT;cases(((l.getD k .bad).fld 0).asInt==((l.getD k .bad).fld 1).asInt)<;>simp(disch:=(first|omega|(simp only[Ak,Al,Am];omega))) only[Ad,Af,An,Ao,adh,bgj,List.append_nil]) (λacc _=>by
  simp only[Y6,S320_3,aai,Nat.lt_irrefl,decide_false,Af]) l.length 0 [] (by omega) (by simp;omega)
 rw[Ar,ail,Aw]at q;have z:=agp spT 43 l λx _=>anm x;have o:(43+2)*l.length<=45*16:=Nat.mul_le_mul (by omega) J;unfold F320 resT;rw[aat,show(0:Int)=((0:Nat):Int)from rfl,q.1,Aa];have e:((l.map λx=>PV.str (spT x)).length:Int)=(l.length:Int):=by grind
 simp(disch:=(first|omega|(simp only[Ak,Al,Am];omega))) only[e,gt0,a3j spT 43 l (by omega) (by omega) λx _=>anm x,Aa,adh,a0j];grind
theorem ark(l:List PV)(V:l.length<=16)(W:∀x,x∈l->ah3 2147483647 x=true):F265 l=some (resT spT l):=by
 have q:=aak (step:=(Y3 S265_4)) (λk(b:Bn)=>(l,b,(k:Int))) (λb=>b) l .bad (sepG spT) (λk b=>b.length<=50*k/\(b=[] ↔ k=0)) (λk b H G=>by
  obtain⟨G,J⟩:=G;have t:=W _ (aas H .bad);unfold ah3 at t;simp only[Ax]at t;obtain⟨M,z,O,U⟩:=t;have X:=ad4 ((l.getD k .bad).fld 0).asInt;have Y:=ad4 ((l.getD k .bad).fld 1).asInt;have Z:=anm (l.getD k .bad);have m:(b==([]:Bn))=!decide (0<k):=by
   by_cases h:0<k
   ·rw[Ah h,An,Be];exact λe=>by have:=J.1 e;omega
   ·rw[Av h,J.2 (by omega)];rfl
  have o:decide ((k:Int)>(0:Int))=decide (0<k):=by rw[decide_eq_decide];omega
  refine⟨?_,?_,?_⟩
  ·simp only[Y3,S265_4,aai,aaa,H,decide_true,Ad,Ae,ahc M z,ahc O U,Aa,abh (i:=k) (by omega),bne,o];unfold sepG spT;rw[m,beqC ((l.getD k .bad).fld 0).asInt _];cases decide (0<k)<;>cases(((l.getD k .bad).fld 1).asInt==((l.getD k .bad).fld 0).asInt)<;>simp(disch:=(first|omega|(simp only[Ak,Al,Am];omega))) only[Ad,Af,An,Ao,adh,List.append_nil,Aq]
  ·unfold sepG;cases(b==([]:Bn))<;>simp only[Ad,Af,Ak,Al,Am]<;>omega
  ·simp[sepG,bce]) (λb _=>by
  simp only[Y3,S265_4,aai,Nat.lt_irrefl,decide_false,Af]) l.length 0 [] (by omega) ⟨by simp,by simp⟩
 rw[Ar,ayu spT bce]at q;have I:=agp spT 43 l λx _=>anm x;have z:(43+2)*l.length<=45*16:=Nat.mul_le_mul (by omega) V;unfold F265 resT;rw[aat,show(0:Int)=((0:Nat):Int)from rfl,q.1,Aa,a3h spT bce];simp(disch:=(first|omega|(simp only[Ak,Al,Am];omega))) only[adh];rw[show((0:Nat):Int)=(0:Int)from rfl];cases((l.length:Int)==(0:Int))<;>simp only[Ad,Af,Aq]
def goT(x:PV):Bn:=akt x.asStr
theorem a9r(x:PV):goT x≠[]:=by simp[goT,akt]
theorem ap8(x:PV)(h:x.asStr.length<=1048576):(goT x).length<=4194306:=by grind[adj,goT]
theorem bhz(l:List PV)(O:l.length<=16)(I:∀x,x∈l->x.asStr.length<=1048576):F266 l=some (resT goT l):=by
 have q:=aak (step:=(Y3 S266_4)) (λk(b:Bn)=>(l,b,(k:Int))) (λb=>b) l .bad (sepG goT) (λk b=>b.length<=4200000*k/\(b=[] ↔ k=0)) (λk b G z=>by
  obtain⟨z,J⟩:=z;have m:=I _ (aas G .bad);have V:=ap8 (l.getD k .bad) m;have M:F178 (l.getD k .bad).asStr=some (goT (l.getD k .bad)):=afj _ m;have o:(b==([]:Bn))=!decide (0<k):=by
   by_cases h:0<k
   ·rw[Ah h,An,Be];exact λe=>by have:=J.1 e;omega
   ·rw[Av h,J.2 (by omega)];rfl
  have t:decide ((k:Int)>(0:Int))=decide (0<k):=by rw[decide_eq_decide];omega
  refine⟨?_,?_,?_⟩
  ·simp only[Y3,S266_4,aai,aaa,G,decide_true,Ad,Ae,M,Aa,abh (i:=k) (by omega),t];unfold sepG;rw[o];cases decide (0<k)<;>simp(disch:=(first|omega|(simp only[Ak,Al,Am];omega))) only[Ad,Af,An,Ao,adh,Aq]
  ·unfold sepG;cases(b==([]:Bn))<;>simp only[Ad,Af,Ak,Al,Am]<;>omega
  ·simp[sepG,a9r]) (λb _=>by
  simp only[Y3,S266_4,aai,Nat.lt_irrefl,decide_false,Af]) l.length 0 [] (by omega) ⟨by simp,by simp⟩
 rw[Ar,ayu goT a9r]at q;have H:=agp goT 4194306 l λx m=>ap8 x (I x m);have U:(4194306+2)*l.length<=4194308*16:=Nat.mul_le_mul (by omega) O;unfold F266 resT;rw[aat,show(0:Int)=((0:Nat):Int)from rfl,q.1,Aa,a3h goT a9r];simp(disch:=(first|omega|(simp only[Ak,Al,Am];omega))) only[adh];rw[show((0:Nat):Int)=(0:Int)from rfl];cases((l.length:Int)==(0:Int))<;>simp only[Ad,Af,Aq]
theorem a9s(m:PV)(l:List PV)(I:l.length<=16)(z:∀x,x∈l->x.asStr.length<=1048576)(bs:Bn):aap ((Y7 S209_21)) ((),[],l,(l.length:Int),(0:Int),bs,m)=some ((),l.map (λx=>PV.str (goT x)),bs,m):=by
 have q:=aak (step:=(Y7 S209_21)) (λk(acc:List PV)=>((),acc,l,(l.length:Int),(k:Int),bs,m)) (λacc=>((),acc,bs,m)) l .bad (λacc x=>acc++[PV.str (goT x)]) (λk acc=>acc.length+(l.length-k)<=10000000) (λk acc o H=>by
  have G:=z _ (aas o .bad);have t:F207 (l.getD k .bad).asStr=some (goT (l.getD k .bad)):=al9 _ G;refine⟨?_,by simp;omega⟩;simp(disch:=(first|omega|(simp only[Ak,Al,Am];omega))) only[Y7,S209_21,aai,aaa,o,decide_true,Ad,Ae,t,Aa,bgj];grind[abh]) (λacc _=>by
  simp only[Y7,S209_21,aai,Nat.lt_irrefl,decide_false,Af]) l.length 0 [] (by omega) (by simp;omega)
 grind[ail]
structure MsgOk(m:PV):Prop where
 ok:OkMsg m
 rows:∀x,x∈(m.fld 1).asList->RowOk x
 fields:(m.fld 1).asList.length<=64
 spans:(m.fld 2).asList.length<=16
 span:∀x,x∈(m.fld 2).asList->ah3 2147483647 x=true
 gone:(m.fld 3).asList.length<=16
 few:(m.fld 4).asList.length<=40
def uT(x:PV):Bn:=(x.fld 5).asStr
def be8(u v:Bn):Bn:=
 (bif !(u==[])&&!(v==u)then[32,32,125,10]else[])++((bif !(v==[])&&!(v==u)then[32,32,117,110,105,111,110,32]++(v++[32,123,10])else[])++(bif v==[]then[32,32]else[32,32,32,32]))
noncomputable def ayx(u:Bn)(x:PV):Bn:=be8 u (uT x)++(rowT x++[10])
theorem aru(u:Bn)(x:PV)(h:RowOk x):(ayx u x).length<=302000000:=by have m:=av3 x h;have o:(uT x).length<=1048576:=h.ok.union;unfold ayx be8;cases !(u==[])&&!(uT x==u)<;>cases !(uT x==[])&&!(uT x==u)<;>cases uT x==[]<;>simp only[Ad,Af,Ak,Al,Am]<;>omega
noncomputable def afd:Bn->List PV->Bn
 |_,[]=>[]
 |u,x::r=>ayx u x++afd (uT x) r
def asg:Bn->List PV->Bn
 |u,[]=>u
 |_,x::r=>asg (uT x) r
theorem an2:∀(l:List PV)(b u:Bn),l.foldl (λ(p:Bn×Bn)x=>(p.1++ayx p.2 x,uT x)) (b,u)=(b++afd u l,asg u l):=by
 intro l;induction l with
 |nil=>grind[afd,asg]
 |cons x r m=>grind[afd,asg]
theorem az2:∀(l:List PV)(u:Bn),(∀x,x∈l->RowOk x)->(afd u l).length<=302000000*l.length:=by
 intro l;induction l with
 |nil=>grind[afd]
 |cons x r m=>grind[aru,uT,afd,List.length_append,List.length_cons,Nat.mul_add]
theorem az3(m:PV)(l:List PV)(X:l.length<=64)(I:∀x,x∈l->RowOk x)(b:Bn)(W:b.length<=20000000000000):
 aap ((Y8 S209_5)) ((),(),([]:Bn),l,(l.length:Int),(0:Int),b,m)=some ((),(),asg [] l,b++afd [] l,m):=by
 have q:=aak (step:=(Y8 S209_5)) (λk(p:Bn×Bn)=>((),(),p.2,l,(l.length:Int),(k:Int),p.1,m)) (λp=>((),(),p.2,p.1,m)) l .bad (λ(p:Bn×Bn)x=>(p.1++ayx p.2 x,uT x)) (λk p=>p.1.length<=20000000000000+302000000*k) (λk p z V=>by
  have o:=I _ (aas z .bad);have J:=av3 _ o;have M:(uT (l.getD k .bad)).length<=1048576:=o.ok.union;have O:=aru p.2 _ o;have G:((l.getD k .bad).fld 5).asStr=uT (l.getD k .bad):=rfl;have H:=bli _ o;have U:302000000*k<=302000000*64:=Nat.mul_le_mul (by omega) (by omega);refine⟨?_,by grind⟩;simp only[Y8,S209_5,aai,aaa,z,decide_true,Ad,Ae,G,H,Aa,abh (i:=k) (by omega)];unfold ayx be8;generalize rowT (l.getD k .bad)=t at*;generalize uT (l.getD k .bad)=v at*;generalize p.2=u at*;generalize p.1=c at*;cases(u==([]:Bn))<;>cases(v==u)<;>cases(v==([]:Bn))<;>simp(disch:=(first|omega|(simp only[Ak,Al,Am];omega))) only[An,Ao,Bool.and_true,Bool.and_false,Bool.true_and,Bool.false_and,Ad,Af,adh,a0j,line2,Aa,Aq,Aw,A2]) (λp _=>by
  simp only[Y8,S209_5,aai,Nat.lt_irrefl,decide_false,Af]) l.length 0 (b,[]) (by omega) (by simp;omega)
 grind[an2]
theorem ass(m:PV)(h:MsgOk m)(b:Bn)(V:b.length<=20000000000000):
 aap ((Y5 S180_5)) ((),b,([]:Bn),(0:Int),m)=some ((),b++afd [] (m.fld 1).asList,asg [] (m.fld 1).asList,m):=by
 have W:=h.fields
 have q:=aak (step:=(Y5 S180_5)) (λk(p:Bn×Bn)=>((),p.1,p.2,(k:Int),m)) (λp=>((),p.1,p.2,m)) (m.fld 1).asList .bad (λ(p:Bn×Bn)x=>(p.1++ayx p.2 x,uT x)) (λk p=>p.1.length<=20000000000000+302000000*k) (λk p z U=>by
  have o:=h.rows _ (aas z .bad);have I:=av3 _ o;have J:(uT ((m.fld 1).asList.getD k .bad)).length<=1048576:=o.ok.union;have M:=aru p.2 _ o;have G:(((m.fld 1).asList.getD k .bad).fld 5).asStr=uT ((m.fld 1).asList.getD k .bad):=rfl;have H:=bbr _ o;have O:302000000*k<=302000000*64:=Nat.mul_le_mul (by omega) (by omega);refine⟨?_,by simp only[Ak,Nat.mul_add];omega⟩;simp only[Y5,S180_5,aai,aaa,z,decide_true,Ad,Ae,G,H,Aa,abh (i:=k) (by omega),beqC p.2 (uT ((m.fld 1).asList.getD k .bad))];unfold ayx be8;generalize rowT ((m.fld 1).asList.getD k .bad)=t at*;generalize uT ((m.fld 1).asList.getD k .bad)=v at*;generalize p.2=u at*;generalize p.1=c at*;cases(u==([]:Bn))<;>cases(v==u)<;>cases(v==([]:Bn))<;>simp(disch:=(first|omega|(simp only[Ak,Al,Am];omega))) only[An,Ao,Bool.and_true,Bool.and_false,Bool.true_and,Bool.false_and,Ad,Af,adh,Aa,Aq,Aw,A2]) (λp _=>by
  simp only[Y5,S180_5,aai,Nat.lt_irrefl,decide_false,Af]) (m.fld 1).asList.length 0 (b,[]) (by omega) (by simp;omega)
 rw[Ar,an2]at q
 exact q.1
noncomputable def msgT(m:PV):Bn:=
 [109,101,115,115,97,103,101,32]++((m.fld 0).asStr++(ael (m.fld 4).asList++([32,123,10]++(afd [] (m.fld 1).asList++((bif asg [] (m.fld 1).asList==[]then[]else[32,32,125,10])++(resT spT (m.fld 2).asList++(resT goT (m.fld 3).asList++[125,10])))))))
theorem anb(m:PV)(h:MsgOk m):(ael (m.fld 4).asList).length<=200000201/\(afd [] (m.fld 1).asList).length<=19328000000/\(resT spT (m.fld 2).asList).length<=1000/\(resT goT (m.fld 3).asList).length<=70000000:=by have t:=ab7 _ h.few h.ok.note;have z:=az2 _ [] h.rows;have G:=avy spT 43 (m.fld 2).asList λx _=>anm x;have H:=avy goT 4194306 (m.fld 3).asList λx o=>ap8 x (h.ok.goneS x o);have I:302000000*(m.fld 1).asList.length<=302000000*64:=Nat.mul_le_mul (by omega) h.fields;have J:(43+2)*(m.fld 2).asList.length<=45*16:=Nat.mul_le_mul (by omega) h.spans;have M:(4194306+2)*(m.fld 3).asList.length<=4194308*16:=Nat.mul_le_mul (by omega) h.gone;grind
theorem avf(m:PV)(h:MsgOk m):(msgT m).length<=20000000000:=by obtain⟨o,t,z,G⟩:=anb m h;have H:=h.ok.name;unfold msgT;cases asg [] (m.fld 1).asList==[]<;>simp only[Ad,Af,Ak,Al,Am]<;>omega
theorem bku(m:PV)(h:MsgOk m)(bs:Bn)(hb:bs.length<=10000000000000):F209 () m bs=some (bs++msgT m):=by
 obtain⟨V,W,X,Y⟩:=anb m h;have Z:=h.ok.name;have J:=af8 _ h.few h.ok.note;have M:∀c:Bn,c.length<=20000000000000->_:=λc o=>az3 m _ h.fields h.rows c o;have z:∀c:Bn,c.length<=50000000000000->_:=λc o=>ayb _ h.spans h.span c o;have G:=a9s m _ h.gone h.ok.goneS;have H:=a3j goT 4194306 (m.fld 3).asList (by omega) (by have:=h.gone;omega) λx t=>ap8 x (h.ok.goneS x t);have O:=agp goT 4194306 (m.fld 3).asList λx t=>ap8 x (h.ok.goneS x t);have U:(4194306+2)*(m.fld 3).asList.length<=4194308*16:=Nat.mul_le_mul (by omega) h.gone;have e:(((m.fld 3).asList.map λx=>PV.str (goT x)).length:Int)=((m.fld 3).asList.length:Int):=by grind
 have I:resT goT (m.fld 3).asList=bif ((m.fld 3).asList.length:Int)==0 then[]else[32,32,114,101,115,101,114,118,101,100,32]++(am9 goT (m.fld 3).asList++[59,10]):=rfl;unfold F209 msgT;simp(disch:=(first|omega|(simp only[Ak,Al,Am];omega))) only[J,adh,Aa,a0i,aat,M];cases asg [] (m.fld 1).asList==([]:Bn)with
 |true=>simp(disch:=(first|omega|(simp only[Ak,Al,Am];omega))) only[An,Af,Ad,z,G,Aa,aat,e,gt0];rw[I];cases(((m.fld 3).asList.length:Int)==(0:Int))<;>simp(disch:=(first|omega|(simp only[Ak,Al,Am];omega))) only[An,Ao,Af,Ad,H,adh,a0i,a0j,Aa,Aq,Aw,A2]
 |false=>simp(disch:=(first|omega|(simp only[Ak,Al,Am];omega))) only[Ao,Af,Ad,a0j,z,G,Aa,aat,e,gt0];rw[I];cases(((m.fld 3).asList.length:Int)==(0:Int))<;>simp(disch:=(first|omega|(simp only[Ak,Al,Am];omega))) only[An,Ao,Af,Ad,H,adh,a0i,a0j,Aa,Aq,Aw,A2]
theorem bbo(m:PV)(h:MsgOk m):F180 m=some (msgT m):=by obtain⟨I,J,M,O⟩:=anb m h;have U:=h.ok.name;have o:=ajp _ h.few h.ok.note;have t:∀c:Bn,c.length<=20000000000000->_:=λc H=>ass m h c H;have z:=ark _ h.spans h.span;have G:=bhz _ h.gone h.ok.goneS;unfold F180 msgT;simp(disch:=(first|omega|(simp only[Ak,Al,Am];omega))) only[o,adh,Aa,aat,t,z,G];cases asg [] (m.fld 1).asList==([]:Bn)<;>simp(disch:=(first|omega|(simp only[Ak,Al,Am];omega))) only[An,Ao,Af,Ad,adh,Aq,Aw,A2]
end Go.Ab
