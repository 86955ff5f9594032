/- Doubles and bytes: their texts, the same in the program and the specification. -/
import Derived.Test.YticdffgjgfmicaaGreatDoorPQuoteK
set_option linter.unusedVariables false
set_option linter.unusedSimpArgs false
set_option linter.unnecessarySimpa false
namespace Go.Ab
open Go
set_option maxRecDepth 100000
theorem a4h:((List.range 16).all λd=>(([48,49,50,51,52,53,54,55,56,57,97,98,99,100,101,102,103,104,105,106,107,108,109,110,111,112,113,114,115,116,117,118,119,120,121,122]:Bn).getD d 0)==hexd d)=true:=by kernel_rfl
theorem bfs{d:Nat}(h:d<16):(([48,49,50,51,52,53,54,55,56,57,97,98,99,100,101,102,103,104,105,106,107,108,109,110,111,112,113,114,115,116,117,118,119,120,121,122]:Bn).getD d 0)=hexd d:=by grind[List.all_eq_true,a4h]
theorem ao0(b:UInt8):aa4 (PV.int (b.toNat:Int))=b:=by show UInt8.ofNat ((b.toNat:Int)).toNat=b;simp_all
theorem a2l{α:Type}(l:List α)(i:Nat)(x:α)(h:i<l.length):(l.set i x).drop i=x::l.drop (i+1):=by rw[List.drop_set,if_neg (Nat.lt_irrefl i),Nat.sub_self,List.drop_eq_getElem_cons h];rfl
theorem a7c:∀(k u i:Nat)(ps:List PV),u<16^(k+1)->u<18446744073709551616->k+1<=i->i<=65->ps.length=65->
 ∃(J z:Nat)(o:List PV),aan ((Y12 S429_12)) ([],(u:Int),false,false,[],([]:Bn),(),(i:Int),(4:Int),(16:Int),(15:Int),PV.agg ps)=some ([],(J:Int),false,false,[],([]:Bn),(),(z:Int),PV.agg o)/\
  J<16/\1<=z/\z<=65/\o.length=65/\hexd J::(o.drop z).map aa4=hexF (k+1) u++(ps.drop i).map aa4:=by
 intro k
 induction k with
 |zero=>
  intro u i ps Y G W t M
  have m:u<16:=by simpa using Y
  have H:decide ((u:Int)>=(16:Int))=false:=Au (by omega)
  refine⟨u,i,ps,aae ?_,m,W,t,M,?_⟩
  ·simp only[Y12,S429_12,H,Af]
  ·rw[hexF,if_pos m];rfl
 |succ k ih=>
  intro u i ps Y G W t M
  by_cases m:u<16
  ·have H:decide ((u:Int)>=(16:Int))=false:=Au (by omega);refine⟨u,i,ps,aae ?_,m,by omega,t,M,?_⟩
   ·simp only[Y12,S429_12,H,Af]
   ·rw[hexF,if_pos m];rfl
  ·have H:decide ((u:Int)>=(16:Int))=true:=Ah (by omega);have X:u%16<16:=Nat.mod_lt _ (by decide);obtain⟨J,z,o,Z,h2,h3,h4,h5,h6⟩:=ih (u / 16) (i-1) (ps.set (i-1) (PV.int ((hexd (u%16)).toNat:Int))) (by grind) (by omega) (by omega) (by omega) (by simp[M]);refine⟨J,z,o,?_,h2,h3,h4,h5,?_⟩
   ·rw[<-Z];refine aal ?_;have hw:IntKind.wrap .i64 ((i:Int)-(1:Int))=((i-1:Nat):Int):=by
     grind[abd]
    have hb:aen .and .u64 (u:Int) (15:Int)=((u%16:Nat):Int):=by have:=ak1 u 15 G (by decide);rw[show u &&& 15=u%16 from Nat.and_two_pow_sub_one_eq_mod u 4]at this;exact this
    have U:aab ((u%16:Nat):Int) (([48,49,50,51,52,53,54,55,56,57,97,98,99,100,101,102,103,104,105,106,107,108,109,110,111,112,113,114,115,116,117,118,119,120,121,122]:Bn).length)=true:=by rw[aaa];exact Ah (A2 X (by decide))
    have V:aab ((i-1:Nat):Int) 65=true:=by grind[aaa,decide_eq_true]
    have O:decide ((0:Int)<=(4:Int))=true:=rfl;have I:(u:Int).fdiv (2^(min (4:Int).toNat (IntKind.bits .u64)))=((u / 16:Nat):Int):=by show(u:Int).fdiv 16=_;grind
    simp only[Y12,S429_12,H,Ad,hw,hb,U,V,O,I,Ae,bfs X];rfl
   ·rw[h6,show hexF (k+1+1) u=hexF (k+1) (u / 16)++[hexd (u%16)] by rw[hexF,if_neg m],Ap];grind[a2l,ao0]
def a6n(t:((List PV)×Int×Bool×Bool×(List PV)×Bn×Unit×Int×PV)):Option ((List PV)×Bn):=
 let m:=IntKind.wrap .i64 (t.2.2.2.2.2.2.2.1-(1:Int))
 let z:=t.2.1
 bif aab z (([48,49,50,51,52,53,54,55,56,57,97,98,99,100,101,102,103,104,105,106,107,108,109,110,111,112,113,114,115,116,117,118,119,120,121,122]:Bn).length)then
 let G:=((([48,49,50,51,52,53,54,55,56,57,97,98,99,100,101,102,103,104,105,106,107,108,109,110,111,112,113,114,115,116,117,118,119,120,121,122]:Bn).getD z.toNat 0).toNat:Int)
 bif aab m 65 then
 bif t.2.2.1 then
  let o:=IntKind.wrap .i64 (m-(1:Int))
  bif aab o 65 then
  bif t.2.2.2.1 then
   bif decide (0<=o/\o<65/\o<=(65:Int)/\(65:Int)<=65)then
   none
   else none
  else
   bif decide (0<=o/\o<65/\o<=(65:Int)/\(65:Int)<=65)then
   let H:=(((PV.agg ((PV.agg (t.2.2.2.2.2.2.2.2.parts.set m.toNat (PV.int G))).parts.set o.toNat (PV.int (45:Int)))).parts.drop o.toNat).take ((65:Int).toNat-o.toNat)).map aa4
   some (t.2.2.2.2.1,H)
   else none
  else none
 else
  bif t.2.2.2.1 then
   bif decide (0<=m/\m<65/\m<=(65:Int)/\(65:Int)<=65)then
   none
   else none
  else
   bif decide (0<=m/\m<65/\m<=(65:Int)/\(65:Int)<=65)then
   let I:=(((PV.agg (t.2.2.2.2.2.2.2.2.parts.set m.toNat (PV.int G))).parts.drop m.toNat).take ((65:Int).toNat-m.toNat)).map aa4
   some (t.2.2.2.2.1,I)
   else none
 else none
 else none
theorem a7b(u:Int):F429 [] u 16 false false=(aan ((Y12 S429_12)) ([],u,false,false,[],([]:Bn),(),(65:Int),(4:Int),(16:Int),(15:Int),PV.agg (List.replicate 65 (PV.int (0:Int))))).bind a6n:=by kernel_rfl
theorem fmt16(u:Nat)(O:u<18446744073709551616):Lfmt 0 (u:Int) (16:Int)=some (hexF 16 u):=by
 obtain⟨H,m,t,J,I,V,W,X,Y⟩:=a7c 15 u 65 (List.replicate 65 (PV.int (0:Int))) (by omega) O (by omega) (by omega) (by simp);have e:Lfmt 0 (u:Int) (16:Int)=(F429 [] (u:Int) 16 false false).bind λy=>some y.2:=rfl;rw[e,a7b,show(65:Int)=((65:Nat):Int)from rfl,J,Aa];have U:IntKind.wrap .i64 ((m:Int)-(1:Int))=((m - 1:Nat):Int):=by grind[abd]
 have z:aab ((H:Nat):Int) (([48,49,50,51,52,53,54,55,56,57,97,98,99,100,101,102,103,104,105,106,107,108,109,110,111,112,113,114,115,116,117,118,119,120,121,122]:Bn).length)=true:=by rw[aaa];exact Ah (A2 I (by decide))
 have G:aab ((m - 1:Nat):Int) 65=true:=by grind[aaa,decide_eq_true]
 have M:decide ((0:Int)<=((m - 1:Nat):Int)/\((m - 1:Nat):Int)<65/\((m - 1:Nat):Int)<=(65:Int)/\(65:Int)<=65)=true:=Ah (by omega);have o:(((PV.agg (t.set (m - 1) (PV.int ((hexd H).toNat:Int)))).parts.drop (m - 1)).take ((65:Int).toNat-(m - 1))).map aa4=hexF 16 u:=by show(((t.set (m - 1) (PV.int ((hexd H).toNat:Int))).drop (m - 1)).take (65-(m - 1))).map aa4=_;grind[List.take_of_length_le,a2l,ao0]
 unfold a6n;simp only[U,z,G,M,Ad,Af,Ae,bfs I,PV.parts]at o ⊢;rw[o];rfl
theorem awb(u:Nat)(H:u<18446744073709551616):F399 (u:Int)=some (af9 u):=by
 have z:aen .and .u64 (u:Int) (9218868437227405312:Int)=((u / 4503599627370496%2048*4503599627370496:Nat):Int):=by grind[ak1,bb8]
 have G:aen .and .u64 (u:Int) (4503599627370495:Int)=((u%4503599627370496:Nat):Int):=by grind[ak1,bb9]
 have m:(((u / 4503599627370496%2048*4503599627370496:Nat):Int)==(9218868437227405312:Int))=decide (u / 4503599627370496%2048=2047):=by grind
 have o:(((u / 4503599627370496%2048*4503599627370496:Nat):Int)==(0:Int))=decide (u / 4503599627370496%2048=0):=by grind
 have t:(((u%4503599627370496:Nat):Int)==(0:Int))=decide (u%4503599627370496=0):=nbeq _ 0;unfold F399 af9;grind
theorem ako(u:Nat):F378 (u:Int)=some (af9 u):=by
 have G:(u:Int).tmod (9223372036854775808:Int)=((u%9223372036854775808:Nat):Int):=rfl;have m:decide (((u%9223372036854775808:Nat):Int)>(9218868437227405312:Int))=decide (9218868437227405312<u%9223372036854775808):=by grind
 have o:(((u%9223372036854775808:Nat):Int)==(9218868437227405312:Int))=decide (u%9223372036854775808=9218868437227405312):=nbeq _ 9218868437227405312;have t:(((u%9223372036854775808:Nat):Int)==(0:Int))=decide (u%9223372036854775808=0):=nbeq _ 0;have z:decide (((u%9223372036854775808:Nat):Int)<(4503599627370496:Int))=decide (u%9223372036854775808<4503599627370496):=by grind
 grind[F378,af9]
def akc(u:Nat):Bn:=
 bif af9 u==0 then[110,97,110]else bif af9 u==1 then(bif decide (9223372036854775808<=u)then[45,105,110,102]else[105,110,102])else[48,120]++hexN 16 u
theorem a0g(n:Nat):Lib.repeatL ([48]:Bn) n=List.replicate n 48:=by
 induction n with
 |zero=>rfl
 |succ n m=>rw[List.replicate_succ,<-m];rfl
theorem a7o(u:Nat)(J:u<18446744073709551616):F423 (u:Int)=some (akc u):=by
 obtain⟨z,G⟩:(hexF 16 u).length<=16/\List.replicate (16-(hexF 16 u).length) 48++hexF 16 u=hexN 16 u:=bdh 15 u (by omega);have I:aen .and .u64 (u:Int) (9223372036854775808:Int)=((u / 9223372036854775808*9223372036854775808:Nat):Int):=by grind[ak1,bca]
 have m:(((u / 9223372036854775808*9223372036854775808:Nat):Int) != (0:Int))=decide (9223372036854775808<=u):=by grind
 have M:IntKind.wrap .i64 ((16:Int)-((hexF 16 u).length:Int))=((16-(hexF 16 u).length:Nat):Int):=by grind[hexF,abd]
 have H:ah1 0 ([48]:Bn) ((16-(hexF 16 u).length:Nat):Int)=some (List.replicate (16-(hexF 16 u).length) 48):=by grind[ah1,decide_eq_true,Int.toNat_natCast,Nat.ble,hexF,Nat.ble_eq,a0g]
 have o:decide (([48,120]:Bn).length+(List.replicate (16-(hexF 16 u).length) (48:UInt8)).length<=aac)=true:=ae8 (by simp;omega);have t:decide ((([48,120]:Bn)++List.replicate (16-(hexF 16 u).length) (48:UInt8)).length+(hexF 16 u).length<=aac)=true:=ae8 (by simp;omega);grind[F423,akc,awb,F425,fmt16,List.append_assoc,af9,decide]
theorem aqn(s:Bn)(G:s.length<=1048576):F419 s=some (s.flatMap λb=>hex2 b.toNat):=by
 have h:=aak (step:=(Y3 S419_4)) (λi(b:Bn)=>(s,b,(i:Int))) (λb=>b) s 0 (λacc b=>acc++hex2 b.toNat) (λi b=>b.length=2*i) (λi b o z=>by
  have t:=bac (s.getD i 0).toNat_lt;have m:decide (b.length+(hex2 (s.getD i 0).toNat).length<=aac)=true:=ae8 (by simp[hex2];omega);refine⟨?_,by simp[hex2];omega⟩;simp only[Y3,S419_4,aai,aaa,o,decide_true,Ad,Ae,t,Aa,m,arj (i:=i) (by omega)]) (λb _=>by
  simp only[Y3,S419_4,aai,Nat.lt_irrefl,decide_false,Af]) s.length 0 [] (by omega) rfl
 have e:∀(l acc:Bn),l.foldl (λacc b=>acc++hex2 b.toNat) acc=acc++l.flatMap λb=>hex2 b.toNat:=by
  intro l;induction l with
  |nil=>intro acc;simp
  |cons b r H=>grind
 rw[Ar,e,Aw]at h;unfold F419;rw[aas,show(0:Int)=((0:Nat):Int)from rfl,h.1];rfl
theorem bhp:((List.range 256).all λb=>(((b:Int).fdiv (2^(min (4:Int).toNat (IntKind.bits .u8))))==((b / 16:Nat):Int))&&(aen .and .u8 (b:Int) (15:Int)==((b%16:Nat):Int)))=true:=by kernel_rfl
theorem nib{b:Nat}(h:b<256):(b:Int).fdiv (2^(min (4:Int).toNat (IntKind.bits .u8)))=((b / 16:Nat):Int)/\aen .and .u8 (b:Int) (15:Int)=((b%16:Nat):Int):=by have:=Be.1 bhp b (List.mem_range.2 h);grind
theorem bi4(s:Bn)(U:s.length<=1048576):F424 s=some (s.flatMap λb=>hex2 b.toNat):=by
 have h:=aak (step:=(Y4 S424_4)) (λi(b:List PV)=>(s,b,(s.length:Int),(i:Int))) (λb=>b) s 0 (λacc b=>acc++[PV.int ((hexd (b.toNat / 16)).toNat:Int),PV.int ((hexd (b.toNat%16)).toNat:Int)]) (λi b=>b.length=2*i) (λi b z O=>by
  have m:=(s.getD i 0).toNat_lt;obtain⟨H,I⟩:=nib m;have J:aab (((s.getD i 0).toNat / 16:Nat):Int) (([48,49,50,51,52,53,54,55,56,57,97,98,99,100,101,102]:Bn).length)=true:=by rw[aaa];exact Ah (by show _<16;omega)
  have M:aab (((s.getD i 0).toNat%16:Nat):Int) (([48,49,50,51,52,53,54,55,56,57,97,98,99,100,101,102]:Bn).length)=true:=by rw[aaa];exact Ah (by show _<16;omega)
  have t:∀x y:PV,decide (b.length+[x,y].length<=accMax)=true:=λx y=>Ah (by grind[accMax]);refine⟨?_,by simp;omega⟩;simp only[Y4,S424_4,aai,aaa,z,decide_true,Ad,Ae,H,I,J,M,t,arj (i:=i) (by omega)];rfl) (λb _=>by
  simp only[Y4,S424_4,aai,Nat.lt_irrefl,decide_false,Af]) s.length 0 [] (by omega) rfl
 have e:∀(l:Bn)(acc:List PV),(l.foldl (λacc b=>acc++[PV.int ((hexd (b.toNat / 16)).toNat:Int),PV.int ((hexd (b.toNat%16)).toNat:Int)]) acc).map aa4=acc.map aa4++l.flatMap λb=>hex2 b.toNat:=by
  intro l;induction l with
  |nil=>intro acc;simp
  |cons b r V=>grind[ao0,hex2]
 unfold F424;have G:IntKind.wrap .i64 ((2:Int)*(s.length:Int))=((2*s.length:Nat):Int):=by grind[abd]
 have o:decide ((0:Int)<=((2*s.length:Nat):Int)/\((2*s.length:Nat):Int)<=accMax)=true:=Ah (by unfold accMax;omega);rw[Ar]at h;simp only[G,o,Ad,aas];grind
theorem aoe(s:Bn):(s.flatMap λb=>hex2 b.toNat).length=2*s.length:=by
 induction s with
 |nil=>rfl
 |cons b r m=>grind[List.length_append,hex2]
theorem a8o(u:Nat)(O:u<18446744073709551616):F418 (u:Int)=some (hexN 16 u):=by
 have step:∀(k v:Nat)(acc:List PV),k<8->acc.length=k->v<18446744073709551616->(Y3 S418_4) ((v:Int),acc,(k:Int))=some (.inl (((v / 256:Nat):Int),PV.int ((v%256:Nat):Int)::acc,((k+1:Nat):Int))):=by
  intro k v acc I G J;have t:decide ((k:Int)<(8:Int))=true:=Ah (by omega);have z:IntKind.wrap .u8 ((v:Int).tmod (256:Int))=((v%256:Nat):Int):=by rw[show(v:Int).tmod (256:Int)=((v%256:Nat):Int)from rfl,IntKind.wrap_u8];omega
  have o:IntKind.wrap .u64 ((v:Int).tdiv (256:Int))=((v / 256:Nat):Int):=by rw[show(v:Int).tdiv (256:Int)=((v / 256:Nat):Int)from rfl,IntKind.wrap_u64];omega
  have M:∀x:PV,decide ([x].length+acc.length<=accMax)=true:=λx=>Ah (by grind[accMax]);simp only[Y3,S418_4,t,z,o,M,Ad,arj (i:=k) (by omega)];rfl
 have m:∀(v:Int)(acc:List PV),(Y3 S418_4) (v,acc,((8:Nat):Int))=some (.inr acc):=λv acc=>rfl;have H:∀(j k v:Nat)(acc:List PV),k+j=8->acc.length=k->v<18446744073709551616->∃bs,aan ((Y3 S418_4)) ((v:Int),acc,(k:Int))=some (bs++acc)/\bs.length=j/\((bs.map aa4).flatMap λb=>hex2 b.toNat)=hexN (2*j) v:=by
  intro j;induction j with
  |zero=>
   intro k v acc I G J;have:k=8:=by omega
   subst this;exact⟨[],aae (m _ _),rfl,rfl⟩
  |succ j U=>
   intro k v acc I G J;obtain⟨bs,t,z,o⟩:=U (k+1) (v / 256) (PV.int ((v%256:Nat):Int)::acc) (by omega) (by simp[G]) (by omega);refine⟨bs++[PV.int ((v%256:Nat):Int)],?_,by simp[z],?_⟩
   ·grind[aal]
   ·rw[List.map_append,List.flatMap_append,o,show 2*(j+1)=2*j+2 by omega,bdi];congr 1;have V:(aa4 (PV.int ((v%256:Nat):Int))).toNat=v%256:=by
     show(UInt8.ofNat (((v%256:Nat):Int)).toNat).toNat=_;rw[Ae,UInt8.toNat_ofNat'];omega
    grind[hex2,hexN]
 obtain⟨bs,t,z,o⟩:=H 8 0 u [] (by omega) rfl O;unfold F418;rw[aas,show(0:Int)=((0:Nat):Int)from rfl,t,Aa,List.append_nil,aqn _ (by grind),o];rfl
def aiw(v:PV):Bn:=
 bif ady (aa0 v) v then
  (bif aa0 v==6 then akc (abj v).toNat else bif aa0 v==8 then[120]++akm ((acu v).flatMap λb=>hex2 b.toNat)else al7 v)
 else[]
theorem bkf{v:PV}(h:ady (aa0 v) v=false):al7 v=[]:=by grind[al7]
theorem ai4{v:PV}(h:ady (aa0 v) v=true)(m:aa0 v=8):(acu v).length<=4096:=by unfold ady at h;grind
theorem bfc(v:PV)(U:acn v):F413 v=some (aiw v):=by
 obtain⟨z,G,m,o⟩:=U;by_cases H:aa0 v=6
 ·obtain⟨u,V⟩:∃u:Nat,abj v=(u:Int):=⟨(abj v).toNat,(Int.toNat_of_nonneg m).symm⟩;have t:(v.fld 0).asInt=aa0 v:=rfl;have J:(v.fld 1).asInt=abj v:=rfl;unfold F413 aiw;simp only[t,J,ahb _ _ ⟨z,G,m,o⟩,Aa,V,a7o u (by omega),H,Ae];grind
 ·by_cases O:aa0 v=8
  ·have t:(v.fld 0).asInt=aa0 v:=rfl;have M:(v.fld 2).asStr=acu v:=rfl;unfold F413 aiw;simp only[t,M,ahb _ _ ⟨z,G,m,o⟩,Aa];cases I:ady (aa0 v) v with
   |false=>rfl
   |true=>grind[ai4,adf,acu,hex2,aoe,decide,akm,aac,ae8,bi4,alt]
  ·rw[bbm v ⟨z,G,m,o⟩ H O];unfold aiw;cases I:ady (aa0 v) v with
   |false=>rw[bkf I];rfl
   |true=>grind
theorem aqt(v:PV)(V:acn v):F390 v=some (aiw v):=by
 obtain⟨G,H,m,o⟩:=V;by_cases I:aa0 v=6
 ·obtain⟨u,W⟩:∃u:Nat,abj v=(u:Int):=⟨(abj v).toNat,(Int.toNat_of_nonneg m).symm⟩;have t:(v.fld 0).asInt=aa0 v:=rfl;have M:(v.fld 1).asInt=abj v:=rfl;have z:decide ((u:Int)>=(9223372036854775808:Int))=decide (9223372036854775808<=u):=by grind
  have g:decide (([48,120]:Bn).length+(hexN 16 u).length<=aac)=true:=ae8 (by grind[aua]);unfold F390 aiw akc;simp only[t,M,ado _ _ ⟨G,H,m,o⟩,Aa,W,ako u,a8o u (by omega),I,Ae,z,g];grind
 ·by_cases U:aa0 v=8
  ·have t:(v.fld 0).asInt=aa0 v:=rfl;have O:(v.fld 2).asStr=acu v:=rfl;unfold F390 aiw;simp only[t,O,ado _ _ ⟨G,H,m,o⟩,Aa];cases J:ady (aa0 v) v with
   |false=>rfl
   |true=>grind[ai4,adf,acu,hex2,aoe,decide,akm,aac,ae8,aqn,aff]
  ·rw[as3 v ⟨G,H,m,o⟩ I U];unfold aiw;cases J:ady (aa0 v) v with
   |false=>rw[bkf J];rfl
   |true=>grind
theorem bbl(v:PV)(z:(acu v).length<=1048576):(aiw v).length<=4194400:=by
 have G:=al8 v z;have H:(akc (abj v).toNat).length<=20:=by grind[akc,aua,abj,af9,decide]
 unfold aiw;cases o:ady (aa0 v) v with
 |false=>simp
 |true=>
  simp only[Ad];cases aa0 v==6 with
  |true=>grind
  |false=>
   simp only[Af];cases m:aa0 v==8 with
   |false=>grind
   |true=>have I:=ai4 o (by simpa using m);have t:=adf ((acu v).flatMap λb=>hex2 b.toNat);rw[aoe]at t;grind
end Go.Ab
namespace Go.Ab
open Go
set_option maxRecDepth 100000
theorem ev_nf(l:List PV)(p:PV->Bool)(o:l.length<=1048576)(h:∀x,x∈l->F261 x=some (p x)):F260_c261 l ()=some (l.all p):=ad9 (c:=()) (by omega) p λx m=>by show(F261 x).bind (λy=>some (!y,()))=_;rw[h x m];rfl
theorem ev_nm(l:List PV)(p:PV->Bool)(o:l.length<=1048576)(h:∀x,x∈l->F259 x=some (p x)):F258_c259 l ()=some (l.all p):=ad9 (c:=()) (by omega) p λx m=>by show(F259 x).bind (λy=>some (!y,()))=_;rw[h x m];rfl
theorem ev_ni(l:List PV)(p:PV->Bool)(o:l.length<=1048576)(h:∀x,x∈l->F267 x=some (p x)):F266_c267 l ()=some (l.all p):=ad9 (c:=()) (by omega) p λx m=>by show(F267 x).bind (λy=>some (!y,()))=_;rw[h x m];rfl
theorem ev_ne(l:List PV)(p:PV->Bool)(o:l.length<=1048576)(h:∀x,x∈l->F265 x=some (p x)):F264_c265 l ()=some (l.all p):=ad9 (c:=()) (by omega) p λx m=>by show(F265 x).bind (λy=>some (!y,()))=_;rw[h x m];rfl
theorem ev_nd(l:List PV)(p:PV->Bool)(o:l.length<=1048576)(h:∀x,x∈l->F271 x=some (p x)):F270_c271 l ()=some (l.all p):=ad9 (c:=()) (by omega) p λx m=>by show(F271 x).bind (λy=>some (!y,()))=_;rw[h x m];rfl
theorem ev_ns(l:List PV)(p:PV->Bool)(o:l.length<=1048576)(h:∀x,x∈l->F269 x=some (p x)):F268_c269 l ()=some (l.all p):=ad9 (c:=()) (by omega) p λx m=>by show(F269 x).bind (λy=>some (!y,()))=_;rw[h x m];rfl
theorem ev_af(l:List PV)(p:PV->Bool)(o:l.length<=1048576)(h:∀x,x∈l->F274 x=some (p x)):F260_c274 l ()=some (l.all p):=ad9 (c:=()) (by omega) p λx m=>by show(F274 x).bind (λy=>some (!y,()))=_;rw[h x m];rfl
theorem ev_am(l:List PV)(p:PV->Bool)(o:l.length<=1048576)(h:∀x,x∈l->F273 x=some (p x)):F258_c273 l ()=some (l.all p):=ad9 (c:=()) (by omega) p λx m=>by show(F273 x).bind (λy=>some (!y,()))=_;rw[h x m];rfl
theorem ev_ai(l:List PV)(p:PV->Bool)(o:l.length<=1048576)(h:∀x,x∈l->F278 x=some (p x)):F266_c278 l ()=some (l.all p):=ad9 (c:=()) (by omega) p λx m=>by show(F278 x).bind (λy=>some (!y,()))=_;rw[h x m];rfl
theorem ev_ae(l:List PV)(p:PV->Bool)(o:l.length<=1048576)(h:∀x,x∈l->F277 x=some (p x)):F264_c277 l ()=some (l.all p):=ad9 (c:=()) (by omega) p λx m=>by show(F277 x).bind (λy=>some (!y,()))=_;rw[h x m];rfl
theorem ev_ad(l:List PV)(p:PV->Bool)(o:l.length<=1048576)(h:∀x,x∈l->F280 x=some (p x)):F270_c280 l ()=some (l.all p):=ad9 (c:=()) (by omega) p λx m=>by show(F280 x).bind (λy=>some (!y,()))=_;rw[h x m];rfl
theorem ev_as(l:List PV)(p:PV->Bool)(o:l.length<=1048576)(h:∀x,x∈l->F279 x=some (p x)):F268_c279 l ()=some (l.all p):=ad9 (c:=()) (by omega) p λx m=>by show(F279 x).bind (λy=>some (!y,()))=_;rw[h x m];rfl
theorem ev_tx(l:List PV)(p:PV->Bool)(o:l.length<=1048576)(h:∀x,x∈l->F153 x.asStr=some (p x)):F281_c153 l ()=some (l.all p):=ad9 (c:=()) (by omega) p λx m=>by show(F153 x.asStr).bind (λy=>some (!y,()))=_;rw[h x m];rfl
theorem ev_tm(l:List PV)(p:PV->Bool)(o:l.length<=1048576)(h:∀x,x∈l->F282 x=some (p x)):F258_c282 l ()=some (l.all p):=ad9 (c:=()) (by omega) p λx m=>by show(F282 x).bind (λy=>some (!y,()))=_;rw[h x m];rfl
theorem ev_cm(l:List PV)(p:PV->Bool)(o:l.length<=1048576)(h:∀x,x∈l->F284 x=some (p x)):F258_c284 l ()=some (l.all p):=ad9 (c:=()) (by omega) p λx m=>by show(F284 x).bind (λy=>some (!y,()))=_;rw[h x m];rfl
theorem ev_ce(l:List PV)(p:PV->Bool)(o:l.length<=1048576)(h:∀x,x∈l->F285 x=some (p x)):F264_c285 l ()=some (l.all p):=ad9 (c:=()) (by omega) p λx m=>by show(F285 x).bind (λy=>some (!y,()))=_;rw[h x m];rfl
theorem ev_cs(l:List PV)(p:PV->Bool)(o:l.length<=1048576)(h:∀x,x∈l->F286 x=some (p x)):F268_c286 l ()=some (l.all p):=ad9 (c:=()) (by omega) p λx m=>by show(F286 x).bind (λy=>some (!y,()))=_;rw[h x m];rfl
end Go.Ab
namespace Go.Ab
open Go
set_option maxRecDepth 100000
theorem a8g{α:Type}(p:α->Bool):∀(l:List α)(b:Bool),l.foldl (λb x=>b&&p x) b=(b&&l.all p):=by
 intro l;induction l with
 |nil=>intro b;simp
 |cons x r m=>intro b;rw[List.foldl_cons,m,Bb,Bool.and_assoc]
theorem abv{G H α:Type}{step:G->Option (G⊕H)}(z:Nat->Bool->G)(o:Bool->H)(xs:List α)(d:α)(p:α->Bool)
 (m:∀i b,i<xs.length->step (z i b)=some (.inl (z (i+1) (b&&p (xs.getD i d))))) (t:∀b,step (z xs.length b)=some (.inr (o b))) (b:Bool):aan step (z 0 b)=some (o (b&&xs.all p)):=by
 have h:=aak z o xs d (λb x=>b&&p x) (λ_ _=>True) (λi b I _=>⟨m i b I,trivial⟩) (λb _=>t b) xs.length 0 b (by omega) trivial
 rw[Ar,a8g]at h
 exact h.1
theorem bi9{k:Int}(h:1<=k)(m:k<=8):k=1\/k=2\/k=3\/k=4\/k=5\/k=6\/k=7\/k=8:=by omega
theorem a9h{k:Int}(h:k<1\/8<k):(bif (decide (k<(1:Int)))then true else(decide (k>(8:Int))))=true:=by grind
noncomputable def kw(k:Int):Bn:=(F371 k).getD []
theorem a1t{k:Int}(h:k<1\/8<k):F371 k=some []:=by grind[F371,a9h]
theorem bja(k:Int):F371 k=some (kw k):=by
 unfold kw;by_cases h:k<1\/8<k
 ·rw[a1t h];rfl
 ·rcases bi9 (k:=k) (by omega) (by omega)with rfl|rfl|rfl|rfl|rfl|rfl|rfl|rfl<;>kernel_rfl
theorem aol(k:Int):F382 k=some (kw k):=by
 unfold kw;by_cases h:k<1\/8<k
 ·grind[a1t,F382,a9h]
 ·rcases bi9 (k:=k) (by omega) (by omega)with rfl|rfl|rfl|rfl|rfl|rfl|rfl|rfl<;>kernel_rfl
theorem bhe:((List.range 8).all λi=>Nat.ble (kw ((i:Int)+1)).length 10&&!(kw ((i:Int)+1)==[]))=true:=by kernel_rfl
theorem bfv{k:Int}(h:¬(k<1\/8<k)):(kw k).length<=10/\kw k≠[]:=by obtain⟨i,m,rfl⟩:∃i:Nat,i<8/\k=(i:Int)+1:=⟨(k-1).toNat,by omega,by omega⟩;have:=Be.1 bhe i (List.mem_range.2 m);simp_all
theorem a1s(k:Int):(kw k).length<=10:=by grind[kw,a1t,bfv]
def agq(k:Int):Bool:=decide (1<=k)&&decide (k<=8)
theorem au0(k:Int):F347 k=some (agq k):=by unfold F347 agq;grind
theorem bfw(k:Int):(!(kw k==([]:Bn)))=agq k:=by grind[agq,kw,a1t,decide_eq_false,decide_eq_true,beq_eq_false_iff_ne,bfv]
noncomputable def noKw(s:Bn):Bool:=allF (λi=>!(kw ((i:Int)+1)==s)) 0 8
theorem bfn:((List.range 8).all λi=>(((F400).getD .bad).fld i).asStr==kw ((i:Int)+1))=true:=by kernel_rfl
theorem bh7{i:Nat}(h:i<8):(((F400).getD .bad).fld i).asStr=kw ((i:Int)+1):=by have:=Be.1 bfn i (List.mem_range.2 h);simpa using this
theorem bdt(s:Bn):∃k,F348 s=some k/\(k==(0:Int))=noKw s:=by
 have M:F400=some ((F400).getD .bad):=rfl;obtain⟨r,z,G,H⟩:=azu (step:=(Y3 S348_3)) (λi=>(s,(F400).getD .bad,(i:Int))) 8 (λi=>!(kw ((i:Int)+1)==s)) (λi=>(Sum.inl ((i:Int)+1):Int⊕Unit)) (Sum.inr ()) (λi t=>by
  have I:decide ((i:Int)<(8:Int))=true:=Ah (by omega);have m:IntKind.wrap .i64 ((i:Int)+(1:Int))=(i:Int)+1:=a2w (by omega) (by omega);have J:aab (i:Int) 8=true:=by rw[aaa];exact Ah t
  simp only[Y3,S348_3,I,J,Ad,Ae,bh7 t,m];cases(kw ((i:Int)+1)==s)<;>rfl) rfl 8 0 (by omega)
 unfold F348;rw[M,Aa,aas,show(0:Int)=((0:Nat):Int)from rfl,z];unfold noKw;cases o:allF (λi=>!(kw ((i:Int)+1)==s)) 0 8 with
 |true=>exact⟨0,by rw[G o];rfl,rfl⟩
 |false=>obtain⟨j,_,_,rfl⟩:=H o;exact⟨(j:Int)+1,rfl,by show(((j:Int)+1)==0)=false;rw[Bc];omega⟩
theorem avn(t:PV):aan ((Y3 S315_5)) ((),(1:Int),t)=some (bif noKw (t.fld 1).asStr then .inr ((),t)else .inl (false,t)):=by
 have h:=acj (step:=(Y3 S315_5)) (λi=>((),(i:Int)+1,t)) 8 (λi=>!(kw ((i:Int)+1)==(t.fld 1).asStr)) (Sum.inl (false,t):(Bool×PV)⊕(Unit×PV)) (Sum.inr ((),t)) (λi z=>by
  have o:decide ((i:Int)+1<=(8:Int))=true:=Ah (by omega);have m:IntKind.wrap .i64 ((i:Int)+1+(1:Int))=((i+1:Nat):Int)+1:=by rw[a2w (by omega) (by omega)];omega
  simp only[Y3,S315_5,o,Ad,aol,Aa,m,beqC (t.fld 1).asStr];cases(kw ((i:Int)+1)==(t.fld 1).asStr)<;>rfl) rfl 8 0 (by omega)
 exact h
theorem a0y(s:Bn)(O:s.length<=1048576):((F356 s ([46]:Bn)).bind λI=>(F37 I).bind λJ=>some J)=some (ajp s):=by
 have H:F356 s ([46]:Bn)=some (match s with|[]=>[]|c::r=>bif c==46 then r else c::r):=by
  unfold F356 F403 F411;cases s with
  |nil=>rfl
  |cons c r=>
   have m:decide (((c::r).length:Int)>=(([46]:Bn).length:Int))=true:=Ah (by grind);have o:decide ((0:Int)<=(0:Int)/\(0:Int)<=(([46]:Bn).length:Int)/\(([46]:Bn).length:Int)<=((c::r).length:Int))=true:=Ah (by grind);have t:decide ((0:Int)<=(([46]:Bn).length:Int)/\(([46]:Bn).length:Int)<=((c::r).length:Int)/\((c::r).length:Int)<=((c::r).length:Int))=true:=Ah (by grind);have z:(((c::r).take (([46]:Bn).length:Int).toNat).drop (0:Int).toNat==([46]:Bn))=(c==46):=by simp_all
   have G:(((c::r).take ((c::r).length:Int).toNat).drop (([46]:Bn).length:Int).toNat)=r:=by simp_all
   simp only[m,o,t,z,G,imp,Ad,Aa];grind
 rw[H,Aa];cases s with
 |nil=>rw[aig _ (by simp)];rfl
 |cons c r=>
  have M:(bif c==46 then r else c::r).length<=1048576:=by grind
  grind[aig,ajp]
theorem ald(s:Bn)(m:s.length<=1048576):F272 s=some (ajp s):=a0y s m
theorem al9(s:Bn)(H:s.length<=1048576):F316 s=some (ajp s):=by
 unfold F316;cases s with
 |nil=>simp only[ad6 ([]:Bn) (by simp)];rfl
 |cons c r=>
  have m:((c::r)==([]:Bn))=false:=rfl;have o:aab (0:Int) (c::r).length=true:=by rw[show(0:Int)=((0:Nat):Int)from rfl,aaa];simp
  have t:((((c::r).getD (0:Int).toNat 0).toNat:Int)==(46:Int))=(c==46):=(eqB c.toNat 46).trans (bgi c 46);have z:decide ((0:Int)<=(1:Int)/\(1:Int)<=((c::r).length:Int)/\((c::r).length:Int)<=((c::r).length:Int))=true:=Ah (by grind);have G:(((c::r).take ((c::r).length:Int).toNat).drop (1:Int).toNat)=r:=by simp_all
  simp only[Al]at H;simp only[m,o,t,z,G,imp,Aq,Ad,ad6 r (by omega),ad6 (c::r) (by simp;omega),Aa,ajp];grind
noncomputable def tnP(t:PV):Bool:=bif agq (t.fld 0).asInt then(t.fld 1).asStr==[]else ajp (t.fld 1).asStr&&noKw (t.fld 1).asStr
theorem a0z(t:PV)(z:(t.fld 1).asStr.length<=1048576):F263 t=some (tnP t):=by
 obtain⟨k,m,o⟩:=bdt (t.fld 1).asStr;unfold F263 tnP;simp only[au0,Aa,ald _ z,m];cases agq (t.fld 0).asInt with
 |true=>rfl
 |false=>
  cases ajp (t.fld 1).asStr with
  |false=>rfl
  |true=>simp only[Ad,Af,Aa,o,Bool.true_and]
theorem ar6(t:PV)(m:(t.fld 1).asStr.length<=1048576):F315 t=some (tnP t):=by
 unfold F315 tnP;simp only[aol,Aa,bfw,aas,avn,al9 _ m];cases agq (t.fld 0).asInt with
 |true=>rfl
 |false=>
  cases noKw (t.fld 1).asStr with
  |false=>simp[sumE]
  |true=>simp[sumE];rw[al9 _ m]
structure OkFld(x:PV):Prop where
 name:(x.fld 1).asStr.length<=1048576
 type:((x.fld 4).fld 1).asStr.length<=1048576
 union:(x.fld 5).asStr.length<=1048576
 dflt:acn (x.fld 7)
 notes:(x.fld 8).asList.length<=1048576
 note:∀n,n∈(x.fld 8).asList->ab1 n
structure OkMsg(m:PV):Prop where
 name:(m.fld 0).asStr.length<=1048576
 fields:(m.fld 1).asList.length<=1048576
 field:∀x,x∈(m.fld 1).asList->OkFld x
 spans:(m.fld 2).asList.length<=1048576
 gone:(m.fld 3).asList.length<=1048576
 goneS:∀x,x∈(m.fld 3).asList->x.asStr.length<=1048576
 notes:(m.fld 4).asList.length<=1048576
 note:∀n,n∈(m.fld 4).asList->ab1 n
structure OkItem(x:PV):Prop where
 name:(x.fld 0).asStr.length<=1048576
 notes:(x.fld 2).asList.length<=1048576
 note:∀n,n∈(x.fld 2).asList->ab1 n
structure OkEnum(m:PV):Prop where
 name:(m.fld 0).asStr.length<=1048576
 items:(m.fld 2).asList.length<=1048576
 item:∀x,x∈(m.fld 2).asList->OkItem x
 spans:(m.fld 3).asList.length<=1048576
 notes:(m.fld 4).asList.length<=1048576
 note:∀n,n∈(m.fld 4).asList->ab1 n
structure OkMeth(x:PV):Prop where
 name:(x.fld 0).asStr.length<=1048576
 inn:(x.fld 1).asStr.length<=1048576
 out:(x.fld 2).asStr.length<=1048576
 notes:(x.fld 4).asList.length<=1048576
 note:∀n,n∈(x.fld 4).asList->ab1 n
structure OkSvc(m:PV):Prop where
 name:(m.fld 0).asStr.length<=1048576
 meths:(m.fld 1).asList.length<=1048576
 meth:∀x,x∈(m.fld 1).asList->OkMeth x
 notes:(m.fld 2).asList.length<=1048576
 note:∀n,n∈(m.fld 2).asList->ab1 n
def abr(l:List PV)(i:Nat):Nat:=(l.map λm=>(m.fld i).asList.length+1).sum
structure OkFile(f:PV):Prop where
 space:(f.fld 1).asStr.length<=1048576
 imports:(f.fld 2).asList.length<=1048576
 importS:∀x,x∈(f.fld 2).asList->x.asStr.length<=1048576
 msgs:(f.fld 3).asList.length<=1048576
 msg:∀x,x∈(f.fld 3).asList->OkMsg x
 enums:(f.fld 4).asList.length<=1048576
 enum:∀x,x∈(f.fld 4).asList->OkEnum x
 svcs:(f.fld 5).asList.length<=1048576
 svc:∀x,x∈(f.fld 5).asList->OkSvc x
 many:abr (f.fld 3).asList 1+abr (f.fld 4).asList 2+abr (f.fld 5).asList 1<=7000000
noncomputable def azz(x:PV):Bool:=aeq (x.fld 1).asStr&&((x.fld 5).asStr==[]||aeq (x.fld 5).asStr)&&tnP (x.fld 4)
noncomputable def az0(m:PV):Bool:=defP (m.fld 0).asStr&&(m.fld 1).asList.all azz
noncomputable def asu(x:PV):Bool:=aeq (x.fld 0).asStr
noncomputable def ap9(m:PV):Bool:=defP (m.fld 0).asStr&&(m.fld 2).asList.all asu
def strm:Bn:=[115,116,114,101,97,109]
noncomputable def aqa(x:PV):Bool:=aeq (x.fld 0).asStr&&ajp (x.fld 1).asStr&&ajp (x.fld 2).asStr&&!((x.fld 1).asStr==strm)&&!((x.fld 2).asStr==strm)
noncomputable def az1(m:PV):Bool:=defP (m.fld 0).asStr&&(m.fld 1).asList.all aqa
noncomputable def anv(f:PV):Bool:=((f.fld 1).asStr==[]||defP (f.fld 1).asStr)&&(f.fld 3).asList.all az0&&(f.fld 4).asList.all ap9&&(f.fld 5).asList.all az1
theorem bd5(x:PV)(h:OkFld x):F261 x=some (azz x):=by unfold F261 azz;simp only[agi,Aa,a0z _ h.type];generalize aeq (x.fld 1).asStr=a;generalize aeq (x.fld 5).asStr=b;generalize((x.fld 5).asStr==([]:Bn))=c;generalize tnP (x.fld 4)=d;cases a<;>cases b<;>cases c<;>cases d<;>rfl
theorem bd8(m:PV)(h:OkMsg m):F259 m=some (az0 m):=by unfold F259 az0;simp only[alc _ h.name,Aa,ev_nf _ azz h.fields λx o=>bd5 x (h.field x o)];cases defP (m.fld 0).asStr<;>rfl
theorem a9x(x:PV):F267 x=some (asu x):=by unfold F267 asu;simp only[agi,Aa]
theorem a9w(m:PV)(h:OkEnum m):F265 m=some (ap9 m):=by unfold F265 ap9;simp only[alc _ h.name,Aa,ev_ni _ asu h.items λx o=>a9x x];cases defP (m.fld 0).asStr<;>rfl
theorem a9y(x:PV)(h:OkMeth x):F271 x=some (aqa x):=by unfold F271 aqa strm;simp only[agi,Aa,ald _ h.inn,ald _ h.out];generalize aeq (x.fld 0).asStr=a;generalize ajp (x.fld 1).asStr=b;generalize ajp (x.fld 2).asStr=c;generalize((x.fld 1).asStr==([115,116,114,101,97,109]:Bn))=d;generalize((x.fld 2).asStr==([115,116,114,101,97,109]:Bn))=e;cases a<;>cases b<;>cases c<;>cases d<;>cases e<;>rfl
theorem bd9(m:PV)(h:OkSvc m):F269 m=some (az1 m):=by unfold F269 az1;simp only[alc _ h.name,Aa,ev_nd _ aqa h.meths λx o=>a9y x (h.meth x o)];cases defP (m.fld 0).asStr<;>rfl
theorem bd3(f:PV)(h:OkFile f):F169 f=some (anv f):=by unfold F169 anv;simp only[alc _ h.space,Aa,ev_nm _ az0 h.msgs λx m=>bd8 x (h.msg x m),ev_ne _ ap9 h.enums λx m=>a9w x (h.enum x m),ev_ns _ az1 h.svcs λx m=>bd9 x (h.svc x m)];generalize((f.fld 1).asStr==([]:Bn))=a;generalize defP (f.fld 1).asStr=b;generalize(f.fld 3).asList.all az0=c;generalize(f.fld 4).asList.all ap9=d;generalize(f.fld 5).asList.all az1=e;cases a<;>cases b<;>cases c<;>cases d<;>cases e<;>rfl
theorem alw(f m:PV)(i:Int)(h:∀x,x∈(m.fld 1).asList->OkFld x)(I:(m.fld 1).asList.length<=1048576)(b:Bool):
 aan ((Y7 S224_9)) ((),b,i,(),(0:Int),f,m)=some ((),b&&(m.fld 1).asList.all azz,i,f,m):=
 abv (step:=(Y7 S224_9)) (λk b=>((),b,i,(),(k:Int),f,m)) (λb=>((),b,i,f,m)) (m.fld 1).asList .bad azz (λk b t=>by
  have o:=h _ (aaq t .bad);have z:=ais ((((m.fld 1).asList.getD k .bad).fld 1).asStr) (by have:=o.name;omega);have G:=ais ((((m.fld 1).asList.getD k .bad).fld 5).asStr) (by have:=o.union;omega);have H:=ar6 ((((m.fld 1).asList.getD k .bad).fld 4)) o.type;simp only[Y7,S224_9,aai,aaa,t,decide_true,Ad,Ae,z,G,H,Aa,abf (i:=k) (by omega)];unfold azz;generalize aeq (((m.fld 1).asList.getD k .bad).fld 1).asStr=a;generalize aeq (((m.fld 1).asList.getD k .bad).fld 5).asStr=c;generalize((((m.fld 1).asList.getD k .bad).fld 5).asStr==([]:Bn))=d;generalize tnP (((m.fld 1).asList.getD k .bad).fld 4)=e;cases b<;>cases a<;>cases c<;>cases d<;>cases e<;>rfl) (λb=>by
  simp only[Y7,S224_9,aai,Nat.lt_irrefl,decide_false,Af]) b
theorem alx(f:PV)(h:OkFile f)(b:Bool):aan ((Y4 S224_4)) ((),b,(0:Int),f)=some ((),b&&(f.fld 3).asList.all az0,f):=
 abv (step:=(Y4 S224_4)) (λk b=>((),b,(k:Int),f)) (λb=>((),b,f)) (f.fld 3).asList .bad az0 (λk b o=>by
  have m:=h.msg _ (aaq o .bad);have t:=h.msgs;simp only[Y4,S224_4,aai,aaa,o,decide_true,Ad,Ae,ai2 _ m.name,Aa];cases b with
  |false=>simp only[Af,Aa,aas,alw f _ _ m.field m.fields,abf (i:=k) (by omega),Bool.false_and]
  |true=>simp only[Ad,Aa,aas,alw f _ _ m.field m.fields,abf (i:=k) (by omega),Bool.true_and];rfl) (λb=>by
  simp only[Y4,S224_4,aai,Nat.lt_irrefl,decide_false,Af]) b
theorem aj3(f:PV)(i:Nat)(m:i<(f.fld 4).asList.length)(h:OkEnum ((f.fld 4).asList.getD i .bad))(b:Bool):
 aan ((Y5 S224_18)) ((),b,(i:Int),(0:Int),f)=some ((),b&&(((f.fld 4).asList.getD i .bad).fld 2).asList.all asu,(i:Int),f):=
 abv (step:=(Y5 S224_18)) (λk b=>((),b,(i:Int),(k:Int),f)) (λb=>((),b,(i:Int),f)) (((f.fld 4).asList.getD i .bad).fld 2).asList .bad asu (λk b o=>by
  have z:=h.item _ (aaq o .bad);have G:=h.items;have t:=ais (((((f.fld 4).asList.getD i .bad).fld 2).asList.getD k .bad).fld 0).asStr (by have:=z.name;omega);simp only[Y5,S224_18,aai,aaa,m,o,decide_true,Ad,Ae,t,Aa,abf (i:=k) (by omega),imp];cases b<;>rfl) (λb=>by
  simp only[Y5,S224_18,aai,aaa,m,decide_true,Ad,Ae,Nat.lt_irrefl,decide_false,Af]) b
theorem aj2(f:PV)(h:OkFile f)(b:Bool):aan ((Y4 S224_14)) ((),b,(0:Int),f)=some ((),b&&(f.fld 4).asList.all ap9,f):=
 abv (step:=(Y4 S224_14)) (λk b=>((),b,(k:Int),f)) (λb=>((),b,f)) (f.fld 4).asList .bad ap9 (λk b m=>by
  have o:=h.enum _ (aaq m .bad);have t:=h.enums;simp only[Y4,S224_14,aai,aaa,m,decide_true,Ad,Ae,ai2 _ o.name,Aa,imp];cases b with
  |false=>simp only[Af,Aq,Ad,Aa,aas,aj3 f k m o,abf (i:=k) (by omega),Bool.false_and]
  |true=>simp only[Ad,Aa,aas,aj3 f k m o,abf (i:=k) (by omega),Bool.true_and];rfl) (λb=>by
  simp only[Y4,S224_14,aai,Nat.lt_irrefl,decide_false,Af]) b
theorem aj4(f:PV)(i:Nat)(o:i<(f.fld 5).asList.length)(h:OkSvc ((f.fld 5).asList.getD i .bad))(b:Bool):
 aan ((Y5 S224_26)) ((),b,(i:Int),(0:Int),f)=some ((),b&&(((f.fld 5).asList.getD i .bad).fld 1).asList.all aqa,(i:Int),f):=
 abv (step:=(Y5 S224_26)) (λk b=>((),b,(i:Int),(k:Int),f)) (λb=>((),b,(i:Int),f)) (((f.fld 5).asList.getD i .bad).fld 1).asList .bad aqa (λk b t=>by
  have m:=h.meth _ (aaq t .bad);have G:=h.meths;have z:=ais (((((f.fld 5).asList.getD i .bad).fld 1).asList.getD k .bad).fld 0).asStr (by have:=m.name;omega);simp only[Y5,S224_26,aai,aaa,o,t,decide_true,Ad,Ae,z,al9 _ m.inn,al9 _ m.out,Aa,abf (i:=k) (by omega)];unfold aqa strm;generalize aeq (((((f.fld 5).asList.getD i .bad).fld 1).asList.getD k .bad).fld 0).asStr=a;generalize ajp (((((f.fld 5).asList.getD i .bad).fld 1).asList.getD k .bad).fld 1).asStr=c;generalize ajp (((((f.fld 5).asList.getD i .bad).fld 1).asList.getD k .bad).fld 2).asStr=d;generalize((((((f.fld 5).asList.getD i .bad).fld 1).asList.getD k .bad).fld 1).asStr==([115,116,114,101,97,109]:Bn))=e;generalize((((((f.fld 5).asList.getD i .bad).fld 1).asList.getD k .bad).fld 2).asStr==([115,116,114,101,97,109]:Bn))=g;cases b<;>cases a<;>cases c<;>cases d<;>cases e<;>cases g<;>rfl) (λb=>by
  simp only[Y5,S224_26,aai,aaa,o,decide_true,Ad,Ae,Nat.lt_irrefl,decide_false,Af]) b
theorem aly(f:PV)(h:OkFile f)(b:Bool):aan ((Y4 S224_22)) ((),b,(0:Int),f)=some (b&&(f.fld 5).asList.all az1,f):=
 abv (step:=(Y4 S224_22)) (λk b=>((),b,(k:Int),f)) (λb=>(b,f)) (f.fld 5).asList .bad az1 (λk b m=>by
  have o:=h.svc _ (aaq m .bad);have t:=h.svcs;simp only[Y4,S224_22,aai,aaa,m,decide_true,Ad,Ae,ai2 _ o.name,Aa,imp];cases b with
  |false=>simp only[Af,Aq,Ad,Aa,aas,aj4 f k m o,abf (i:=k) (by omega),Bool.false_and]
  |true=>simp only[Ad,Aa,aas,aj4 f k m o,abf (i:=k) (by omega),Bool.true_and];rfl) (λb=>by
  simp only[Y4,S224_22,aai,Nat.lt_irrefl,decide_false,Af]) b
theorem a0c(f:PV)(h:OkFile f):F224 f=some (anv f):=by
 unfold F224 anv;simp only[ai2 _ h.space,aas];cases((f.fld 1).asStr==([]:Bn))with
 |true=>simp only[An,Af,Ad,Aa,alx f h,aj2 f h,aly f h,Bool.true_or]
 |false=>simp only[Aq,Af,Ad,Aa,alx f h,aj2 f h,aly f h,Bool.false_or]
end Go.Ab
