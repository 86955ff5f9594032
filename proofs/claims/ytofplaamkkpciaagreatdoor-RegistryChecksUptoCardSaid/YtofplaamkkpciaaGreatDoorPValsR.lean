/- Doubles and bytes: their texts, the same in the program and the specification. -/
import Derived.Test.YtofplaamkkpciaaGreatDoorPQuoteR
set_option linter.unusedVariables false
set_option linter.unusedSimpArgs false
set_option linter.unnecessarySimpa false
namespace Go.Ab
open Go
set_option maxRecDepth 100000
theorem a5q:((List.range 16).all λd=>(([48,49,50,51,52,53,54,55,56,57,97,98,99,100,101,102,103,104,105,106,107,108,109,110,111,112,113,114,115,116,117,118,119,120,121,122]:Bn).getD d 0)==hexd d)=true:=by kernel_rfl
theorem bgn{d:Nat}(h:d<16):(([48,49,50,51,52,53,54,55,56,57,97,98,99,100,101,102,103,104,105,106,107,108,109,110,111,112,113,114,115,116,117,118,119,120,121,122]:Bn).getD d 0)=hexd d:=by grind[List.all_eq_true,a5q]
theorem apm(b:UInt8):aa5 (PV.int (b.toNat:Int))=b:=by show UInt8.ofNat ((b.toNat:Int)).toNat=b;simp_all
theorem a3w{α:Type}(l:List α)(i:Nat)(x:α)(h:i<l.length):(l.set i x).drop i=x::l.drop (i+1):=by rw[List.drop_set,if_neg (Nat.lt_irrefl i),Nat.sub_self,List.drop_eq_getElem_cons h];rfl
theorem a8i:∀(k u i:Nat)(ps:List PV),u<16^(k+1)->u<18446744073709551616->k+1<=i->i<=65->ps.length=65->
 ∃(J z:Nat)(o:List PV),aap ((Y12 S462_12)) ([],(u:Int),false,false,[],([]:Bn),(),(i:Int),(4:Int),(16:Int),(15:Int),PV.agg ps)=some ([],(J:Int),false,false,[],([]:Bn),(),(z:Int),PV.agg o)/\
  J<16/\1<=z/\z<=65/\o.length=65/\hexd J::(o.drop z).map aa5=hexF (k+1) u++(ps.drop i).map aa5:=by
 intro k
 induction k with
 |zero=>
  intro u i ps Y G W t M
  have m:u<16:=by simpa using Y
  have H:decide ((u:Int)>=(16:Int))=false:=Av (by omega)
  refine⟨u,i,ps,aae ?_,m,W,t,M,?_⟩
  ·simp only[Y12,S462_12,H,Af]
  ·rw[hexF,if_pos m];rfl
 |succ k ih=>
  intro u i ps Y G W t M
  by_cases m:u<16
  ·have H:decide ((u:Int)>=(16:Int))=false:=Av (by omega);refine⟨u,i,ps,aae ?_,m,by omega,t,M,?_⟩
   ·simp only[Y12,S462_12,H,Af]
   ·rw[hexF,if_pos m];rfl
  ·have H:decide ((u:Int)>=(16:Int))=true:=Ah (by omega);have X:u%16<16:=Nat.mod_lt _ (by decide);obtain⟨J,z,o,Z,h2,h3,h4,h5,h6⟩:=ih (u / 16) (i-1) (ps.set (i-1) (PV.int ((hexd (u%16)).toNat:Int))) (by grind) (by omega) (by omega) (by omega) (by simp[M]);refine⟨J,z,o,?_,h2,h3,h4,h5,?_⟩
   ·rw[<-Z];refine aan ?_;have hw:IntKind.wrap .i64 ((i:Int)-(1:Int))=((i-1:Nat):Int):=by
     grind[abf]
    have hb:aer .and .u64 (u:Int) (15:Int)=((u%16:Nat):Int):=by have:=ala u 15 G (by decide);rw[show u &&& 15=u%16 from Nat.and_two_pow_sub_one_eq_mod u 4]at this;exact this
    have U:aab ((u%16:Nat):Int) (([48,49,50,51,52,53,54,55,56,57,97,98,99,100,101,102,103,104,105,106,107,108,109,110,111,112,113,114,115,116,117,118,119,120,121,122]:Bn).length)=true:=by rw[aaa];exact Ah (A0 X (by decide))
    have V:aab ((i-1:Nat):Int) 65=true:=by grind[aaa,decide_eq_true]
    have O:decide ((0:Int)<=(4:Int))=true:=rfl;have I:(u:Int).fdiv (2^(min (4:Int).toNat (IntKind.bits .u64)))=((u / 16:Nat):Int):=by show(u:Int).fdiv 16=_;grind
    simp only[Y12,S462_12,H,Ad,hw,hb,U,V,O,I,Ae,bgn X];rfl
   ·rw[h6,show hexF (k+1+1) u=hexF (k+1) (u / 16)++[hexd (u%16)] by rw[hexF,if_neg m],Aq];grind[a3w,apm]
def a7t(t:((List PV)×Int×Bool×Bool×(List PV)×Bn×Unit×Int×PV)):Option ((List PV)×Bn):=
 let m:=IntKind.wrap .i64 (t.2.2.2.2.2.2.2.1-(1:Int))
 let z:=t.2.1
 bif aab z (([48,49,50,51,52,53,54,55,56,57,97,98,99,100,101,102,103,104,105,106,107,108,109,110,111,112,113,114,115,116,117,118,119,120,121,122]:Bn).length)then
 let G:=((([48,49,50,51,52,53,54,55,56,57,97,98,99,100,101,102,103,104,105,106,107,108,109,110,111,112,113,114,115,116,117,118,119,120,121,122]:Bn).getD z.toNat 0).toNat:Int)
 bif aab m 65 then
 bif t.2.2.1 then
  let o:=IntKind.wrap .i64 (m-(1:Int))
  bif aab o 65 then
  bif t.2.2.2.1 then
   bif decide (0<=o/\o<65/\o<=(65:Int)/\(65:Int)<=65)then
   none
   else none
  else
   bif decide (0<=o/\o<65/\o<=(65:Int)/\(65:Int)<=65)then
   let H:=(((PV.agg ((PV.agg (t.2.2.2.2.2.2.2.2.parts.set m.toNat (PV.int G))).parts.set o.toNat (PV.int (45:Int)))).parts.drop o.toNat).take ((65:Int).toNat-o.toNat)).map aa5
   some (t.2.2.2.2.1,H)
   else none
  else none
 else
  bif t.2.2.2.1 then
   bif decide (0<=m/\m<65/\m<=(65:Int)/\(65:Int)<=65)then
   none
   else none
  else
   bif decide (0<=m/\m<65/\m<=(65:Int)/\(65:Int)<=65)then
   let I:=(((PV.agg (t.2.2.2.2.2.2.2.2.parts.set m.toNat (PV.int G))).parts.drop m.toNat).take ((65:Int).toNat-m.toNat)).map aa5
   some (t.2.2.2.2.1,I)
   else none
 else none
 else none
theorem a8h(u:Int):F462 [] u 16 false false=(aap ((Y12 S462_12)) ([],u,false,false,[],([]:Bn),(),(65:Int),(4:Int),(16:Int),(15:Int),PV.agg (List.replicate 65 (PV.int (0:Int))))).bind a7t:=by kernel_rfl
theorem fmt16(u:Nat)(O:u<18446744073709551616):Lfmt 0 (u:Int) (16:Int)=some (hexF 16 u):=by
 obtain⟨H,m,t,J,I,V,W,X,Y⟩:=a8i 15 u 65 (List.replicate 65 (PV.int (0:Int))) (by omega) O (by omega) (by omega) (by simp);have e:Lfmt 0 (u:Int) (16:Int)=(F462 [] (u:Int) 16 false false).bind λy=>some y.2:=rfl;rw[e,a8h,show(65:Int)=((65:Nat):Int)from rfl,J,Aa];have U:IntKind.wrap .i64 ((m:Int)-(1:Int))=((m - 1:Nat):Int):=by grind[abf]
 have z:aab ((H:Nat):Int) (([48,49,50,51,52,53,54,55,56,57,97,98,99,100,101,102,103,104,105,106,107,108,109,110,111,112,113,114,115,116,117,118,119,120,121,122]:Bn).length)=true:=by rw[aaa];exact Ah (A0 I (by decide))
 have G:aab ((m - 1:Nat):Int) 65=true:=by grind[aaa,decide_eq_true]
 have M:decide ((0:Int)<=((m - 1:Nat):Int)/\((m - 1:Nat):Int)<65/\((m - 1:Nat):Int)<=(65:Int)/\(65:Int)<=65)=true:=Ah (by omega);have o:(((PV.agg (t.set (m - 1) (PV.int ((hexd H).toNat:Int)))).parts.drop (m - 1)).take ((65:Int).toNat-(m - 1))).map aa5=hexF 16 u:=by show(((t.set (m - 1) (PV.int ((hexd H).toNat:Int))).drop (m - 1)).take (65-(m - 1))).map aa5=_;grind[List.take_of_length_le,a3w,apm]
 unfold a7t;simp only[U,z,G,M,Ad,Af,Ae,bgn I,PV.parts]at o ⊢;rw[o];rfl
theorem aw2(u:Nat)(H:u<18446744073709551616):F431 (u:Int)=some (agc u):=by
 have z:aer .and .u64 (u:Int) (9218868437227405312:Int)=((u / 4503599627370496%2048*4503599627370496:Nat):Int):=by grind[ala,bc6]
 have G:aer .and .u64 (u:Int) (4503599627370495:Int)=((u%4503599627370496:Nat):Int):=by grind[ala,bc7]
 have m:(((u / 4503599627370496%2048*4503599627370496:Nat):Int)==(9218868437227405312:Int))=decide (u / 4503599627370496%2048=2047):=by grind
 have o:(((u / 4503599627370496%2048*4503599627370496:Nat):Int)==(0:Int))=decide (u / 4503599627370496%2048=0):=by grind
 have t:(((u%4503599627370496:Nat):Int)==(0:Int))=decide (u%4503599627370496=0):=nbeq _ 0;unfold F431 agc;grind
theorem akv(u:Nat):F420 (u:Int)=some (agc u):=by
 have G:(u:Int).tmod (9223372036854775808:Int)=((u%9223372036854775808:Nat):Int):=rfl;have m:decide (((u%9223372036854775808:Nat):Int)>(9218868437227405312:Int))=decide (9218868437227405312<u%9223372036854775808):=by grind
 have o:(((u%9223372036854775808:Nat):Int)==(9218868437227405312:Int))=decide (u%9223372036854775808=9218868437227405312):=nbeq _ 9218868437227405312;have t:(((u%9223372036854775808:Nat):Int)==(0:Int))=decide (u%9223372036854775808=0):=nbeq _ 0;have z:decide (((u%9223372036854775808:Nat):Int)<(4503599627370496:Int))=decide (u%9223372036854775808<4503599627370496):=by grind
 grind[F420,agc]
def akk(u:Nat):Bn:=
 bif agc u==0 then[110,97,110]else bif agc u==1 then(bif decide (9223372036854775808<=u)then[45,105,110,102]else[105,110,102])else[48,120]++hexN 16 u
theorem a1a(n:Nat):Lib.repeatL ([48]:Bn) n=List.replicate n 48:=by
 induction n with
 |zero=>rfl
 |succ n m=>rw[List.replicate_succ,<-m];rfl
theorem a8u(u:Nat)(J:u<18446744073709551616):F456 (u:Int)=some (akk u):=by
 obtain⟨z,G⟩:(hexF 16 u).length<=16/\List.replicate (16-(hexF 16 u).length) 48++hexF 16 u=hexN 16 u:=bef 15 u (by omega);have I:aer .and .u64 (u:Int) (9223372036854775808:Int)=((u / 9223372036854775808*9223372036854775808:Nat):Int):=by grind[ala,bc9]
 have m:(((u / 9223372036854775808*9223372036854775808:Nat):Int) != (0:Int))=decide (9223372036854775808<=u):=by grind
 have M:IntKind.wrap .i64 ((16:Int)-((hexF 16 u).length:Int))=((16-(hexF 16 u).length:Nat):Int):=by grind[hexF,abf]
 have H:ah6 0 ([48]:Bn) ((16-(hexF 16 u).length:Nat):Int)=some (List.replicate (16-(hexF 16 u).length) 48):=by grind[ah6,decide_eq_true,Int.toNat_natCast,Nat.ble,hexF,Nat.ble_eq,a1a]
 have o:decide (([48,120]:Bn).length+(List.replicate (16-(hexF 16 u).length) (48:UInt8)).length<=aac)=true:=afe (by simp;omega);have t:decide ((([48,120]:Bn)++List.replicate (16-(hexF 16 u).length) (48:UInt8)).length+(hexF 16 u).length<=aac)=true:=afe (by simp;omega);grind[F456,akk,aw2,F458,fmt16,List.append_assoc,agc,decide]
theorem aq8(s:Bn)(G:s.length<=1048576):F425 s=some (s.flatMap λb=>hex2 b.toNat):=by
 have h:=aak (step:=(Y3 S425_4)) (λi(b:Bn)=>(s,b,(i:Int))) (λb=>b) s 0 (λacc b=>acc++hex2 b.toNat) (λi b=>b.length=2*i) (λi b o z=>by
  have t:=bbc (s.getD i 0).toNat_lt;have m:decide (b.length+(hex2 (s.getD i 0).toNat).length<=aac)=true:=afe (by simp[hex2];omega);refine⟨?_,by simp[hex2];omega⟩;simp only[Y3,S425_4,aai,aaa,o,decide_true,Ad,Ae,t,Aa,m,ar4 (i:=i) (by omega)]) (λb _=>by
  simp only[Y3,S425_4,aai,Nat.lt_irrefl,decide_false,Af]) s.length 0 [] (by omega) rfl
 have e:∀(l acc:Bn),l.foldl (λacc b=>acc++hex2 b.toNat) acc=acc++l.flatMap λb=>hex2 b.toNat:=by
  intro l;induction l with
  |nil=>intro acc;simp
  |cons b r H=>grind
 rw[Ar,e,Aw]at h;unfold F425;rw[aat,show(0:Int)=((0:Nat):Int)from rfl,h.1];rfl
theorem bim:((List.range 256).all λb=>(((b:Int).fdiv (2^(min (4:Int).toNat (IntKind.bits .u8))))==((b / 16:Nat):Int))&&(aer .and .u8 (b:Int) (15:Int)==((b%16:Nat):Int)))=true:=by kernel_rfl
theorem nib{b:Nat}(h:b<256):(b:Int).fdiv (2^(min (4:Int).toNat (IntKind.bits .u8)))=((b / 16:Nat):Int)/\aer .and .u8 (b:Int) (15:Int)=((b%16:Nat):Int):=by have:=Bd.1 bim b (List.mem_range.2 h);grind
theorem bkd(s:Bn)(M:s.length<=1048576):F457 s=some (s.flatMap λb=>hex2 b.toNat):=by
 have h:=aak (step:=(Y4 S457_4)) (λi(b:List PV)=>(s,b,(s.length:Int),(i:Int))) (λb=>b) s 0 (λacc b=>acc++[PV.int ((hexd (b.toNat / 16)).toNat:Int),PV.int ((hexd (b.toNat%16)).toNat:Int)]) (λi b=>b.length=2*i) (λi b z J=>by
  have m:=(s.getD i 0).toNat_lt;obtain⟨H,I⟩:=nib m;have r1:aab (((s.getD i 0).toNat / 16:Nat):Int) (([48,49,50,51,52,53,54,55,56,57,97,98,99,100,101,102]:Bn).length)=true:=by rw[aaa];exact Ah (by show _<16;omega)
  have r2:aab (((s.getD i 0).toNat%16:Nat):Int) (([48,49,50,51,52,53,54,55,56,57,97,98,99,100,101,102]:Bn).length)=true:=by rw[aaa];exact Ah (by show _<16;omega)
  have t:∀x y:PV,decide (b.length+[x,y].length<=accMax)=true:=λx y=>Ah (by grind[accMax]);refine⟨?_,by simp;omega⟩;simp only[Y4,S457_4,aai,aaa,z,decide_true,Ad,Ae,H,I,r1,r2,t,ar4 (i:=i) (by omega)];rfl) (λb _=>by
  simp only[Y4,S457_4,aai,Nat.lt_irrefl,decide_false,Af]) s.length 0 [] (by omega) rfl
 have e:∀(l:Bn)(acc:List PV),(l.foldl (λacc b=>acc++[PV.int ((hexd (b.toNat / 16)).toNat:Int),PV.int ((hexd (b.toNat%16)).toNat:Int)]) acc).map aa5=acc.map aa5++l.flatMap λb=>hex2 b.toNat:=by
  intro l;induction l with
  |nil=>intro acc;simp
  |cons b r O=>grind[apm,hex2]
 unfold F457;have G:IntKind.wrap .i64 ((2:Int)*(s.length:Int))=((2*s.length:Nat):Int):=by grind[abf]
 have o:decide ((0:Int)<=((2*s.length:Nat):Int)/\((2*s.length:Nat):Int)<=accMax)=true:=Ah (by unfold accMax;omega);rw[Ar]at h;simp only[G,o,Ad,aat];grind
theorem aou(s:Bn):(s.flatMap λb=>hex2 b.toNat).length=2*s.length:=by
 induction s with
 |nil=>rfl
 |cons b r m=>grind[List.length_append,hex2]
theorem a9t(u:Nat)(O:u<18446744073709551616):F424 (u:Int)=some (hexN 16 u):=by
 have step:∀(k v:Nat)(acc:List PV),k<8->acc.length=k->v<18446744073709551616->(Y3 S424_4) ((v:Int),acc,(k:Int))=some (.inl (((v / 256:Nat):Int),PV.int ((v%256:Nat):Int)::acc,((k+1:Nat):Int))):=by
  intro k v acc I G J;have t:decide ((k:Int)<(8:Int))=true:=Ah (by omega);have z:IntKind.wrap .u8 ((v:Int).tmod (256:Int))=((v%256:Nat):Int):=by rw[show(v:Int).tmod (256:Int)=((v%256:Nat):Int)from rfl,IntKind.wrap_u8];omega
  have o:IntKind.wrap .u64 ((v:Int).tdiv (256:Int))=((v / 256:Nat):Int):=by rw[show(v:Int).tdiv (256:Int)=((v / 256:Nat):Int)from rfl,IntKind.wrap_u64];omega
  have M:∀x:PV,decide ([x].length+acc.length<=accMax)=true:=λx=>Ah (by grind[accMax]);simp only[Y3,S424_4,t,z,o,M,Ad,ar4 (i:=k) (by omega)];rfl
 have m:∀(v:Int)(acc:List PV),(Y3 S424_4) (v,acc,((8:Nat):Int))=some (.inr acc):=λv acc=>rfl;have H:∀(j k v:Nat)(acc:List PV),k+j=8->acc.length=k->v<18446744073709551616->∃bs,aap ((Y3 S424_4)) ((v:Int),acc,(k:Int))=some (bs++acc)/\bs.length=j/\((bs.map aa5).flatMap λb=>hex2 b.toNat)=hexN (2*j) v:=by
  intro j;induction j with
  |zero=>
   intro k v acc I G J;have:k=8:=by omega
   subst this;exact⟨[],aae (m _ _),rfl,rfl⟩
  |succ j U=>
   intro k v acc I G J;obtain⟨bs,t,z,o⟩:=U (k+1) (v / 256) (PV.int ((v%256:Nat):Int)::acc) (by omega) (by simp[G]) (by omega);refine⟨bs++[PV.int ((v%256:Nat):Int)],?_,by simp[z],?_⟩
   ·grind[aan]
   ·rw[List.map_append,List.flatMap_append,o,show 2*(j+1)=2*j+2 by omega,beg];congr 1;have V:(aa5 (PV.int ((v%256:Nat):Int))).toNat=v%256:=by
     show(UInt8.ofNat (((v%256:Nat):Int)).toNat).toNat=_;rw[Ae,UInt8.toNat_ofNat'];omega
    grind[hex2,hexN]
 obtain⟨bs,t,z,o⟩:=H 8 0 u [] (by omega) rfl O;unfold F424;rw[aat,show(0:Int)=((0:Nat):Int)from rfl,t,Aa,List.append_nil,aq8 _ (by grind),o];rfl
def ai5(v:PV):Bn:=
 bif ad2 (aa0 v) v then
  (bif aa0 v==6 then akk (abk v).toNat else bif aa0 v==8 then[120]++akt ((acv v).flatMap λb=>hex2 b.toNat)else amn v)
 else[]
theorem blu{v:PV}(h:ad2 (aa0 v) v=false):amn v=[]:=by grind[amn]
theorem ajf{v:PV}(h:ad2 (aa0 v) v=true)(m:aa0 v=8):(acv v).length<=4096:=by unfold ad2 at h;grind
theorem bf6(v:PV)(U:acp v):F445 v=some (ai5 v):=by
 obtain⟨z,G,m,o⟩:=U;by_cases H:aa0 v=6
 ·obtain⟨u,V⟩:∃u:Nat,abk v=(u:Int):=⟨(abk v).toNat,(Int.toNat_of_nonneg m).symm⟩;have t:(v.fld 0).asInt=aa0 v:=rfl;have J:(v.fld 1).asInt=abk v:=rfl;unfold F445 ai5;simp only[t,J,ahg _ _ ⟨z,G,m,o⟩,Aa,V,a8u u (by omega),H,Ae];grind
 ·by_cases O:aa0 v=8
  ·have t:(v.fld 0).asInt=aa0 v:=rfl;have M:(v.fld 2).asStr=acv v:=rfl;unfold F445 ai5;simp only[t,M,ahg _ _ ⟨z,G,m,o⟩,Aa];cases I:ad2 (aa0 v) v with
   |false=>rfl
   |true=>grind[ajf,adj,acv,hex2,aou,decide,akt,aac,afe,bkd,al9]
  ·rw[bco v ⟨z,G,m,o⟩ H O];unfold ai5;cases I:ad2 (aa0 v) v with
   |false=>rw[blu I];rfl
   |true=>grind
theorem arf(v:PV)(V:acp v):F363 v=some (ai5 v):=by
 obtain⟨G,H,m,o⟩:=V;by_cases I:aa0 v=6
 ·obtain⟨u,W⟩:∃u:Nat,abk v=(u:Int):=⟨(abk v).toNat,(Int.toNat_of_nonneg m).symm⟩;have t:(v.fld 0).asInt=aa0 v:=rfl;have M:(v.fld 1).asInt=abk v:=rfl;have z:decide ((u:Int)>=(9223372036854775808:Int))=decide (9223372036854775808<=u):=by grind
  have g:decide (([48,120]:Bn).length+(hexN 16 u).length<=aac)=true:=afe (by grind[auy]);unfold F363 ai5 akk;simp only[t,M,adu _ _ ⟨G,H,m,o⟩,Aa,W,akv u,a9t u (by omega),I,Ae,z,g];grind
 ·by_cases U:aa0 v=8
  ·have t:(v.fld 0).asInt=aa0 v:=rfl;have O:(v.fld 2).asStr=acv v:=rfl;unfold F363 ai5;simp only[t,O,adu _ _ ⟨G,H,m,o⟩,Aa];cases J:ad2 (aa0 v) v with
   |false=>rfl
   |true=>grind[ajf,adj,acv,hex2,aou,decide,akt,aac,afe,aq8,afj]
  ·rw[atx v ⟨G,H,m,o⟩ I U];unfold ai5;cases J:ad2 (aa0 v) v with
   |false=>rw[blu J];rfl
   |true=>grind
theorem bcn(v:PV)(z:(acv v).length<=1048576):(ai5 v).length<=4194400:=by
 have G:=amo v z;have H:(akk (abk v).toNat).length<=20:=by grind[akk,auy,abk,agc,decide]
 unfold ai5;cases o:ad2 (aa0 v) v with
 |false=>simp
 |true=>
  simp only[Ad];cases aa0 v==6 with
  |true=>grind
  |false=>
   simp only[Af];cases m:aa0 v==8 with
   |false=>grind
   |true=>have I:=ajf o (by simpa using m);have t:=adj ((acv v).flatMap λb=>hex2 b.toNat);rw[aou]at t;grind
end Go.Ab
namespace Go.Ab
open Go
set_option maxRecDepth 100000
theorem ev_nf(l:List PV)(p:PV->Bool)(o:l.length<=1048576)(h:∀x,x∈l->F288 x=some (p x)):F287_c288 l ()=some (l.all p):=aee (c:=()) (by omega) p λx m=>by show(F288 x).bind (λy=>some (!y,()))=_;rw[h x m];rfl
theorem ev_nm(l:List PV)(p:PV->Bool)(o:l.length<=1048576)(h:∀x,x∈l->F286 x=some (p x)):F285_c286 l ()=some (l.all p):=aee (c:=()) (by omega) p λx m=>by show(F286 x).bind (λy=>some (!y,()))=_;rw[h x m];rfl
theorem ev_ni(l:List PV)(p:PV->Bool)(o:l.length<=1048576)(h:∀x,x∈l->F294 x=some (p x)):F293_c294 l ()=some (l.all p):=aee (c:=()) (by omega) p λx m=>by show(F294 x).bind (λy=>some (!y,()))=_;rw[h x m];rfl
theorem ev_ne(l:List PV)(p:PV->Bool)(o:l.length<=1048576)(h:∀x,x∈l->F292 x=some (p x)):F291_c292 l ()=some (l.all p):=aee (c:=()) (by omega) p λx m=>by show(F292 x).bind (λy=>some (!y,()))=_;rw[h x m];rfl
theorem ev_nd(l:List PV)(p:PV->Bool)(o:l.length<=1048576)(h:∀x,x∈l->F298 x=some (p x)):F297_c298 l ()=some (l.all p):=aee (c:=()) (by omega) p λx m=>by show(F298 x).bind (λy=>some (!y,()))=_;rw[h x m];rfl
theorem ev_ns(l:List PV)(p:PV->Bool)(o:l.length<=1048576)(h:∀x,x∈l->F296 x=some (p x)):F295_c296 l ()=some (l.all p):=aee (c:=()) (by omega) p λx m=>by show(F296 x).bind (λy=>some (!y,()))=_;rw[h x m];rfl
theorem ev_af(l:List PV)(p:PV->Bool)(o:l.length<=1048576)(h:∀x,x∈l->F301 x=some (p x)):F287_c301 l ()=some (l.all p):=aee (c:=()) (by omega) p λx m=>by show(F301 x).bind (λy=>some (!y,()))=_;rw[h x m];rfl
theorem ev_am(l:List PV)(p:PV->Bool)(o:l.length<=1048576)(h:∀x,x∈l->F300 x=some (p x)):F285_c300 l ()=some (l.all p):=aee (c:=()) (by omega) p λx m=>by show(F300 x).bind (λy=>some (!y,()))=_;rw[h x m];rfl
theorem ev_ai(l:List PV)(p:PV->Bool)(o:l.length<=1048576)(h:∀x,x∈l->F305 x=some (p x)):F293_c305 l ()=some (l.all p):=aee (c:=()) (by omega) p λx m=>by show(F305 x).bind (λy=>some (!y,()))=_;rw[h x m];rfl
theorem ev_ae(l:List PV)(p:PV->Bool)(o:l.length<=1048576)(h:∀x,x∈l->F304 x=some (p x)):F291_c304 l ()=some (l.all p):=aee (c:=()) (by omega) p λx m=>by show(F304 x).bind (λy=>some (!y,()))=_;rw[h x m];rfl
theorem ev_ad(l:List PV)(p:PV->Bool)(o:l.length<=1048576)(h:∀x,x∈l->F307 x=some (p x)):F297_c307 l ()=some (l.all p):=aee (c:=()) (by omega) p λx m=>by show(F307 x).bind (λy=>some (!y,()))=_;rw[h x m];rfl
theorem ev_as(l:List PV)(p:PV->Bool)(o:l.length<=1048576)(h:∀x,x∈l->F306 x=some (p x)):F295_c306 l ()=some (l.all p):=aee (c:=()) (by omega) p λx m=>by show(F306 x).bind (λy=>some (!y,()))=_;rw[h x m];rfl
theorem ev_tx(l:List PV)(p:PV->Bool)(o:l.length<=1048576)(h:∀x,x∈l->F193 x.asStr=some (p x)):F308_c193 l ()=some (l.all p):=aee (c:=()) (by omega) p λx m=>by show(F193 x.asStr).bind (λy=>some (!y,()))=_;rw[h x m];rfl
theorem ev_tm(l:List PV)(p:PV->Bool)(o:l.length<=1048576)(h:∀x,x∈l->F309 x=some (p x)):F285_c309 l ()=some (l.all p):=aee (c:=()) (by omega) p λx m=>by show(F309 x).bind (λy=>some (!y,()))=_;rw[h x m];rfl
theorem ev_cm(l:List PV)(p:PV->Bool)(o:l.length<=1048576)(h:∀x,x∈l->F311 x=some (p x)):F285_c311 l ()=some (l.all p):=aee (c:=()) (by omega) p λx m=>by show(F311 x).bind (λy=>some (!y,()))=_;rw[h x m];rfl
theorem ev_ce(l:List PV)(p:PV->Bool)(o:l.length<=1048576)(h:∀x,x∈l->F312 x=some (p x)):F291_c312 l ()=some (l.all p):=aee (c:=()) (by omega) p λx m=>by show(F312 x).bind (λy=>some (!y,()))=_;rw[h x m];rfl
theorem ev_cs(l:List PV)(p:PV->Bool)(o:l.length<=1048576)(h:∀x,x∈l->F313 x=some (p x)):F295_c313 l ()=some (l.all p):=aee (c:=()) (by omega) p λx m=>by show(F313 x).bind (λy=>some (!y,()))=_;rw[h x m];rfl
end Go.Ab
namespace Go.Ab
open Go
set_option maxRecDepth 100000
theorem a9m{α:Type}(p:α->Bool):∀(l:List α)(b:Bool),l.foldl (λb x=>b&&p x) b=(b&&l.all p):=by
 intro l;induction l with
 |nil=>intro b;simp
 |cons x r m=>intro b;rw[List.foldl_cons,m,Bb,Bool.and_assoc]
theorem abx{G H α:Type}{step:G->Option (G⊕H)}(z:Nat->Bool->G)(o:Bool->H)(xs:List α)(d:α)(p:α->Bool)
 (m:∀i b,i<xs.length->step (z i b)=some (.inl (z (i+1) (b&&p (xs.getD i d))))) (t:∀b,step (z xs.length b)=some (.inr (o b))) (b:Bool):aap step (z 0 b)=some (o (b&&xs.all p)):=by
 have h:=aak z o xs d (λb x=>b&&p x) (λ_ _=>True) (λi b I _=>⟨m i b I,trivial⟩) (λb _=>t b) xs.length 0 b (by omega) trivial
 rw[Ar,a9m]at h
 exact h.1
theorem bkj{k:Int}(h:1<=k)(m:k<=8):k=1\/k=2\/k=3\/k=4\/k=5\/k=6\/k=7\/k=8:=by omega
theorem ban{k:Int}(h:k<1\/8<k):(bif (decide (k<(1:Int)))then true else(decide (k>(8:Int))))=true:=by grind
noncomputable def kw(k:Int):Bn:=(F402 k).getD []
theorem a3g{k:Int}(h:k<1\/8<k):F402 k=some []:=by grind[F402,ban]
theorem bkk(k:Int):F402 k=some (kw k):=by
 unfold kw;by_cases h:k<1\/8<k
 ·rw[a3g h];rfl
 ·rcases bkj (k:=k) (by omega) (by omega)with rfl|rfl|rfl|rfl|rfl|rfl|rfl|rfl<;>kernel_rfl
theorem ao2(k:Int):F352 k=some (kw k):=by
 unfold kw;by_cases h:k<1\/8<k
 ·grind[a3g,F352,ban]
 ·rcases bkj (k:=k) (by omega) (by omega)with rfl|rfl|rfl|rfl|rfl|rfl|rfl|rfl<;>kernel_rfl
theorem bh9:((List.range 8).all λi=>Nat.ble (kw ((i:Int)+1)).length 10&&!(kw ((i:Int)+1)==[]))=true:=by kernel_rfl
theorem bgr{k:Int}(h:¬(k<1\/8<k)):(kw k).length<=10/\kw k≠[]:=by obtain⟨i,m,rfl⟩:∃i:Nat,i<8/\k=(i:Int)+1:=⟨(k-1).toNat,by omega,by omega⟩;have:=Bd.1 bh9 i (List.mem_range.2 m);simp_all
theorem a3f(k:Int):(kw k).length<=10:=by grind[kw,a3g,bgr]
def agu(k:Int):Bool:=decide (1<=k)&&decide (k<=8)
theorem avo(k:Int):F378 k=some (agu k):=by unfold F378 agu;grind
theorem bgs(k:Int):(!(kw k==([]:Bn)))=agu k:=by grind[agu,kw,a3g,decide_eq_false,decide_eq_true,beq_eq_false_iff_ne,bgr]
noncomputable def noKw(s:Bn):Bool:=allF (λi=>!(kw ((i:Int)+1)==s)) 0 8
theorem bgh:((List.range 8).all λi=>(((F432).getD .bad).fld i).asStr==kw ((i:Int)+1))=true:=by kernel_rfl
theorem bjd{i:Nat}(h:i<8):(((F432).getD .bad).fld i).asStr=kw ((i:Int)+1):=by have:=Bd.1 bgh i (List.mem_range.2 h);simpa using this
theorem ber(s:Bn):∃k,F379 s=some k/\(k==(0:Int))=noKw s:=by
 have M:F432=some ((F432).getD .bad):=rfl;obtain⟨r,z,G,H⟩:=a0o (step:=(Y3 S379_3)) (λi=>(s,(F432).getD .bad,(i:Int))) 8 (λi=>!(kw ((i:Int)+1)==s)) (λi=>(Sum.inl ((i:Int)+1):Int⊕Unit)) (Sum.inr ()) (λi t=>by
  have I:decide ((i:Int)<(8:Int))=true:=Ah (by omega);have m:IntKind.wrap .i64 ((i:Int)+(1:Int))=(i:Int)+1:=a4g (by omega) (by omega);have J:aab (i:Int) 8=true:=by rw[aaa];exact Ah t
  simp only[Y3,S379_3,I,J,Ad,Ae,bjd t,m];cases(kw ((i:Int)+1)==s)<;>rfl) rfl 8 0 (by omega)
 unfold F379;rw[M,Aa,aat,show(0:Int)=((0:Nat):Int)from rfl,z];unfold noKw;cases o:allF (λi=>!(kw ((i:Int)+1)==s)) 0 8 with
 |true=>exact⟨0,by rw[G o];rfl,rfl⟩
 |false=>obtain⟨j,_,_,rfl⟩:=H o;exact⟨(j:Int)+1,rfl,by show(((j:Int)+1)==0)=false;rw[Be];omega⟩
theorem awc(t:PV):aap ((Y3 S254_5)) ((),(1:Int),t)=some (bif noKw (t.fld 1).asStr then .inr ((),t)else .inl (false,t)):=by
 have h:=abb (step:=(Y3 S254_5)) (λi=>((),(i:Int)+1,t)) 8 (λi=>!(kw ((i:Int)+1)==(t.fld 1).asStr)) (Sum.inl (false,t):(Bool×PV)⊕(Unit×PV)) (Sum.inr ((),t)) (λi z=>by
  have o:decide ((i:Int)+1<=(8:Int))=true:=Ah (by omega);have m:IntKind.wrap .i64 ((i:Int)+1+(1:Int))=((i+1:Nat):Int)+1:=by rw[a4g (by omega) (by omega)];omega
  simp only[Y3,S254_5,o,Ad,ao2,Aa,m,beqC (t.fld 1).asStr];cases(kw ((i:Int)+1)==(t.fld 1).asStr)<;>rfl) rfl 8 0 (by omega)
 exact h
theorem a1w(s:Bn)(O:s.length<=1048576):((F387 s ([46]:Bn)).bind λI=>(F36 I).bind λJ=>some J)=some (ajz s):=by
 have H:F387 s ([46]:Bn)=some (match s with|[]=>[]|c::r=>bif c==46 then r else c::r):=by
  unfold F387 F435 F443;cases s with
  |nil=>rfl
  |cons c r=>
   have m:decide (((c::r).length:Int)>=(([46]:Bn).length:Int))=true:=Ah (by grind);have o:decide ((0:Int)<=(0:Int)/\(0:Int)<=(([46]:Bn).length:Int)/\(([46]:Bn).length:Int)<=((c::r).length:Int))=true:=Ah (by grind);have t:decide ((0:Int)<=(([46]:Bn).length:Int)/\(([46]:Bn).length:Int)<=((c::r).length:Int)/\((c::r).length:Int)<=((c::r).length:Int))=true:=Ah (by grind);have z:(((c::r).take (([46]:Bn).length:Int).toNat).drop (0:Int).toNat==([46]:Bn))=(c==46):=by simp_all
   have G:(((c::r).take ((c::r).length:Int).toNat).drop (([46]:Bn).length:Int).toNat)=r:=by simp_all
   simp only[m,o,t,z,G,imp,Ad,Aa];grind
 rw[H,Aa];cases s with
 |nil=>rw[aln _ (by simp)];rfl
 |cons c r=>
  have M:(bif c==46 then r else c::r).length<=1048576:=by grind
  grind[aln,ajz]
theorem alo(s:Bn)(m:s.length<=1048576):F299 s=some (ajz s):=a1w s m
theorem amp(s:Bn)(H:s.length<=1048576):F255 s=some (ajz s):=by
 unfold F255;cases s with
 |nil=>simp only[ac8 ([]:Bn) (by simp)];rfl
 |cons c r=>
  have m:((c::r)==([]:Bn))=false:=rfl;have o:aab (0:Int) (c::r).length=true:=by rw[show(0:Int)=((0:Nat):Int)from rfl,aaa];simp
  have t:((((c::r).getD (0:Int).toNat 0).toNat:Int)==(46:Int))=(c==46):=(eqB c.toNat 46).trans (bhc c 46);have z:decide ((0:Int)<=(1:Int)/\(1:Int)<=((c::r).length:Int)/\((c::r).length:Int)<=((c::r).length:Int))=true:=Ah (by grind);have G:(((c::r).take ((c::r).length:Int).toNat).drop (1:Int).toNat)=r:=by simp_all
  simp only[Al]at H;simp only[m,o,t,z,G,imp,Ao,Ad,ac8 r (by omega),ac8 (c::r) (by simp;omega),Aa,ajz];grind
noncomputable def tnP(t:PV):Bool:=bif agu (t.fld 0).asInt then(t.fld 1).asStr==[]else ajz (t.fld 1).asStr&&noKw (t.fld 1).asStr
theorem a1x(t:PV)(z:(t.fld 1).asStr.length<=1048576):F290 t=some (tnP t):=by
 obtain⟨k,m,o⟩:=ber (t.fld 1).asStr;unfold F290 tnP;simp only[avo,Aa,alo _ z,m];cases agu (t.fld 0).asInt with
 |true=>rfl
 |false=>
  cases ajz (t.fld 1).asStr with
  |false=>rfl
  |true=>simp only[Ad,Af,Aa,o,Bool.true_and]
theorem asu(t:PV)(m:(t.fld 1).asStr.length<=1048576):F254 t=some (tnP t):=by
 unfold F254 tnP;simp only[ao2,Aa,bgs,aat,awc,amp _ m];cases agu (t.fld 0).asInt with
 |true=>rfl
 |false=>
  cases noKw (t.fld 1).asStr with
  |false=>simp[sumE]
  |true=>simp[sumE];rw[amp _ m]
structure OkFld(x:PV):Prop where
 name:(x.fld 1).asStr.length<=1048576
 type:((x.fld 4).fld 1).asStr.length<=1048576
 union:(x.fld 5).asStr.length<=1048576
 dflt:acp (x.fld 7)
 notes:(x.fld 8).asList.length<=1048576
 note:∀n,n∈(x.fld 8).asList->ab5 n
structure OkMsg(m:PV):Prop where
 name:(m.fld 0).asStr.length<=1048576
 fields:(m.fld 1).asList.length<=1048576
 field:∀x,x∈(m.fld 1).asList->OkFld x
 spans:(m.fld 2).asList.length<=1048576
 gone:(m.fld 3).asList.length<=1048576
 goneS:∀x,x∈(m.fld 3).asList->x.asStr.length<=1048576
 notes:(m.fld 4).asList.length<=1048576
 note:∀n,n∈(m.fld 4).asList->ab5 n
structure OkItem(x:PV):Prop where
 name:(x.fld 0).asStr.length<=1048576
 notes:(x.fld 2).asList.length<=1048576
 note:∀n,n∈(x.fld 2).asList->ab5 n
structure OkEnum(m:PV):Prop where
 name:(m.fld 0).asStr.length<=1048576
 items:(m.fld 2).asList.length<=1048576
 item:∀x,x∈(m.fld 2).asList->OkItem x
 spans:(m.fld 3).asList.length<=1048576
 notes:(m.fld 4).asList.length<=1048576
 note:∀n,n∈(m.fld 4).asList->ab5 n
structure OkMeth(x:PV):Prop where
 name:(x.fld 0).asStr.length<=1048576
 inn:(x.fld 1).asStr.length<=1048576
 out:(x.fld 2).asStr.length<=1048576
 notes:(x.fld 4).asList.length<=1048576
 note:∀n,n∈(x.fld 4).asList->ab5 n
structure OkSvc(m:PV):Prop where
 name:(m.fld 0).asStr.length<=1048576
 meths:(m.fld 1).asList.length<=1048576
 meth:∀x,x∈(m.fld 1).asList->OkMeth x
 notes:(m.fld 2).asList.length<=1048576
 note:∀n,n∈(m.fld 2).asList->ab5 n
def abt(l:List PV)(i:Nat):Nat:=(l.map λm=>(m.fld i).asList.length+1).sum
structure OkFile(f:PV):Prop where
 space:(f.fld 1).asStr.length<=1048576
 imports:(f.fld 2).asList.length<=1048576
 importS:∀x,x∈(f.fld 2).asList->x.asStr.length<=1048576
 msgs:(f.fld 3).asList.length<=1048576
 msg:∀x,x∈(f.fld 3).asList->OkMsg x
 enums:(f.fld 4).asList.length<=1048576
 enum:∀x,x∈(f.fld 4).asList->OkEnum x
 svcs:(f.fld 5).asList.length<=1048576
 svc:∀x,x∈(f.fld 5).asList->OkSvc x
 many:abt (f.fld 3).asList 1+abt (f.fld 4).asList 2+abt (f.fld 5).asList 1<=7000000
noncomputable def a0t(x:PV):Bool:=aeu (x.fld 1).asStr&&((x.fld 5).asStr==[]||aeu (x.fld 5).asStr)&&tnP (x.fld 4)
noncomputable def a0u(m:PV):Bool:=defP (m.fld 0).asStr&&(m.fld 1).asList.all a0t
noncomputable def atn(x:PV):Bool:=aeu (x.fld 0).asStr
noncomputable def aqu(m:PV):Bool:=defP (m.fld 0).asStr&&(m.fld 2).asList.all atn
def strm:Bn:=[115,116,114,101,97,109]
noncomputable def aqv(x:PV):Bool:=aeu (x.fld 0).asStr&&ajz (x.fld 1).asStr&&ajz (x.fld 2).asStr&&!((x.fld 1).asStr==strm)&&!((x.fld 2).asStr==strm)
noncomputable def a0v(m:PV):Bool:=defP (m.fld 0).asStr&&(m.fld 1).asList.all aqv
noncomputable def aoa(f:PV):Bool:=((f.fld 1).asStr==[]||defP (f.fld 1).asStr)&&(f.fld 3).asList.all a0u&&(f.fld 4).asList.all aqu&&(f.fld 5).asList.all a0v
theorem be1(x:PV)(h:OkFld x):F288 x=some (a0t x):=by unfold F288 a0t;simp only[agm,Aa,a1x _ h.type];generalize aeu (x.fld 1).asStr=a;generalize aeu (x.fld 5).asStr=b;generalize((x.fld 5).asStr==([]:Bn))=c;generalize tnP (x.fld 4)=d;cases a<;>cases b<;>cases c<;>cases d<;>rfl
theorem be4(m:PV)(h:OkMsg m):F286 m=some (a0u m):=by unfold F286 a0u;simp only[alm _ h.name,Aa,ev_nf _ a0t h.fields λx o=>be1 x (h.field x o)];cases defP (m.fld 0).asStr<;>rfl
theorem ba6(x:PV):F294 x=some (atn x):=by unfold F294 atn;simp only[agm,Aa]
theorem ba5(m:PV)(h:OkEnum m):F292 m=some (aqu m):=by unfold F292 aqu;simp only[alm _ h.name,Aa,ev_ni _ atn h.items λx o=>ba6 x];cases defP (m.fld 0).asStr<;>rfl
theorem ba7(x:PV)(h:OkMeth x):F298 x=some (aqv x):=by unfold F298 aqv strm;simp only[agm,Aa,alo _ h.inn,alo _ h.out];generalize aeu (x.fld 0).asStr=a;generalize ajz (x.fld 1).asStr=b;generalize ajz (x.fld 2).asStr=c;generalize((x.fld 1).asStr==([115,116,114,101,97,109]:Bn))=d;generalize((x.fld 2).asStr==([115,116,114,101,97,109]:Bn))=e;cases a<;>cases b<;>cases c<;>cases d<;>cases e<;>rfl
theorem be5(m:PV)(h:OkSvc m):F296 m=some (a0v m):=by unfold F296 a0v;simp only[alm _ h.name,Aa,ev_nd _ aqv h.meths λx o=>ba7 x (h.meth x o)];cases defP (m.fld 0).asStr<;>rfl
theorem bez(f:PV)(h:OkFile f):F200 f=some (aoa f):=by unfold F200 aoa;simp only[alm _ h.space,Aa,ev_nm _ a0u h.msgs λx m=>be4 x (h.msg x m),ev_ne _ aqu h.enums λx m=>ba5 x (h.enum x m),ev_ns _ a0v h.svcs λx m=>be5 x (h.svc x m)];generalize((f.fld 1).asStr==([]:Bn))=a;generalize defP (f.fld 1).asStr=b;generalize(f.fld 3).asList.all a0u=c;generalize(f.fld 4).asList.all aqu=d;generalize(f.fld 5).asList.all a0v=e;cases a<;>cases b<;>cases c<;>cases d<;>cases e<;>rfl
theorem amc(f m:PV)(i:Int)(h:∀x,x∈(m.fld 1).asList->OkFld x)(I:(m.fld 1).asList.length<=1048576)(b:Bool):
 aap ((Y7 S173_9)) ((),b,i,(),(0:Int),f,m)=some ((),b&&(m.fld 1).asList.all a0t,i,f,m):=
 abx (step:=(Y7 S173_9)) (λk b=>((),b,i,(),(k:Int),f,m)) (λb=>((),b,i,f,m)) (m.fld 1).asList .bad a0t (λk b t=>by
  have o:=h _ (aas t .bad);have z:=ai1 ((((m.fld 1).asList.getD k .bad).fld 1).asStr) (by have:=o.name;omega);have G:=ai1 ((((m.fld 1).asList.getD k .bad).fld 5).asStr) (by have:=o.union;omega);have H:=asu ((((m.fld 1).asList.getD k .bad).fld 4)) o.type;simp only[Y7,S173_9,aai,aaa,t,decide_true,Ad,Ae,z,G,H,Aa,abh (i:=k) (by omega)];unfold a0t;generalize aeu (((m.fld 1).asList.getD k .bad).fld 1).asStr=a;generalize aeu (((m.fld 1).asList.getD k .bad).fld 5).asStr=c;generalize((((m.fld 1).asList.getD k .bad).fld 5).asStr==([]:Bn))=d;generalize tnP (((m.fld 1).asList.getD k .bad).fld 4)=e;cases b<;>cases a<;>cases c<;>cases d<;>cases e<;>rfl) (λb=>by
  simp only[Y7,S173_9,aai,Nat.lt_irrefl,decide_false,Af]) b
theorem amd(f:PV)(h:OkFile f)(b:Bool):aap ((Y4 S173_4)) ((),b,(0:Int),f)=some ((),b&&(f.fld 3).asList.all a0u,f):=
 abx (step:=(Y4 S173_4)) (λk b=>((),b,(k:Int),f)) (λb=>((),b,f)) (f.fld 3).asList .bad a0u (λk b o=>by
  have m:=h.msg _ (aas o .bad);have t:=h.msgs;simp only[Y4,S173_4,aai,aaa,o,decide_true,Ad,Ae,ajc _ m.name,Aa];cases b with
  |false=>simp only[Af,Aa,aat,amc f _ _ m.field m.fields,abh (i:=k) (by omega),Bool.false_and]
  |true=>simp only[Ad,Aa,aat,amc f _ _ m.field m.fields,abh (i:=k) (by omega),Bool.true_and];rfl) (λb=>by
  simp only[Y4,S173_4,aai,Nat.lt_irrefl,decide_false,Af]) b
theorem akc(f:PV)(i:Nat)(m:i<(f.fld 4).asList.length)(h:OkEnum ((f.fld 4).asList.getD i .bad))(b:Bool):
 aap ((Y5 S173_18)) ((),b,(i:Int),(0:Int),f)=some ((),b&&(((f.fld 4).asList.getD i .bad).fld 2).asList.all atn,(i:Int),f):=
 abx (step:=(Y5 S173_18)) (λk b=>((),b,(i:Int),(k:Int),f)) (λb=>((),b,(i:Int),f)) (((f.fld 4).asList.getD i .bad).fld 2).asList .bad atn (λk b o=>by
  have z:=h.item _ (aas o .bad);have G:=h.items;have t:=ai1 (((((f.fld 4).asList.getD i .bad).fld 2).asList.getD k .bad).fld 0).asStr (by have:=z.name;omega);simp only[Y5,S173_18,aai,aaa,m,o,decide_true,Ad,Ae,t,Aa,abh (i:=k) (by omega),imp];cases b<;>rfl) (λb=>by
  simp only[Y5,S173_18,aai,aaa,m,decide_true,Ad,Ae,Nat.lt_irrefl,decide_false,Af]) b
theorem akb(f:PV)(h:OkFile f)(b:Bool):aap ((Y4 S173_14)) ((),b,(0:Int),f)=some ((),b&&(f.fld 4).asList.all aqu,f):=
 abx (step:=(Y4 S173_14)) (λk b=>((),b,(k:Int),f)) (λb=>((),b,f)) (f.fld 4).asList .bad aqu (λk b m=>by
  have o:=h.enum _ (aas m .bad);have t:=h.enums;simp only[Y4,S173_14,aai,aaa,m,decide_true,Ad,Ae,ajc _ o.name,Aa,imp];cases b with
  |false=>simp only[Af,Ao,Ad,Aa,aat,akc f k m o,abh (i:=k) (by omega),Bool.false_and]
  |true=>simp only[Ad,Aa,aat,akc f k m o,abh (i:=k) (by omega),Bool.true_and];rfl) (λb=>by
  simp only[Y4,S173_14,aai,Nat.lt_irrefl,decide_false,Af]) b
theorem akd(f:PV)(i:Nat)(o:i<(f.fld 5).asList.length)(h:OkSvc ((f.fld 5).asList.getD i .bad))(b:Bool):
 aap ((Y5 S173_26)) ((),b,(i:Int),(0:Int),f)=some ((),b&&(((f.fld 5).asList.getD i .bad).fld 1).asList.all aqv,(i:Int),f):=
 abx (step:=(Y5 S173_26)) (λk b=>((),b,(i:Int),(k:Int),f)) (λb=>((),b,(i:Int),f)) (((f.fld 5).asList.getD i .bad).fld 1).asList .bad aqv (λk b t=>by
  have m:=h.meth _ (aas t .bad);have G:=h.meths;have z:=ai1 (((((f.fld 5).asList.getD i .bad).fld 1).asList.getD k .bad).fld 0).asStr (by have:=m.name;omega);simp only[Y5,S173_26,aai,aaa,o,t,decide_true,Ad,Ae,z,amp _ m.inn,amp _ m.out,Aa,abh (i:=k) (by omega)];unfold aqv strm;generalize aeu (((((f.fld 5).asList.getD i .bad).fld 1).asList.getD k .bad).fld 0).asStr=a;generalize ajz (((((f.fld 5).asList.getD i .bad).fld 1).asList.getD k .bad).fld 1).asStr=c;generalize ajz (((((f.fld 5).asList.getD i .bad).fld 1).asList.getD k .bad).fld 2).asStr=d;generalize((((((f.fld 5).asList.getD i .bad).fld 1).asList.getD k .bad).fld 1).asStr==([115,116,114,101,97,109]:Bn))=e;generalize((((((f.fld 5).asList.getD i .bad).fld 1).asList.getD k .bad).fld 2).asStr==([115,116,114,101,97,109]:Bn))=g;cases b<;>cases a<;>cases c<;>cases d<;>cases e<;>cases g<;>rfl) (λb=>by
  simp only[Y5,S173_26,aai,aaa,o,decide_true,Ad,Ae,Nat.lt_irrefl,decide_false,Af]) b
theorem ame(f:PV)(h:OkFile f)(b:Bool):aap ((Y4 S173_22)) ((),b,(0:Int),f)=some (b&&(f.fld 5).asList.all a0v,f):=
 abx (step:=(Y4 S173_22)) (λk b=>((),b,(k:Int),f)) (λb=>(b,f)) (f.fld 5).asList .bad a0v (λk b m=>by
  have o:=h.svc _ (aas m .bad);have t:=h.svcs;simp only[Y4,S173_22,aai,aaa,m,decide_true,Ad,Ae,ajc _ o.name,Aa,imp];cases b with
  |false=>simp only[Af,Ao,Ad,Aa,aat,akd f k m o,abh (i:=k) (by omega),Bool.false_and]
  |true=>simp only[Ad,Aa,aat,akd f k m o,abh (i:=k) (by omega),Bool.true_and];rfl) (λb=>by
  simp only[Y4,S173_22,aai,Nat.lt_irrefl,decide_false,Af]) b
theorem a06(f:PV)(h:OkFile f):F173 f=some (aoa f):=by
 unfold F173 aoa;simp only[ajc _ h.space,aat];cases((f.fld 1).asStr==([]:Bn))with
 |true=>simp only[An,Af,Ad,Aa,amd f h,akb f h,ame f h,Bool.true_or]
 |false=>simp only[Ao,Af,Ad,Aa,amd f h,akb f h,ame f h,Bool.false_or]
end Go.Ab
