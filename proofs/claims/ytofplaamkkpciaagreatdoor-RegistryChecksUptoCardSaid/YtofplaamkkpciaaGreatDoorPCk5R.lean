/- The examination of schemas: messages, enums, services; both sides add the same problems. -/
import Derived.Test.YtofplaamkkpciaaGreatDoorPCk3R
set_option linter.unusedVariables false
set_option linter.unusedSimpArgs false
set_option linter.unnecessarySimpa false
namespace Go.Ab
open Go
set_option maxRecDepth 100000
theorem bkq(p:PV->Bool)(l:List PV):decide (idxI p l<(0:Int))=!l.any p:=by rw[<-aqa,show decide (idxI p l<(0:Int))=decide ((0:Int)>idxI p l)from rfl,gtN]
theorem max16(a b c:Int):(!(bif decide (a<=(64:Int))then decide ((if c>b then c else b)<=(16:Int))else false))=(bif (bif decide (a>(64:Int))then true else decide (b>(16:Int)))then true else decide (c>(16:Int))):=by grind
theorem rng64(a b:Int):(!(bif (bif decide (a>=(1:Int))then decide (a<=(64:Int))else false)then decide (b<=(16:Int))else false))=(bif (bif decide (a<(1:Int))then true else decide (a>(64:Int)))then true else decide (b>(16:Int))):=by grind
noncomputable def msgG(s m:PV)(o:Bool)(acc:List PV):Option (List PV):=
 (pu (!defP (m.fld 0).asStr) (m.fld 0).asStr (-1) 8 acc).bind λa=>
 (pu (bif (bif decide (((m.fld 1).asList.length:Int)>(64:Int))then true else decide (((m.fld 2).asList.length:Int)>(16:Int)))then true else decide (((m.fld 3).asList.length:Int)>(16:Int))) (m.fld 0).asStr (-1) 3 a).bind λa=>
 (ade (λi a=>fldG s m ((m.fld 1).asList.getD i .bad) (m.fld 0).asStr i a) 0 (m.fld 1).asList.length a).bind λa=>
 (ade (spG (m.fld 2).asList 1 65535 (m.fld 0).asStr (-1)) 0 (m.fld 2).asList.length a).bind λa=>
 (ade (λi a=>pu (!valid ((m.fld 3).asList.getD i .bad).asStr) (m.fld 0).asStr (-1) 7 a) 0 (m.fld 3).asList.length a).bind λa=>
 (pu (ab3 (m.fld 4).asList 1 != 0) (m.fld 0).asStr (-1) (ab3 (m.fld 4).asList 1) a).bind λa=>
 pu o (m.fld 0).asStr (-1) 19 a
theorem beh{s m:PV}{fin:List (PV×PV)}{z:Bool}(I:SOk s)(o:OkMsg m)(G:F195 s m fin=some z):F135 s m fin=msgG s m z []:=by
 have U:=o.fields;have J:∀(d:Bn)(a:List PV),aad 0 (Y11 S135_6) (fin,(),(),(),(((m.fld 1).asList.length:Nat):Int),(0:Int),s,m,d,(-1:Int),a)=(ade (λi a=>fldG s m ((m.fld 1).asList.getD i .bad) d i a) 0 (m.fld 1).asList.length a).map λa=>(fin,(),(),(),s,m,d,(-1:Int),a):=λd a=>
  ach (step:=(Y11 S135_6)) (λi b=>(fin,(),(),(),(((m.fld 1).asList.length:Nat):Int),((i:Nat):Int),s,m,d,(-1:Int),b)) (m.fld 1).asList.length (λi a=>fldG s m ((m.fld 1).asList.getD i .bad) d i a) (λb=>(fin,(),(),(),s,m,d,(-1:Int),b)) (λi b t=>by
   simp only[Y11,S135_6,decL i _ t,Ad,bdz I o t,mp,bb,Aa,aal i (show i<=1000000000000 by omega)]) (λb=>by
   simp only[Y11,S135_6,decN,Af]) a
 have O:=o.gone;have M:∀(d:Bn)(a:List PV),aad 0 (Y12 S135_12) (fin,(),(),(),(m.fld 3).asList,(((m.fld 3).asList.length:Nat):Int),(0:Int),s,m,d,(-1:Int),a)=(ade (λi a=>pu (!valid ((m.fld 3).asList.getD i .bad).asStr) d (-1) 7 a) 0 (m.fld 3).asList.length a).map λa=>(fin,(),(),(),s,m,d,(-1:Int),a):=λd a=>
  ach (step:=(Y12 S135_12)) (λi b=>(fin,(),(),(),(m.fld 3).asList,(((m.fld 3).asList.length:Nat):Int),((i:Nat):Int),s,m,d,(-1:Int),b)) (m.fld 3).asList.length (λi a=>pu (!valid ((m.fld 3).asList.getD i .bad).asStr) d (-1) 7 a) (λb=>(fin,(),(),(),s,m,d,(-1:Int),b)) (λi b t=>by
   have H:=o.goneS _ (aam t);simp only[Y12,S135_12,decL i _ t,Ad,aaa,Ah t,Ae,awg,Aa,aco,mp,bb,aal i (show i<=1000000000000 by omega)]) (λb=>by
   simp only[Y12,S135_12,decN,Af]) a
 unfold F135 msgG;simp only[awd _ o.name,Aa,aco,mp,bb,max16,J,a3z o.spans,M,ajq o.notes o.note,G,Bool.not_not,Option.bind_fun_some]
theorem bbp{s m:PV}{fin:List PV}{t:Bool}(I:SOk s)(o:OkMsg m)(G:F240_v1 s m fin=some t):F170 s m fin=msgG s m t []:=by
 have U:=o.fields;have J:∀(d:Bn)(a:List PV),aad 0 (Y9 S170_6) (fin,(),(),(),(0:Int),s,m,d,a)=(ade (λi a=>fldG s m ((m.fld 1).asList.getD i .bad) d i a) 0 (m.fld 1).asList.length a).map λa=>(fin,(),(),(),s,m,d,a):=λd a=>
  ach (step:=(Y9 S170_6)) (λi b=>(fin,(),(),(),((i:Nat):Int),s,m,d,b)) (m.fld 1).asList.length (λi a=>fldG s m ((m.fld 1).asList.getD i .bad) d i a) (λb=>(fin,(),(),(),s,m,d,b)) (λi b z=>bkb I o z) (λb=>by simp only[Y9,S170_6,decN,Af]) a
 have O:=o.gone;have M:∀(d:Bn)(a:List PV),aad 0 (Y9 S170_27) (fin,(),(),(),(0:Int),s,m,d,a)=(ade (λi a=>pu (!valid ((m.fld 3).asList.getD i .bad).asStr) d (-1) 7 a) 0 (m.fld 3).asList.length a).map λa=>(fin,(),(),(),s,m,d,a):=λd a=>
  ach (step:=(Y9 S170_27)) (λi b=>(fin,(),(),(),((i:Nat):Int),s,m,d,b)) (m.fld 3).asList.length (λi a=>pu (!valid ((m.fld 3).asList.getD i .bad).asStr) d (-1) 7 a) (λb=>(fin,(),(),(),s,m,d,b)) (λi b z=>by
   have H:=o.goneS _ (aam z);simp only[Y9,S170_27,decL i _ z,Ad,aaa,Ah z,Ae,akw _ (show((m.fld 3).asList.getD i .bad).asStr.length<=9223372036854775000 by omega),Aa,af6,mp,bb,Aa,aal i (show i<=1000000000000 by omega)]) (λb=>by
   simp only[Y9,S170_27,decN,Af]) a
 unfold F170 msgG;simp only[anp _ o.name,Aa,af6,mp,bb,J,arc o.spans,M,ajs o.notes o.note,G,Option.bind_fun_some]
noncomputable def itG(m x:PV)(d:Bn)(i:Nat)(acc:List PV):Option (List PV):=
 (pu (bif decide ((x.fld 1).asInt<(0:Int))then true else decide ((x.fld 1).asInt>(2147483647:Int))) d (x.fld 1).asInt 6 acc).bind λa=>
 (pu (bif decide (0<i)then decide ((x.fld 1).asInt<=(((m.fld 2).asList.getD (i-1) .bad).fld 1).asInt)else false) d (x.fld 1).asInt 11 a).bind λa=>
 (pu (!aeu (x.fld 0).asStr) d (x.fld 1).asInt 8 a).bind λa=>
 (pu (twQ 0 (m.fld 2).asList i) d (x.fld 1).asInt 9 a).bind λa=>
 (pu ((m.fld 3).asList.any (resQ (x.fld 1).asInt)) d (x.fld 1).asInt 21 a).bind λa=>
 pu (ab3 (x.fld 2).asList 4 != 0) d (x.fld 1).asInt (ab3 (x.fld 2).asList 4) a
noncomputable def enmG(m:PV)(acc:List PV):Option (List PV):=
 (pu (!defP (m.fld 0).asStr) (m.fld 0).asStr (-1) 8 acc).bind λa=>
 (pu (bif (bif decide (((m.fld 2).asList.length:Int)<(1:Int))then true else decide (((m.fld 2).asList.length:Int)>(64:Int)))then true else decide (((m.fld 3).asList.length:Int)>(16:Int))) (m.fld 0).asStr (-1) 3 a).bind λa=>
 (pu (bif decide (0<(m.fld 2).asList.length)then(((m.fld 2).asList.getD 0 .bad).fld 1).asInt != (0:Int)else false) (m.fld 0).asStr (-1) 14 a).bind λa=>
 (ade (λi a=>itG m ((m.fld 2).asList.getD i .bad) (m.fld 0).asStr i a) 0 (m.fld 2).asList.length a).bind λa=>
 (ade (spG (m.fld 3).asList 0 2147483647 (m.fld 0).asStr (-1)) 0 (m.fld 3).asList.length a).bind λa=>
 pu (ab3 (m.fld 4).asList 3 != 0) (m.fld 0).asStr (-1) (ab3 (m.fld 4).asList 3) a
def numI(l:List PV):Nat->Int
 |0=>-1
 |i+1=>((l.getD i .bad).fld 1).asInt
theorem bl0{l:List PV}:imp (decide (0<l.length)) (aab (0:Int) l.length)=true:=by rw[show aab (0:Int) l.length=aab ((0:Nat):Int) l.length from rfl,aaa];cases decide (0<l.length)<;>rfl
theorem bhn{m:PV}(o:OkEnum m):F136 m=enmG m []:=by
 have z:=o.items;have M:∀(d:Bn)(a:List PV),aad 0 (Y9 S136_7) ((),(),(m.fld 2).asList,(((m.fld 2).asList.length:Nat):Int),(0:Int),m,d,(-1:Int),a)=(ade (λi a=>itG m ((m.fld 2).asList.getD i .bad) d i a) 0 (m.fld 2).asList.length a).map λa=>((),(),m,d,numI (m.fld 2).asList (m.fld 2).asList.length,a):=λd a=>
  ach (step:=(Y9 S136_7)) (λi b=>((),(),(m.fld 2).asList,(((m.fld 2).asList.length:Nat):Int),((i:Nat):Int),m,d,numI (m.fld 2).asList i,b)) (m.fld 2).asList.length (λi a=>itG m ((m.fld 2).asList.getD i .bad) d i a) (λb=>((),(),m,d,numI (m.fld 2).asList (m.fld 2).asList.length,b)) (λi b t=>by
   have G:=o.item _ (aam t);have J:=ax9 t z;have I:=ax8 t z λx=>decide ((((m.fld 2).asList.getD i .bad).fld 1).asInt<=(x.fld 1).asInt);simp only[Y9,S136_7,decL i _ t,Ad,aaa,Ah t,Ae,bfl t z,ao3,a2o _ o.spans,ajq G.notes G.note,aco,mp,bb,Aa,eq0,Bool.not_not,J,rngN,gtN _ (((m.fld 2).asList.getD (IntKind.wrap .i64 ((i:Int)-1)).toNat .bad).fld 1).asInt,notB,I,aal i (show i<=1000000000000 by omega),itG,numI]) (λb=>by
   simp only[Y9,S136_7,decN,Af]) a
 have H:=bl0 (l:=(m.fld 2).asList);unfold F136 enmG;simp only[awd _ o.name,Aa,aco,mp,bb,rng64,eq0,Bool.not_not,H,Ad,M,a3z o.spans,ajq o.notes o.note,Option.bind_fun_some,show(0:Int).toNat=0 from rfl,show ∀c:Bool,∀x:Int,(!(bif !c then true else x==(0:Int)))=(bif c then x != (0:Int)else false)from λc x=>by cases c<;>rfl]
theorem bcr{m:PV}{d:Bn}{acc:List PV}{i:Nat}(M:i<(m.fld 2).asList.length)(O:(m.fld 2).asList.length<=1048576):
 aad 0 (Y10 S171_12) ((),(),((i:Nat):Int),(),false,(0:Int),m,d,acc,(m.fld 2).asList.getD i .bad)=some ((),(),((i:Nat):Int),(),twQ 0 (m.fld 2).asList i,m,d,acc,(m.fld 2).asList.getD i .bad):=by
 unfold twQ
 generalize J:(m.fld 2).asList.getD i .bad=f
 have key:∀(k j:Nat)(b:Bool),j+k=i->aap (Y10 S171_12) ((),(),((i:Nat):Int),(),b,((j:Nat):Int),m,d,acc,f)=some ((),(),((i:Nat):Int),(),(b||(((m.fld 2).asList.take i).drop j).any λx=>(x.fld 0).asStr==(f.fld 0).asStr),m,d,acc,f):=by
  intro k;induction k with
  |zero=>
   intro j b G;obtain rfl:j=i:=by omega
   rw[aae (show(Y10 S171_12) ((),(),((j:Nat):Int),(),b,((j:Nat):Int),m,d,acc,f)=some (.inr ((),(),((j:Nat):Int),(),b,m,d,acc,f)) by simp only[Y10,S171_12,decN,Af]),apz (Nat.le_refl j)];simp
  |succ k I=>
   intro j b G;have o:j<(m.fld 2).asList.length:=by omega
   have z:((m.fld 2).asList.take i).drop j=(m.fld 2).asList.getD j .bad::((m.fld 2).asList.take i).drop (j+1):=by rw[aa2 (l:=(m.fld 2).asList.take i) (by grind) .bad];grind
   have H:(Y10 S171_12) ((),(),((i:Nat):Int),(),b,((j:Nat):Int),m,d,acc,f)=some (.inl ((),(),((i:Nat):Int),(),(b||(((m.fld 2).asList.getD j .bad).fld 0).asStr==(f.fld 0).asStr),((j+1:Nat):Int),m,d,acc,f)):=by simp only[Y10,S171_12,decL j i (by omega),Ad,aaa,Ah o,Ae,aal j (by omega)];grind
   rw[aan H,I (j+1) _ (by omega),z,List.any_cons,Bool.or_assoc]
 have t:=key i 0 false (Nat.zero_add _)
 rw[Ar,Bool.false_or]at t
 exact t
theorem a6q{m:PV}(o:OkEnum m):F171 m=enmG m []:=by
 have G:=o.items;have O:∀(d:Bn)(a:List PV),aad 0 (Y6 S171_7) ((),(),(0:Int),m,d,a)=(ade (λi a=>itG m ((m.fld 2).asList.getD i .bad) d i a) 0 (m.fld 2).asList.length a).map λa=>((),(),m,d,a):=λd a=>
  ach (step:=(Y6 S171_7)) (λi b=>((),(),((i:Nat):Int),m,d,b)) (m.fld 2).asList.length (λi a=>itG m ((m.fld 2).asList.getD i .bad) d i a) (λb=>((),(),m,d,b)) (λi b t=>by
   have z:=o.item _ (aam t);have M:=ax9 t G;have J:=ax8 t G λx=>decide ((((m.fld 2).asList.getD i .bad).fld 1).asInt<=(x.fld 1).asInt);have H:=bcr (d:=d) (acc:=b) t G;simp only[Y6,S171_7,decL i _ t,Ad,aaa,Ah t,Ae,H,amq _ z.name,ake _ o.spans,ajs z.notes z.note,af6,mp,bb,Aa,gtZ,M,J,aal i (show i<=1000000000000 by omega),itG]) (λb=>by
   simp only[Y6,S171_7,decN,Af]) a
 have I:=bl0 (l:=(m.fld 2).asList);unfold F171 enmG;simp only[anp _ o.name,Aa,af6,mp,bb,gtZ,I,Ad,O,arc o.spans,ajs o.notes o.note,Option.bind_fun_some,show(0:Int).toNat=0 from rfl]
noncomputable def meG(s m x:PV)(d:Bn)(i:Nat)(acc:List PV):Option (List PV):=
 (pu (!aeu (x.fld 0).asStr) d ((i:Nat):Int) 8 acc).bind λa=>
 (pu (bif decide (0<i)then(Op.bytesLess (x.fld 0).asStr (((m.fld 1).asList.getD (i-1) .bad).fld 0).asStr||(x.fld 0).asStr==(((m.fld 1).asList.getD (i-1) .bad).fld 0).asStr)else false) d ((i:Nat):Int) 11 a).bind λa=>
 (pu (bif !(s.fld 0).asList.any (nmQ (x.fld 1).asStr)then true else !(s.fld 0).asList.any (nmQ (x.fld 2).asStr)) d ((i:Nat):Int) 12 a).bind λa=>
 (pu (bif decide ((x.fld 3).asInt<(1:Int))then true else decide ((x.fld 3).asInt>(4:Int))) d ((i:Nat):Int) 1 a).bind λa=>
 pu (ab3 (x.fld 4).asList 6 != 0) d ((i:Nat):Int) (ab3 (x.fld 4).asList 6) a
noncomputable def svcG(s m:PV)(acc:List PV):Option (List PV):=
 (pu (!defP (m.fld 0).asStr) (m.fld 0).asStr (-1) 8 acc).bind λa=>
 (pu (decide (((m.fld 1).asList.length:Int)>(64:Int))) (m.fld 0).asStr (-1) 3 a).bind λa=>
 (ade (λi a=>meG s m ((m.fld 1).asList.getD i .bad) (m.fld 0).asStr i a) 0 (m.fld 1).asList.length a).bind λa=>
 pu (ab3 (m.fld 2).asList 5 != 0) (m.fld 0).asStr (-1) (ab3 (m.fld 2).asList 5) a
def numJ:Nat->Int
 |0=>-1
 |i+1=>((i:Nat):Int)
theorem both(a b:Bool):(!(bif a then b else false))=(bif !a then true else !b):=by cases a<;>rfl
theorem bln{s m:PV}(J:SOk s)(t:OkSvc m):F137 s m=svcG s m []:=by
 have G:=t.meths;have M:∀(d:Bn)(a:List PV),aad 0 (Y11 S137_6) ((),(),(),(m.fld 1).asList,(((m.fld 1).asList.length:Nat):Int),(0:Int),s,m,d,(-1:Int),a)=(ade (λi a=>meG s m ((m.fld 1).asList.getD i .bad) d i a) 0 (m.fld 1).asList.length a).map λa=>((),(),s,m,d,numJ (m.fld 1).asList.length,a):=λd a=>
  ach (step:=(Y11 S137_6)) (λi b=>((),(),(),(m.fld 1).asList,(((m.fld 1).asList.length:Nat):Int),((i:Nat):Int),s,m,d,numJ i,b)) (m.fld 1).asList.length (λi a=>meG s m ((m.fld 1).asList.getD i .bad) d i a) (λb=>((),(),s,m,d,numJ (m.fld 1).asList.length,b)) (λi b o=>by
   have z:=t.meth _ (aam o);have I:=ax9 o G;have H:=ax8 o G λx=>(Op.bytesLess (((m.fld 1).asList.getD i .bad).fld 0).asStr (x.fld 0).asStr||(((m.fld 1).asList.getD i .bad).fld 0).asStr==(x.fld 0).asStr);simp only[Y11,S137_6,decL i _ o,Ad,aaa,Ah o,Ae,ao3,agq _ J.len.m,ahh,ajq z.notes z.note,aco,mp,bb,Aa,eq0,Bool.not_not,I,rngN,notB,both ((s.fld 0).asList.any (nmQ (((m.fld 1).asList.getD i .bad).fld 1).asStr)),H,aal i (show i<=1000000000000 by omega),meG,numJ]) (λb=>by
   simp only[Y11,S137_6,decN,Af]) a
 unfold F137 svcG;simp only[awd _ t.name,Aa,aco,mp,bb,gtN,M,ajq t.notes t.note,Option.bind_fun_some]
theorem bbt{s m:PV}(J:SOk s)(t:OkSvc m):F172 s m=svcG s m []:=by
 have G:=t.meths;have M:∀(d:Bn)(a:List PV),aad 0 (Y8 S172_6) ((),(),(),(0:Int),s,m,d,a)=(ade (λi a=>meG s m ((m.fld 1).asList.getD i .bad) d i a) 0 (m.fld 1).asList.length a).map λa=>((),(),s,m,d,a):=λd a=>
  ach (step:=(Y8 S172_6)) (λi b=>((),(),(),((i:Nat):Int),s,m,d,b)) (m.fld 1).asList.length (λi a=>meG s m ((m.fld 1).asList.getD i .bad) d i a) (λb=>((),(),s,m,d,b)) (λi b o=>by
   have z:=t.meth _ (aam o);have I:=ax9 o G;have H:=ax8 o G λx=>(Op.bytesLess (((m.fld 1).asList.getD i .bad).fld 0).asStr (x.fld 0).asStr||(((m.fld 1).asList.getD i .bad).fld 0).asStr==(x.fld 0).asStr);simp only[Y8,S172_6,decL i _ o,Ad,aaa,Ah o,Ae,amq _ z.name,af6,mp,bb,Aa,gtZ,I,H,alj _ J.len.m,bkq,ajs z.notes z.note,aal i (show i<=1000000000000 by omega),meG,Bool.not_not];refine congrArg _ (funext λa=>congrArg _ (funext λa=>?_));cases(s.fld 0).asList.any (nmQ (((m.fld 1).asList.getD i .bad).fld 1).asStr)with
   |false=>rfl
   |true=>simp only[Ad,Aa,bkq,An,Af]) (λb=>by
   simp only[Y8,S172_6,decN,Af]) a
 unfold F172 svcG;simp only[anp _ t.name,Aa,af6,mp,bb,M,ajs t.notes t.note,Option.bind_fun_some]
end Go.Ab
namespace Go.Ab
open Go
set_option maxRecDepth 100000
theorem ab6(v:PV)(i:Nat):aag (v.fld i)<=aag v:=by
 unfold PV.fld;cases v with
 |agg xs=>
  show aag (xs.getD i .bad)<=abq xs+1;by_cases h:i<xs.length
  ·have:xs.getD i .bad∈xs:=by grind
   have:=ag8 this;omega
  grind[bad,List.getD,List.getElem?_eq_none,Nat.le_of_not_lt,aag]
 |_=>simp[PV.parts,aag]
theorem abr(v:PV)(i:Nat):(v.fld i).asList.length<=aag v:=by grind[ab6,afb]
theorem amz(v:PV):abq v.asList<=aag v:=by cases v<;>simp[PV.asList,abq,aag]
theorem bf2:∀(l:List PV)(i:Nat),sumN (λk=>30*aag (l.getD k .bad)) i (l.length-i)<=30*abq (l.drop i):=by
 intro l i;generalize m:l.length-i=k;induction k generalizing i with
 |zero=>exact Nat.zero_le _
 |succ k o=>grind[aa2,bad,sumN,abq]
theorem bhp{s m f:PV}{d:Bn}{i:Nat}:Ext 10 (fldG s m f d i):=aar abi (aar abi (aar abi (aar abi (aar abi (aar abi (aar abi (aar abi (aar abi abi))))))))
theorem bgl{l:List PV}{t o m:Int}{d:Bn}{i:Nat}:Ext 2 (spG l t o d m i):=aar abi abi
theorem bj3{m x:PV}{d:Bn}{i:Nat}:Ext 6 (itG m x d i):=aar abi (aar abi (aar abi (aar abi (aar abi abi))))
theorem bj4{s m x:PV}{d:Bn}{i:Nat}:Ext 5 (meG s m x d i):=aar abi (aar abi (aar abi (aar abi abi)))
theorem agi{g:Nat->List PV->Option (List PV)}{c n:Nat}(h:∀i,Ext c (g i)):Ext (c*n) (ade g 0 n):=by have:=a2u (g:=g) (c:=λ_=>c) n 0 λj _ _=>h j;grind[a7e]
theorem bey{s m:PV}{o:Bool}(I:aag m<=1048576):∃q,msgG s m o []=some q/\q.length<=30*aag m:=by
 have t:=abr m 1;have z:=abr m 2;have G:=abr m 3;have H:=aez m;have e:Ext (1+(1+(10*(m.fld 1).asList.length+(2*(m.fld 2).asList.length+(1*(m.fld 3).asList.length+(1+1)))))) (msgG s m o):=by delta msgG;exact aar abi (aar abi (aar (agi λi=>bhp) (aar (agi λi=>bgl) (aar (agi λi=>abi) (aar abi abi)))))
 grind[auq]
theorem bdt{m:PV}(G:aag m<=1048576):∃q,enmG m []=some q/\q.length<=30*aag m:=by
 have o:=abr m 2;have t:=abr m 3;have z:=aez m;have e:Ext (1+(1+(1+(6*(m.fld 2).asList.length+(2*(m.fld 3).asList.length+1))))) (enmG m):=by delta enmG;exact aar abi (aar abi (aar abi (aar (agi λi=>bj3) (aar (agi λi=>bgl) abi))))
 grind[auq]
theorem bf3{s m:PV}(z:aag m<=1048576):∃q,svcG s m []=some q/\q.length<=30*aag m:=by
 have o:=abr m 1;have t:=aez m;have e:Ext (1+(1+(5*(m.fld 1).asList.length+1))) (svcG s m):=by delta svcG;exact aar abi (aar abi (aar (agi λi=>bj4) abi))
 grind[auq]
def nmL(l:List PV):List PV:=l.map λm=>PV.str (m.fld 0).asStr
theorem ads(l:List PV):(nmL l).length=l.length:=by simp[nmL]
theorem aq2{s:PV}(h:SLen s){w:Int}(t:w=1\/w=2\/w=3):F165 s w=some (nmL (bif w==1 then(s.fld 0).asList else bif w==2 then(s.fld 1).asList else(s.fld 2).asList)):=by
 have J:=h.m;have M:=h.e;have O:=h.v;have G:aad 0 (Y5 S165_4) (1,(),[],(0:Int),s)=some (1,(),nmL (s.fld 0).asList,s):=abg (step:=(Y5 S165_4)) (λi c=>(1,(),c,((i:Nat):Int),s)) (s.fld 0).asList (λm=>PV.str (m.fld 0).asStr) (λc=>(1,(),c,s)) (by omega) (λi c o z=>by
  simp only[Y5,S165_4,show((1:Int)==1)=true from rfl,decL i _ o,Ad,aaa,Ah o,Ae,ada z,aal i (show i<=1000000000000 by omega)]) (λc=>by
  simp only[Y5,S165_4,show((1:Int)==1)=true from rfl,decN,Ad,Af])
 have H:aad 0 (Y5 S165_8) (2,(),[],(0:Int),s)=some (2,(),nmL (s.fld 1).asList,s):=abg (step:=(Y5 S165_8)) (λi c=>(2,(),c,((i:Nat):Int),s)) (s.fld 1).asList (λm=>PV.str (m.fld 0).asStr) (λc=>(2,(),c,s)) (by omega) (λi c o z=>by
  simp only[Y5,S165_8,show((2:Int)==2)=true from rfl,decL i _ o,Ad,aaa,Ah o,Ae,ada z,aal i (show i<=1000000000000 by omega)]) (λc=>by
  simp only[Y5,S165_8,show((2:Int)==2)=true from rfl,decN,Ad,Af])
 have I:aad 0 (Y5 S165_12) (3,(),[],(0:Int),s)=some (nmL (s.fld 2).asList,s):=abg (step:=(Y5 S165_12)) (λi c=>(3,(),c,((i:Nat):Int),s)) (s.fld 2).asList (λm=>PV.str (m.fld 0).asStr) (λc=>(c,s)) (by omega) (λi c o z=>by
  simp only[Y5,S165_12,show((3:Int)==3)=true from rfl,decL i _ o,Ad,aaa,Ah o,Ae,ada z,aal i (show i<=1000000000000 by omega)]) (λc=>by
  simp only[Y5,S165_12,show((3:Int)==3)=true from rfl,decN,Ad,Af])
 have U:∀(w:Int)(acc:List PV),(w==1)=false->aad 0 (Y5 S165_4) (w,(),acc,(0:Int),s)=some (w,(),acc,s):=λw acc t=>aae (x:=(w,(),acc,(0:Int),s)) (by simp only[Y5,S165_4,t,Af]);have V:∀(w:Int)(acc:List PV),(w==2)=false->aad 0 (Y5 S165_8) (w,(),acc,(0:Int),s)=some (w,(),acc,s):=λw acc t=>aae (x:=(w,(),acc,(0:Int),s)) (by simp only[Y5,S165_8,t,Af]);have W:∀(w:Int)(acc:List PV),(w==3)=false->aad 0 (Y5 S165_12) (w,(),acc,(0:Int),s)=some (acc,s):=λw acc t=>aae (x:=(w,(),acc,(0:Int),s)) (by simp only[Y5,S165_12,t,Af]);unfold F165;grind
def ans:PV:=PV.agg [(PV.slice []),(PV.slice []),(PV.slice [])]
theorem bev{s:PV}(h:SLen s):F130 s=some (PV.agg [PV.slice (nmL (s.fld 0).asList),PV.slice (nmL (s.fld 1).asList),PV.slice (nmL (s.fld 2).asList)]):=by
 have M:=h.m;have O:=h.e;have U:=h.v;have H:aad 0 (Y11 S130_4) ((),(),(),(s.fld 0).asList,(((s.fld 0).asList.length:Nat):Int),(0:Int),s,ans,[],[],[])=some ((),(),(),s,ans,nmL (s.fld 0).asList,[],[]):=abg (step:=(Y11 S130_4)) (λi c=>((),(),(),(s.fld 0).asList,(((s.fld 0).asList.length:Nat):Int),((i:Nat):Int),s,ans,c,[],[])) (s.fld 0).asList (λm=>PV.str (m.fld 0).asStr) (λc=>((),(),(),s,ans,c,[],[])) (by omega) (λi c t G=>by
  simp only[Y11,S130_4,decL i _ t,Ad,aaa,Ah t,Ae,ada G,aal i (show i<=1000000000000 by omega)]) (λc=>by
  simp only[Y11,S130_4,decN,Af])
 have I:∀o:List PV,aad 0 (Y11 S130_9) ((),(),(),(s.fld 1).asList,(((s.fld 1).asList.length:Nat):Int),(0:Int),s,ans,o,[],[])=some ((),(),(),s,ans,o,nmL (s.fld 1).asList,[]):=λo=>abg (step:=(Y11 S130_9)) (λi c=>((),(),(),(s.fld 1).asList,(((s.fld 1).asList.length:Nat):Int),((i:Nat):Int),s,ans,o,c,[])) (s.fld 1).asList (λm=>PV.str (m.fld 0).asStr) (λc=>((),(),(),s,ans,o,c,[])) (by omega) (λi c t G=>by
  simp only[Y11,S130_9,decL i _ t,Ad,aaa,Ah t,Ae,ada G,aal i (show i<=1000000000000 by omega)]) (λc=>by
  simp only[Y11,S130_9,decN,Af])
 have J:∀o z:List PV,aad 0 (Y10 S130_14) ((),(),(s.fld 2).asList,(((s.fld 2).asList.length:Nat):Int),(0:Int),s,ans,o,z,[])=some ((),(),s,ans,o,z,nmL (s.fld 2).asList):=λo z=>abg (step:=(Y10 S130_14)) (λi c=>((),(),(s.fld 2).asList,(((s.fld 2).asList.length:Nat):Int),((i:Nat):Int),s,ans,o,z,c)) (s.fld 2).asList (λm=>PV.str (m.fld 0).asStr) (λc=>((),(),s,ans,o,z,c)) (by omega) (λi c t G=>by
  simp only[Y10,S130_14,decL i _ t,Ad,aaa,Ah t,Ae,ada G,aal i (show i<=1000000000000 by omega)]) (λc=>by
  simp only[Y10,S130_14,decN,Af])
 unfold F130;dsimp only;rw[show(PV.agg [(PV.slice []),(PV.slice []),(PV.slice [])])=ans from rfl,H,Aa];grind
def ascB(l:List PV)(i:Nat):Bool:=!(Op.bytesLess (l.getD (i+1) .bad).asStr (l.getD i .bad).asStr||(l.getD (i+1) .bad).asStr==(l.getD i .bad).asStr)
def risB(l:List PV):Bool:=allF (ascB l) 0 (l.length-1)
theorem a2h{l:List PV}(h:l.length<=1048576):F167 l=some (risB l):=by
 have t:=abb (step:=(Y2 S167_3)) (λi=>(l,((i+1:Nat):Int))) (l.length-1) (ascB l) (.inl false) (.inr ()) (λi z=>by
  have w:IntKind.wrap .i64 (((i+1:Nat):Int)-1)=((i:Nat):Int):=by grind[abf]
  simp only[Y2,S167_3,decL (i+1) _ (show i+1<l.length by omega),Ad,aaa,Ah (show i+1<l.length by omega),w,Ah (show i<l.length by omega),Ae,aal (i+1) (by omega),ascB];grind) (by
  have o:decide (((l.length-1+1:Nat):Int)<(l.length:Int))=false:=Av (by omega);simp only[Y2,S167_3,o,Af]) (l.length-1) 0 (by omega)
 have m:aad 0 (Y2 S167_3) (l,(1:Int))=some (bif allF (ascB l) 0 (l.length-1)then .inr ()else .inl false):=t;unfold F167 risB;rw[m];cases allF (ascB l) 0 (l.length-1)<;>rfl
theorem arn{l:List PV}(h:l.length<=1048576):F132 l=some (risB l):=a2h h
def metB(a b:List PV):Bool:=a.any λx=>hasT b x.asStr
theorem aqn(a b:List PV):metB a b=metB b a:=by unfold metB hasT;grind
theorem a0q{a b:List PV}(z:a.length<=1048576)(o:b.length<=1048576):F168 a b=some (metB a b):=by
 have q:=ajn (step:=(Y3 S168_3)) (λi=>(a,b,((i:Nat):Int))) a (λx=>hasT b x.asStr) (.inl true) (.inr ()) (λi m=>by
  simp only[Y3,S168_3,decL i _ m,Ad,aaa,Ah m,Ae,ayj _ o,Aa,aal i (show i<=1000000000000 by omega)];grind) (by
  simp only[Y3,S168_3,decN,Af])
 have t:aad 0 (Y3 S168_3) (a,b,(0:Int))=_:=q;unfold F168 metB;rw[t];cases a.any λx=>hasT b x.asStr<;>rfl
theorem bda{a b c:List PV}(ha:a.length<=1048576)(hb:b.length<=1048576)(hc:c.length<=1048576):F133 (PV.agg [PV.slice a,PV.slice b,PV.slice c])=some (!(bif (bif metB a b then true else metB a c)then true else metB b c)):=by
 generalize U:PV.agg [PV.slice a,PV.slice b,PV.slice c]=l;have Z:(l.fld 0).asList=a:=by rw[<-U];rfl
 have f1:(l.fld 1).asList=b:=by rw[<-U];rfl
 have f2:(l.fld 2).asList=c:=by rw[<-U];rfl
 have e:∀(x y:List PV)(k:Nat),x.length<=1048576->y.length<=1048576->k<3->(l.fld k).asList=y->F184_c185 x () l ((k:Nat):Int)=some (metB x y,l,((k:Nat):Int)):=λx y k hx hy O X=>agb (c:=(l,((k:Nat):Int))) (show x.length<=1000000000000 by omega) (λz=>hasT y z.asStr) λz _=>by show F185 z.asStr () () l ((k:Nat):Int)=_;unfold F185;rw[aaa,Ah O,Ad,Ae,X,apt _ hy];rfl
 have t:=e b a 0 hb ha (by omega) Z;have G:=e c a 0 hc ha (by omega) Z;have H:=e c b 1 hc hb (by omega) f1;have w1:IntKind.wrap .i64 ((0:Int)+1)=1:=by decide
 have w2:IntKind.wrap .i64 ((1:Int)+1)=2:=by decide
 have w3:IntKind.wrap .i64 ((2:Int)+1)=3:=by decide
 have s0:aad 0 (Y6 S133_6) ((),(0:Int),(0:Int),(0:Int),(0:Int),l)=some (.inr ((),(0:Int),l)):=aae (x:=((),(0:Int),(0:Int),(0:Int),(0:Int),l)) (by simp only[Y6,S133_6,show decide ((0:Int)<0)=false from rfl,Af]);have step:∀(i k:Nat)(x:List PV)(m:Bool),k<i->i<3->(l.fld i).asList=x->F184_c185 x () l ((k:Nat):Int)=some (m,l,((k:Nat):Int))->(Y6 S133_6) ((),((i:Nat):Int),((i:Nat):Int),((i:Nat):Int),((k:Nat):Int),l)=some (bif m then .inr (.inl (false,l))else .inl ((),((i:Nat):Int),((i:Nat):Int),((i:Nat):Int),((k+1:Nat):Int),l)):=λi k x m O hi hx he=>by simp only[Y6,S133_6,decL k i O,Ad,aaa,Ah hi,Ae,hx,he,Aa,aal k (show k<=1000000000000 by omega)];cases m<;>rfl
 have o:∀i:Nat,(Y6 S133_6) ((),((i:Nat):Int),((i:Nat):Int),((i:Nat):Int),((i:Nat):Int),l)=some (.inr (.inr ((),((i:Nat):Int),l))):=λi=>by simp only[Y6,S133_6,decN,Af]
 have s1:aad 0 (Y6 S133_6) ((),(1:Int),(1:Int),(1:Int),(0:Int),l)=some (bif metB b a then .inl (false,l)else .inr ((),(1:Int),l)):=by
  have q:=step 1 0 b _ (by omega) (by omega) f1 t;show aap _ _=_;cases V:metB b a with
  |true=>grind[aae]
  |false=>rw[V]at q;exact(aan q).trans (aae (o 1))
 have s2:aad 0 (Y6 S133_6) ((),(2:Int),(2:Int),(2:Int),(0:Int),l)=some (bif metB c a then .inl (false,l)else bif metB c b then .inl (false,l)else .inr ((),(2:Int),l)):=by
  have q:=step 2 0 c _ (by omega) (by omega) f2 G;have q2:=step 2 1 c _ (by omega) (by omega) f2 H;show aap _ _=_;cases V:metB c a with
  |true=>grind[aae]
  |false=>
   rw[V]at q;refine(aan q).trans ?_;cases W:metB c b with
   |true=>grind[aae]
   |false=>rw[W]at q2;exact(aan q2).trans (aae (o 2))
 have t0:(Y3 S133_3) ((),(0:Int),l)=some (.inl ((),(1:Int),l)):=by simp only[Y3,S133_3,show decide ((0:Int)<3)=true from rfl,Ad,s0,Aa,aa6,w1]
 have t1:(Y3 S133_3) ((),(1:Int),l)=some (bif metB b a then .inr (.inl (false,l))else .inl ((),(2:Int),l)):=by
  simp only[Y3,S133_3,show decide ((1:Int)<3)=true from rfl,Ad,s1,Aa];cases metB b a with
  |true=>rfl
  |false=>simp only[Af,aa6,w2]
 have Y:(Y3 S133_3) ((),(2:Int),l)=some (bif metB c a then .inr (.inl (false,l))else bif metB c b then .inr (.inl (false,l))else .inl ((),(3:Int),l)):=by
  simp only[Y3,S133_3,show decide ((2:Int)<3)=true from rfl,Ad,s2,Aa];cases metB c a with
  |true=>rfl
  |false=>
   cases metB c b with
   |true=>rfl
   |false=>simp only[Af,aa6,w3]
 have t3:(Y3 S133_3) ((),(3:Int),l)=some (.inr (.inr l)):=by simp only[Y3,S133_3,show decide ((3:Int)<3)=false from rfl,Af]
 have fin:aad 0 (Y3 S133_3) ((),(0:Int),l)=some (bif (bif (bif metB a b then true else metB a c)then true else metB b c)then .inl (false,l)else .inr l):=by
  show aap _ _=_;rw[aan t0,aqn a b,aqn a c,aqn b c];cases I:metB b a with
  |true=>grind[aae]
  |false=>
   rw[I]at t1;rw[aan t1];cases J:metB c a with
   |true=>grind[aae]
   |false=>
    rw[J]at Y;cases M:metB c b with
    |true=>grind[aae]
    |false=>rw[M]at Y;exact(aan Y).trans (aae t3)
 unfold F133;rw[fin];cases(bif (bif metB a b then true else metB a c)then true else metB b c)<;>rfl
theorem anf{α:Type}(q acc:List PV)(g:List PV->Option α):(pa q acc).bind g=bif decide (acc.length+q.length<=accMax)then g (acc++q)else none:=by grind[pa,decide,accMax]
noncomputable def schG(s:PV)(m:PV->Bool)(acc:List PV):Option (List PV):=
 (pu (decide (((nmL (s.fld 0).asList).length:Int)>(64:Int))) [] (-1) 3 acc).bind λa=>
 (pu (!risB (nmL (s.fld 0).asList)) [] (-1) 11 a).bind λa=>
 (pu (decide (((nmL (s.fld 1).asList).length:Int)>(64:Int))) [] (-1) 3 a).bind λa=>
 (pu (!risB (nmL (s.fld 1).asList)) [] (-1) 11 a).bind λa=>
 (pu (decide (((nmL (s.fld 2).asList).length:Int)>(64:Int))) [] (-1) 3 a).bind λa=>
 (pu (!risB (nmL (s.fld 2).asList)) [] (-1) 11 a).bind λa=>
 (pu (bif (bif metB (nmL (s.fld 0).asList) (nmL (s.fld 1).asList)then true else metB (nmL (s.fld 0).asList) (nmL (s.fld 2).asList))then true else metB (nmL (s.fld 1).asList) (nmL (s.fld 2).asList)) [] (-1) 9 a).bind λa=>
 (ade (λi a=>(msgG s ((s.fld 0).asList.getD i .bad) (m ((s.fld 0).asList.getD i .bad)) []).bind λq=>pa q a) 0 (s.fld 0).asList.length a).bind λa=>
 (ade (λi a=>(enmG ((s.fld 1).asList.getD i .bad) []).bind λq=>pa q a) 0 (s.fld 1).asList.length a).bind λa=>
 ade (λi a=>(svcG s ((s.fld 2).asList.getD i .bad) []).bind λq=>pa q a) 0 (s.fld 2).asList.length a
theorem bfj{s:PV}{o:PV->Bool}(U:aag s<=1048576):∃q,schG s o []=some q:=by
 have z:∀(k:Nat)(g:PV->Option (List PV)),(∀m,aag m<=1048576->∃q,g m=some q/\q.length<=30*aag m)->Ext (30*1048576) (ade (λi a=>(g ((s.fld k).asList.getD i .bad)).bind λq=>pa q a) 0 (s.fld k).asList.length):=λk g H=>by
  have M:=amz (s.fld k);have O:=ab6 s k;have G:=bf2 (s.fld k).asList 0;rw[Ar,Nat.sub_zero]at G;refine bdy (a2u (c:=λi=>30*aag ((s.fld k).asList.getD i .bad)) _ 0 λi _ V=>?_) (show sumN _ 0 (s.fld k).asList.length<=30*1048576 by omega);have t:aag ((s.fld k).asList.getD i .bad)<=1048576:=by have:=ag8 (aam (l:=(s.fld k).asList) (i:=i) (by omega));omega
  obtain⟨q,I,J⟩:=H _ t;show Ext _ λa=>(g ((s.fld k).asList.getD i .bad)).bind λq=>pa q a;rw[I];exact bj5 J
 have e:Ext (1+(1+(1+(1+(1+(1+(1+(30*1048576+(30*1048576+30*1048576))))))))) (schG s o):=by delta schG;exact aar abi (aar abi (aar abi (aar abi (aar abi (aar abi (aar abi (aar (z 0 (λm=>msgG s m (o m) []) λm t=>bey t) (aar (z 1 (λm=>enmG m []) λm t=>bdt t) (z 2 (λm=>svcG s m []) λm t=>bf3 t)))))))))
 grind[auq]
theorem bjm{s:PV}{fin:List (PV×PV)}(t:SOk s)(H:F134 s=some fin):F93 s=schG s (λm=>!(ndP s m).all (vA s fin)) []:=by
 have Y:=t.len.m;have h2:=t.len.e;have h3:=t.len.v;generalize G:PV.agg [PV.slice (nmL (s.fld 0).asList),PV.slice (nmL (s.fld 1).asList),PV.slice (nmL (s.fld 2).asList)]=L;have U:(L.fld 0).asList=nmL (s.fld 0).asList:=by rw[<-G];rfl
 have V:(L.fld 1).asList=nmL (s.fld 1).asList:=by rw[<-G];rfl
 have W:(L.fld 2).asList=nmL (s.fld 2).asList:=by rw[<-G];rfl
 have r1:F132 (nmL (s.fld 0).asList)=_:=arn (by grind[ads]);have r2:F132 (nmL (s.fld 1).asList)=_:=arn (by grind[ads]);have r3:F132 (nmL (s.fld 2).asList)=_:=arn (by grind[ads]);have M:=bda (a:=nmL (s.fld 0).asList) (b:=nmL (s.fld 1).asList) (c:=nmL (s.fld 2).asList) (by grind[ads]) (by grind[ads]) (by grind[ads]);rw[G]at M;have w1:IntKind.wrap .i64 ((0:Int)+1)=1:=by decide
 have w2:IntKind.wrap .i64 ((1:Int)+1)=2:=by decide
 have w3:IntKind.wrap .i64 ((2:Int)+1)=3:=by decide
 have t0:∀acc,(Y10 S93_5) ((),(),(),L,(0:Int),s,[],(-1:Int),acc,L)=((pu (decide (((nmL (s.fld 0).asList).length:Int)>(64:Int))) [] (-1) 3 acc).bind λa=>pu (!risB (nmL (s.fld 0).asList)) [] (-1) 11 a).map λa=>.inl ((),(),(),L,(1:Int),s,[],(-1:Int),a,L):=λacc=>by simp only[Y10,S93_5,show decide ((0:Int)<3)=true from rfl,show aab (0:Int) 3=true from rfl,show(0:Int).toNat=0 from rfl,Ad,U,r1,Aa,aco,mp,bb,gtN,w1]
 have t1:∀acc,(Y10 S93_5) ((),(),(),L,(1:Int),s,[],(-1:Int),acc,L)=((pu (decide (((nmL (s.fld 1).asList).length:Int)>(64:Int))) [] (-1) 3 acc).bind λa=>pu (!risB (nmL (s.fld 1).asList)) [] (-1) 11 a).map λa=>.inl ((),(),(),L,(2:Int),s,[],(-1:Int),a,L):=λacc=>by simp only[Y10,S93_5,show decide ((1:Int)<3)=true from rfl,show aab (1:Int) 3=true from rfl,show(1:Int).toNat=1 from rfl,Ad,V,r2,Aa,aco,mp,bb,gtN,w2]
 have t2:∀acc,(Y10 S93_5) ((),(),(),L,(2:Int),s,[],(-1:Int),acc,L)=((pu (decide (((nmL (s.fld 2).asList).length:Int)>(64:Int))) [] (-1) 3 acc).bind λa=>pu (!risB (nmL (s.fld 2).asList)) [] (-1) 11 a).map λa=>.inl ((),(),(),L,(3:Int),s,[],(-1:Int),a,L):=λacc=>by simp only[Y10,S93_5,show decide ((2:Int)<3)=true from rfl,show aab (2:Int) 3=true from rfl,show(2:Int).toNat=2 from rfl,Ad,W,r3,Aa,aco,mp,bb,gtN,w3]
 have t3:∀acc,(Y10 S93_5) ((),(),(),L,(3:Int),s,[],(-1:Int),acc,L)=some (.inr ((),(),(),s,[],(-1:Int),acc,L)):=λacc=>by simp only[Y10,S93_5,show decide ((3:Int)<3)=false from rfl,Af]
 have J:∀{I O:Type}{step:I->Option (I⊕O)}{x:I}{X:Option (List PV)}{f:List PV->I},step x=(X.map λa=>.inl (f a))->aap step x=X.bind λa=>aap step (f a):=λ{I O step x X f}h=>by rw[alt,h];cases X<;>rfl
 have q0:aad 0 (Y10 S93_5) ((),(),(),L,(0:Int),s,[],(-1:Int),[],L)=_:=J (t0 []);simp only[J (t1 _),J (t2 _),aae (t3 _),bb]at q0;have Z:∀a,aad 0 (Y11 S93_13) ((),(),fin,(s.fld 0).asList,(((s.fld 0).asList.length:Nat):Int),(0:Int),s,[],(-1:Int),a,L)=(ade (λi a=>(msgG s ((s.fld 0).asList.getD i .bad) (!(ndP s ((s.fld 0).asList.getD i .bad)).all (vA s fin)) []).bind λq=>pa q a) 0 (s.fld 0).asList.length a).map λa=>((),(),s,[],(-1:Int),a,L):=λa=>
  ach (step:=(Y11 S93_13)) (λi b=>((),(),fin,(s.fld 0).asList,(((s.fld 0).asList.length:Nat):Int),((i:Nat):Int),s,[],(-1:Int),b,L)) (s.fld 0).asList.length _ (λb=>((),(),s,[],(-1:Int),b,L)) (λi b o=>by
   have z:=t.msg _ (aam o);simp only[Y11,S93_13,decL i _ o,Ad,aaa,Ah o,Ae,beh t z (a8s Y z.fields),mp,bb,anf,aal i (show i<=1000000000000 by omega)]) (λb=>by
   simp only[Y11,S93_13,decN,Af]) a
 have q2:∀a,aad 0 (Y10 S93_18) ((),(),(s.fld 1).asList,(((s.fld 1).asList.length:Nat):Int),(0:Int),s,[],(-1:Int),a,L)=(ade (λi a=>(enmG ((s.fld 1).asList.getD i .bad) []).bind λq=>pa q a) 0 (s.fld 1).asList.length a).map λa=>((),(),s,[],(-1:Int),a,L):=λa=>
  ach (step:=(Y10 S93_18)) (λi b=>((),(),(s.fld 1).asList,(((s.fld 1).asList.length:Nat):Int),((i:Nat):Int),s,[],(-1:Int),b,L)) (s.fld 1).asList.length _ (λb=>((),(),s,[],(-1:Int),b,L)) (λi b o=>by
   have z:=t.enum _ (aam o);simp only[Y10,S93_18,decL i _ o,Ad,aaa,Ah o,Ae,bhn z,mp,bb,anf,aal i (show i<=1000000000000 by omega)]) (λb=>by
   simp only[Y10,S93_18,decN,Af]) a
 have q3:∀a,aad 0 (Y10 S93_23) ((),(),(s.fld 2).asList,(((s.fld 2).asList.length:Nat):Int),(0:Int),s,[],(-1:Int),a,L)=(ade (λi a=>(svcG s ((s.fld 2).asList.getD i .bad) []).bind λq=>pa q a) 0 (s.fld 2).asList.length a).map λa=>((),s,[],(-1:Int),a,L):=λa=>
  ach (step:=(Y10 S93_23)) (λi b=>((),(),(s.fld 2).asList,(((s.fld 2).asList.length:Nat):Int),((i:Nat):Int),s,[],(-1:Int),b,L)) (s.fld 2).asList.length _ (λb=>((),s,[],(-1:Int),b,L)) (λi b o=>by
   have z:=t.svc _ (aam o);simp only[Y10,S93_23,decL i _ o,Ad,aaa,Ah o,Ae,bln t z,mp,bb,anf,aal i (show i<=1000000000000 by omega)]) (λb=>by
   simp only[Y10,S93_23,decN,Af]) a
 unfold F93 schG;rw[bev t.len,G,Aa];simp only[q0,bb,Aa,M,aco,mp,Bool.not_not,H,Z,q2,q3,Option.bind_fun_some]
theorem aye{s:PV}{l:List PV}(t:SOk s)(H:F169 s=some l)(hl:l.length=(s.fld 0).asList.length):F123 s=schG s (λm=>!(ndP s m).all (fnV l)) []:=by
 have Z:=t.len.m;have h2:=t.len.e;have h3:=t.len.v;have r1:F167 (nmL (s.fld 0).asList)=_:=a2h (by grind[ads]);have r2:F167 (nmL (s.fld 1).asList)=_:=a2h (by grind[ads]);have r3:F167 (nmL (s.fld 2).asList)=_:=a2h (by grind[ads]);have U:F165 s 1=some (nmL (s.fld 0).asList):=aq2 t.len (Or.inl rfl);have V:F165 s 2=some (nmL (s.fld 1).asList):=aq2 t.len (Or.inr (Or.inl rfl));have W:F165 s 3=some (nmL (s.fld 2).asList):=aq2 t.len (Or.inr (Or.inr rfl));have m1:F168 (nmL (s.fld 0).asList) (nmL (s.fld 1).asList)=_:=a0q (by grind[ads]) (by grind[ads]);have m2:F168 (nmL (s.fld 0).asList) (nmL (s.fld 2).asList)=_:=a0q (by grind[ads]) (by grind[ads]);have O:F168 (nmL (s.fld 1).asList) (nmL (s.fld 2).asList)=_:=a0q (by grind[ads]) (by grind[ads]);have w1:IntKind.wrap .i64 ((1:Int)+1)=2:=by decide
 have w2:IntKind.wrap .i64 ((2:Int)+1)=3:=by decide
 have w3:IntKind.wrap .i64 ((3:Int)+1)=4:=by decide
 have t1:∀acc,(Y6 S123_4) ((),(),(1:Int),s,[],acc)=((pu (decide (((nmL (s.fld 0).asList).length:Int)>(64:Int))) [] (-1) 3 acc).bind λa=>pu (!risB (nmL (s.fld 0).asList)) [] (-1) 11 a).map λa=>.inl ((),(),(2:Int),s,[],a):=λacc=>by simp only[Y6,S123_4,show decide ((1:Int)<=3)=true from rfl,Ad,U,r1,Aa,af6,mp,bb,w1]
 have t2:∀acc,(Y6 S123_4) ((),(),(2:Int),s,[],acc)=((pu (decide (((nmL (s.fld 1).asList).length:Int)>(64:Int))) [] (-1) 3 acc).bind λa=>pu (!risB (nmL (s.fld 1).asList)) [] (-1) 11 a).map λa=>.inl ((),(),(3:Int),s,[],a):=λacc=>by simp only[Y6,S123_4,show decide ((2:Int)<=3)=true from rfl,Ad,V,r2,Aa,af6,mp,bb,w2]
 have t3:∀acc,(Y6 S123_4) ((),(),(3:Int),s,[],acc)=((pu (decide (((nmL (s.fld 2).asList).length:Int)>(64:Int))) [] (-1) 3 acc).bind λa=>pu (!risB (nmL (s.fld 2).asList)) [] (-1) 11 a).map λa=>.inl ((),(),(4:Int),s,[],a):=λacc=>by simp only[Y6,S123_4,show decide ((3:Int)<=3)=true from rfl,Ad,W,r3,Aa,af6,mp,bb,w3]
 have t4:∀acc,(Y6 S123_4) ((),(),(4:Int),s,[],acc)=some (.inr ((),(),s,[],acc)):=λacc=>by simp only[Y6,S123_4,show decide ((4:Int)<=3)=false from rfl,Af]
 have J:∀{I Y:Type}{step:I->Option (I⊕Y)}{x:I}{X:Option (List PV)}{f:List PV->I},step x=(X.map λa=>.inl (f a))->aap step x=X.bind λa=>aap step (f a):=λ{I Y step x X f}h=>by rw[alt,h];cases X<;>rfl
 have q0:aad 0 (Y6 S123_4) ((),(),(1:Int),s,[],[])=_:=J (t1 []);simp only[J (t2 _),J (t3 _),aae (t4 _),bb]at q0;have q1:∀a,aad 0 (Y7 S123_15) ((),(),l,(0:Int),s,[],a)=(ade (λi a=>(msgG s ((s.fld 0).asList.getD i .bad) (!(ndP s ((s.fld 0).asList.getD i .bad)).all (fnV l)) []).bind λq=>pa q a) 0 (s.fld 0).asList.length a).map λa=>((),(),s,[],a):=λa=>
  ach (step:=(Y7 S123_15)) (λi b=>((),(),l,((i:Nat):Int),s,[],b)) (s.fld 0).asList.length _ (λb=>((),(),s,[],b)) (λi b o=>by
   have G:=t.msg _ (aam o);simp only[Y7,S123_15,decL i _ o,Ad,aaa,Ah o,Ae,bbp t G (a07 Z G.fields hl),mp,bb,anf,aal i (show i<=1000000000000 by omega)]) (λb=>by
   simp only[Y7,S123_15,decN,Af]) a
 have q2:∀a,aad 0 (Y6 S123_19) ((),(),(0:Int),s,[],a)=(ade (λi a=>(enmG ((s.fld 1).asList.getD i .bad) []).bind λq=>pa q a) 0 (s.fld 1).asList.length a).map λa=>((),(),s,[],a):=λa=>
  ach (step:=(Y6 S123_19)) (λi b=>((),(),((i:Nat):Int),s,[],b)) (s.fld 1).asList.length _ (λb=>((),(),s,[],b)) (λi b o=>by
   have G:=t.enum _ (aam o);simp only[Y6,S123_19,decL i _ o,Ad,aaa,Ah o,Ae,a6q G,mp,bb,anf,aal i (show i<=1000000000000 by omega)]) (λb=>by
   simp only[Y6,S123_19,decN,Af]) a
 have q3:∀a,aad 0 (Y6 S123_23) ((),(),(0:Int),s,[],a)=(ade (λi a=>(svcG s ((s.fld 2).asList.getD i .bad) []).bind λq=>pa q a) 0 (s.fld 2).asList.length a).map λa=>((),s,[],a):=λa=>
  ach (step:=(Y6 S123_23)) (λi b=>((),(),((i:Nat):Int),s,[],b)) (s.fld 2).asList.length _ (λb=>((),s,[],b)) (λi b o=>by
   have G:=t.svc _ (aam o);simp only[Y6,S123_23,decL i _ o,Ad,aaa,Ah o,Ae,bbt t G,mp,bb,anf,aal i (show i<=1000000000000 by omega)]) (λb=>by
   simp only[Y6,S123_23,decN,Af]) a
 have aa:∀{α:Type}(K:Bool->Bool->Option α),((bif !metB (nmL (s.fld 0).asList) (nmL (s.fld 1).asList)then F168 (nmL (s.fld 0).asList) (nmL (s.fld 2).asList)else some false).bind λy=>(bif !(bif metB (nmL (s.fld 0).asList) (nmL (s.fld 1).asList)then true else y)then F168 (nmL (s.fld 1).asList) (nmL (s.fld 2).asList)else some false).bind λz=>K y z)=(bif !metB (nmL (s.fld 0).asList) (nmL (s.fld 1).asList)then some (metB (nmL (s.fld 0).asList) (nmL (s.fld 2).asList))else some false).bind λy=>(bif !(bif metB (nmL (s.fld 0).asList) (nmL (s.fld 1).asList)then true else y)then some (metB (nmL (s.fld 1).asList) (nmL (s.fld 2).asList))else some false).bind λz=>K y z:=λK=>by rw[m2,O]
 have M:∀a b c:Bool,(bif (bif a then true else(bif !a then b else false))then true else(bif !(bif a then true else(bif !a then b else false))then c else false))=(bif (bif a then true else b)then true else c):=by decide
 unfold F123 schG;simp only[q0,bb,Aa,U,V,W,m1,m2,O,aos,M,af6,mp,H,q1,q2,q3,Option.bind_fun_some]
theorem bc5{s:PV}(o:SOk s):F93 s=F123 s:=by obtain⟨fin,z,G⟩:=a5n o.len.m λm t=>(o.msg m t).fields;obtain⟨l,H,I,J⟩:=amb o.len.m λm t=>(o.msg m t).fields;grind[bjm,aye,bdn]
theorem bg8{s:PV}(o:SOk s)(G:aag s<=1048576):∃q,F123 s=some q:=by obtain⟨l,t,z,_⟩:=amb o.len.m λm H=>(o.msg m H).fields;rw[aye o t z];exact bfj G
theorem anq{s:PV}(m:SOk s):F55 s=F89 s:=by grind[F55,F89,bc5]
theorem ai6{s:PV}(o:SOk s)(m:aag s<=1048576):∃b,F89 s=some b:=by obtain⟨q,t⟩:=bg8 o m;unfold F89;simp_all
end Go.Ab
