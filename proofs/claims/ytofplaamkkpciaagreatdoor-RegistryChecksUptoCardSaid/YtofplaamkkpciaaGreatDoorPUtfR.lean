/- UTF-8: what the printed functions compute. -/
import Derived.Test.YtofplaamkkpciaaGreatDoorAbEndR
set_option linter.unusedVariables false
set_option linter.unusedSimpArgs false
set_option linter.unnecessarySimpa false
namespace Go.Ab
open Go
theorem wadd{i k:Nat}(h:i+k<=9223372036854775807):IntKind.wrap .i64 ((i:Int)+(k:Int))=((i+k:Nat):Int):=by rw[<-Int.natCast_add];exact abf h
theorem ar4{i:Nat}(h:i+1<=9223372036854775807):IntKind.wrap .i64 ((i:Int)+(1:Int))=((i+1:Nat):Int):=wadd (k:=1) h
theorem wadd2{i:Nat}(h:i+2<=9223372036854775807):IntKind.wrap .i64 ((i:Int)+(2:Int))=((i+2:Nat):Int):=wadd (k:=2) h
theorem gb{α:Type}(b c:Bool)(k:Bool->Option α):((bif b then some c else some false).bind k)=k (b&&c):=by cases b<;>rfl
theorem gand(b c:Bool):(bif b then(b&&c)else false)=(b&&c):=by cases b<;>rfl
theorem agd{α:Type}(b:Bool)(x:α):(bif b then x else x)=x:=by cases b<;>rfl
theorem aai(a b:Nat):decide ((a:Int)<(b:Int))=decide (a<b):=by simp
def betw(s:Bn)(i o m:Nat):Bool:=decide (i<s.length/\o<=byteAt s i/\byteAt s i<=m)
theorem af9(s:Bn)(i o m:Nat):F359 s (i:Int) (o:Int) (m:Int)=some (betw s i o m):=by
 have t:((s.getD i 0).toNat:Int)=(byteAt s i:Int):=rfl;by_cases h:i<s.length
 ·simp only[F359,aai,aaa,h,decide_true,Ad,imp,Ae,t,betw,true_and,ge_iff_le,Int.ofNat_le,Bool.decide_and];grind
 ·simp only[F359,aai,aaa,h,decide_false,Af,Ad,imp,Ao,betw,false_and]
def ahw(s:Bn):Nat->Nat->Bool
 |_,0=>true
 |i,n+1=>betw s i 128 191&&ahw s (i+1) n
theorem bcl:∀(m:Nat)(s:Bn)(i n k:Nat),n-k=m->k<=n->i+n<=9223372036854775800->aap ((Y4 S358_3)) (s,(i:Int),(n:Int),(k:Int))=some (bif ahw s (i+k) (n-k)then .inr ()else .inl false):=by
 intro m;induction m with
 |zero=>grind[aae,ahw,Y4,S358_3]
 |succ m H=>
  intro s i n k J I G;have o:k<n:=by omega
  have t:F359 s ((i+k:Nat):Int) (128:Int) (191:Int)=some (betw s (i+k) 128 191):=af9 s (i+k) 128 191;have e:n-k=(n-(k+1))+1:=by omega
  rw[e,ahw];cases z:betw s (i+k) 128 191 with
  |false=>
   rw[aae (y:=.inl false)]
   ·rfl
   ·rw[z]at t;simp only[Y4,S358_3,aai,o,decide_true,Ad,wadd (i:=i) (k:=k) (by omega),t,Aa,Ao]
  |true=>
   rw[aan (x1:=(s,(i:Int),(n:Int),((k+1:Nat):Int)))]
   ·rw[H s i n (k+1) (by omega) (by omega) G];rfl
   ·rw[z]at t;simp only[Y4,S358_3,aai,o,decide_true,Ad,wadd (i:=i) (k:=k) (by omega),t,Aa,An,Af,ar4 (i:=k) (by omega)]
theorem ary(s:Bn)(i n:Nat)(m:i+n<=9223372036854775800):F358 s (i:Int) (n:Int)=some (ahw s i n):=by have h:=bcl n s i n 0 (by omega) (by omega) m;unfold F358;rw[aat];have e:((0:Nat):Int)=(0:Int):=rfl;rw[<-e,h];simp only[Nat.add_zero,Nat.sub_zero];cases ahw s i n<;>rfl
theorem ak1{c:Bool}{p:Prop}[Decidable p]{m:Option Int}{x r:Nat}(h:c=true ↔ p)(o:m=some (r:Int)):(bif c then some (x:Int)else m)=some ((if p then x else r:Nat):Int):=by grind
theorem bb9(s:Bn)(i:Nat)(W:i<s.length)(hs:s.length<=9223372036854775000):F261 s (i:Int)=some (sizeAt s i:Int):=by
 have U:((s.getD i 0).toNat:Int)=(byteAt s i:Int):=rfl;have m:F358 s ((i+1:Nat):Int) (1:Int)=some (ahw s (i+1) 1):=ary s (i+1) 1 (by omega);have o:F358 s ((i+1:Nat):Int) (2:Int)=some (ahw s (i+1) 2):=ary s (i+1) 2 (by omega);have t:F358 s ((i+1:Nat):Int) (3:Int)=some (ahw s (i+1) 3):=ary s (i+1) 3 (by omega);have z:F358 s ((i+2:Nat):Int) (1:Int)=some (ahw s (i+2) 1):=ary s (i+2) 1 (by omega);have G:F358 s ((i+2:Nat):Int) (2:Int)=some (ahw s (i+2) 2):=ary s (i+2) 2 (by omega);have I:F359 s ((i+1:Nat):Int) (160:Int) (191:Int)=some (betw s (i+1) 160 191):=af9 s (i+1) 160 191;have J:F359 s ((i+1:Nat):Int) (128:Int) (159:Int)=some (betw s (i+1) 128 159):=af9 s (i+1) 128 159;have M:F359 s ((i+1:Nat):Int) (144:Int) (191:Int)=some (betw s (i+1) 144 191):=af9 s (i+1) 144 191;have O:F359 s ((i+1:Nat):Int) (128:Int) (143:Int)=some (betw s (i+1) 128 143):=af9 s (i+1) 128 143;unfold F261;simp only[aaa,W,decide_true,Ad,Ae,U,ar4 (i:=i) (by omega),wadd2 (i:=i) (by omega),m,o,t,z,G,I,J,M,O,gb,gand];unfold sizeAt ac1;have V:∀k,(i+k<s.length)=(k<s.length-i):=λk=>propext ⟨λh=>by omega,λh=>by omega⟩;simp only[ahw,betw,Bool.and_true,Nat.add_assoc,Nat.reduceAdd,V,<-Bool.decide_and];generalize byteAt s i=H at*;generalize byteAt s (i+1)=X at*;generalize byteAt s (i+2)=Y at*;generalize byteAt s (i+3)=Z at*;generalize s.length-i=n at*;clear m o t z G I J M O V U;have hc:∀(k:Nat),(((H:Int)==(k:Int))=true ↔ H=k):=λk=>by simp;omega
 have hd:∀(k:Nat),(((H:Int) != (k:Int))=true ↔ H≠k):=λk=>by simp;omega
 have ci:∀(a b:Bool),((bif a then b else false)=true ↔ a=true/\b=true):=λa b=>by cases a<;>simp
 refine ak1 (x:=1) (by grind) ?_;refine ak1 (x:=2) (by grind) ?_;refine ak1 (x:=3) (by grind) ?_;refine ak1 (x:=3) (by grind) ?_;refine ak1 (x:=3) (by grind) ?_;refine ak1 (x:=4) (by grind) ?_;refine ak1 (x:=4) (by grind) ?_;grind
theorem a03(s:Bn)(M:s.length<=9223372036854775000):∀(m i:Nat),s.length-i<=m->i<=s.length->aap ((Y2 S351_3)) (s,(i:Int))=some (bif decide (afa s i=-1)then .inr ()else .inl (afa s i)):=by
 intro m;induction m with
 |zero=>
  intro i J I;have:¬i<s.length:=by omega
  rw[ajb,if_neg this];exact aae (by simp only[Y2,S351_3,aai,this,decide_false,Af];rfl)
 |succ m O=>
  intro i J I;by_cases o:i<s.length
  ·rw[ajb,if_pos o];have G:=bb9 s i o M;have t:=(av7 (s.length-i) (byteAt s i) (byteAt s (i+1)) (byteAt s (i+2)) (byteAt s (i+3)) (by omega)).1;by_cases z:sizeAt s i=0
   ·rw[if_pos z];rw[show decide ((i:Int)=-1)=false from Av (by omega)];exact aae (by simp only[Y2,S351_3,aai,o,decide_true,Ad,G,z,Aa];rfl)
   ·rw[if_neg z];rw[aan (x1:=(s,((i+sizeAt s i:Nat):Int)))]
    ·have:sizeAt s i<=s.length-i:=t;exact O _ (by omega) (by omega)
    ·have H:((sizeAt s i:Int)==(0:Int))=false:=by simp;omega
     have:sizeAt s i<=s.length-i:=t;simp only[Y2,S351_3,aai,o,decide_true,Ad,G,Aa,H,Af,wadd (i:=i) (k:=sizeAt s i) (by omega)]
  grind
theorem bbl(s:Bn)(m:s.length<=9223372036854775000):F351 s=some (bad s):=by have h:=a03 s m s.length 0 (by omega) (by omega);unfold F351;rw[aat,show(0:Int)=((0:Nat):Int)from rfl,h];grind[bad,afa,sumE]
theorem akw(s:Bn)(m:s.length<=9223372036854775000):F250 s=some (valid s):=by unfold F250;rw[bbl s m];rfl
theorem a5p(s:Bn):F397 s ([239,191,189]:Bn)=some (decide ((s.length:Int)>=3)&&(s.take 3==([239,191,189]:Bn))):=by
 unfold F397 F443;have e:((([239,191,189]:Bn).length:Nat):Int)=(3:Int):=rfl;simp only[e];by_cases h:(3:Int)<=(s.length:Int)
 ·have m:decide ((0:Int)<=0/\(0:Int)<=3/\(3:Int)<=(s.length:Int))=true:=by simp;omega
  simp only[m,imp,ge_iff_le,h,decide_true,Ad,Aa,Bool.true_and];rfl
 ·simp only[imp,ge_iff_le,h,decide_false,Af,Ao,agd,Ad,Aa,Bool.false_and]
theorem a4h(s:Bn)(i:Nat)(I:i<s.length):F373 s (i:Int) ((aao s i).1:Int)=some (decide (sizeAt s i=0)):=by
 unfold F373;have t:decide ((0:Int)<=(i:Int)/\(i:Int)<=(s.length:Int)/\(s.length:Int)<=(s.length:Int))=true:=by simp;omega
 have z:=bh0 s i (by omega);have o:=ahs s i I;have J:=(apx (s.length-i) (byteAt s i) (byteAt s (i+1)) (byteAt s (i+2)) (byteAt s (i+3))).1;by_cases G:(aao s i).1=65533
 ·have m:(((aao s i).1:Int)==(65533:Int))=true:=by simp;omega
  simp only[m,t,imp,Ad,Ae,a5p,z,Aa];rw[o];by_cases H:2<s.length-i/\byteAt s i=239/\byteAt s (i+1)=191/\byteAt s (i+2)=189
  ·simp only[H,and_self,decide_true,An,not_true_eq_false,and_false,A9];have:(aao s i).2≠0:=by grind[aao]
   simp[this]
  grind
 ·have m:(((aao s i).1:Int)==(65533:Int))=false:=by simp;omega
  simp only[m,imp,Ad,Af,Ao,Aa];rw[o,if_neg (by simp[G])];have:(aao s i).2≠0:=by grind[aao]
  simp[this]
theorem bdd(s:Bn):∀(m i:Nat),s.length-i<=m->i<=s.length->∃y,aap ((Y4 S278_3)) (s,(),s,(i:Int))=some y/\(afa s i=-1->∃z,y=.inr z)/\(afa s i≠-1->∃z,y=.inl (afa s i,z)):=by
 intro m;induction m with
 |zero=>
  intro i O M;have o:¬i<s.length:=by omega
  rw[ajb,if_neg o];refine⟨_,aae (y:=.inr (s,(i:Int))) ?_,λ_=>⟨_,rfl⟩,λh=>absurd rfl h⟩;simp only[Y4,S278_3,Ae,o,decide_false,Af]
 |succ m V=>
  intro i O M;by_cases o:i<s.length
  ·rw[ajb,if_pos o];have H:=a4h s i o;have I:=aif s i;have W:=ahs s i o;have G:=(av7 (s.length-i) (byteAt s i) (byteAt s (i+1)) (byteAt s (i+2)) (byteAt s (i+3)) (by omega)).1;by_cases t:sizeAt s i=0
   ·rw[if_pos t];refine⟨.inl ((i:Int),s,((i+(aao s i).2:Nat):Int)),aae ?_,λh=>by omega,λ_=>⟨_,rfl⟩⟩;simp only[Y4,S278_3,Ae,o,decide_true,Ad,I,H,t,Aa]
   ·rw[if_neg t];have J:sizeAt s i=(aao s i).2:=by
     grind
    rw[aan (x1:=(s,(),s,((i+sizeAt s i:Nat):Int)))]
    ·have:sizeAt s i<=s.length-i:=G;exact V _ (by omega) (by omega)
    ·have U:decide (sizeAt s i=0)=false:=Av t;rw[U]at H;simp only[Y4,S278_3,Ae,o,decide_true,Ad,I,H,Af,Aa,J]
  grind
theorem bad_eq(s:Bn):F278 s=some (bad s):=by
 obtain⟨y,h,o,t⟩:=bdd s s.length 0 (by omega) (by omega);unfold F278;rw[aat,h];unfold bad;by_cases m:afa s 0=-1
 ·obtain⟨z,rfl⟩:=o m;rw[m];rfl
 ·obtain⟨z,rfl⟩:=t m;rfl
theorem awg(s:Bn):F193 s=some (valid s):=by unfold F193;rw[bad_eq s];rfl
end Go.Ab
