/- UTF-8: what the printed functions compute. -/
import Derived.Test.YtodichgnoiaanaaGreatDoorAbLawT
set_option linter.unusedVariables false
set_option linter.unusedSimpArgs false
set_option linter.unnecessarySimpa false
namespace Go.Ab
open Go
theorem wadd {i k:Nat} (h:i+k<=9223372036854775807):IntKind.wrap .i64 ((i:Int)+(k:Int))=((i+k:Nat):Int):=by rw [<-Int.natCast_add];exact abe h
theorem avp {i:Nat} (h:i+1<=9223372036854775807):IntKind.wrap .i64 ((i:Int)+(1:Int))=((i+1:Nat):Int):=wadd (k:=1) h
theorem wadd2 {i:Nat} (h:i+2<=9223372036854775807):IntKind.wrap .i64 ((i:Int)+(2:Int))=((i+2:Nat):Int):=wadd (k:=2) h
theorem gb {h:Type} (b c:Bool) (k:Bool->Option h):((bif b then some c else some false).bind k)=k (b&&c):=by cases b<;>rfl
theorem gand (b c:Bool):(bif b then (b&&c) else false)=(b&&c):=by cases b<;>rfl
theorem atg {h:Type} (b:Bool) (x:h):(bif b then x else x)=x:=by cases b<;>rfl
theorem afq (a b:Nat):decide ((a:Int)<(b:Int))=decide (a<b):=by simp
def betw (s:Bo) (i o h:Nat):Bool:=decide (i<s.length/\o<=byteAt s i/\byteAt s i<=h)
theorem afz (s:Bo) (i z o:Nat):F184 0 s (i:Int) (z:Int) (o:Int)=some (betw s i z o):=by
 have H:((s.getD i 0).toNat:Int)=(byteAt s i:Int):=rfl;by_cases h:i<s.length
 ·simp only [F184,afq,aaa,h,decide_true,Af,imp,Ai,H,betw,true_and,ge_iff_le,Int.ofNat_le,Bool.decide_and];grind
 ·simp only [F184,afq,aaa,h,decide_false,Ah,Af,imp,Av,betw,false_and]
def ag9 (s:Bo):Nat->Nat->Bool
 | _,0=>true
 | i,n+1=>betw s i 128 191&&ag9 s (i+1) n
theorem a6l:∀ (m:Nat) (s:Bo) (i n k:Nat),n-k=m->k<=n->i+n<=9223372036854775800->aa3 (S183_3step 0) (s,(i:Int),(n:Int),(k:Int))=some (bif ag9 s (i+k) (n-k) then .inr () else .inl false):=by
 intro m;induction m with
 | zero=>grind [aai,ag9,S183_3step,S183_3]
 | succ m I=>
  intro s i n k M J H;have h:k<n:=by omega
  have o:F184 0 s ((i+k:Nat):Int) (128:Int) (191:Int)=some (betw s (i+k) 128 191):=afz s (i+k) 128 191;have e:n-k=(n-(k+1))+1:=by omega
  rw [e,ag9];cases z:betw s (i+k) 128 191 with
  | false=>
   rw [aai (y:=.inl false)]
   ·rfl
   ·rw [z] at o;simp only [S183_3step,S183_3,afq,h,decide_true,Af,wadd (i:=i) (k:=k) (by omega),o,Aa,Av]
  | true=>
   rw [aao (x1:=(s,(i:Int),(n:Int),((k+1:Nat):Int)))]
   ·rw [I s i n (k+1) (by omega) (by omega) H];rfl
   ·rw [z] at o;simp only [S183_3step,S183_3,afq,h,decide_true,Af,wadd (i:=i) (k:=k) (by omega),o,Aa,Ay,Ah,avp (i:=k) (by omega)]
theorem apa (s:Bo) (i n:Nat) (o:i+n<=9223372036854775800):F183 0 s (i:Int) (n:Int)=some (ag9 s i n):=by have h:=a6l n s i n 0 (by omega) (by omega) o;unfold F183;rw [aec];have e:((0:Nat):Int)=(0:Int):=rfl;rw [<-e,h];simp only [Nat.add_zero,Nat.sub_zero];cases ag9 s i n<;>rfl
theorem ajt {c:Bool}{p:Prop} [Decidable p] {o:Option Int}{x r:Nat} (h:c=true ↔ p) (z:o=some (r:Int)):(bif c then some (x:Int) else o)=some ((if p then x else r:Nat):Int):=by grind
theorem a5z (s:Bo) (i:Nat) (hi:i<s.length) (hs:s.length<=9223372036854775000):F159 0 s (i:Int)=some (sizeAt s i:Int):=by
 have e2:((s.getD i 0).toNat:Int)=(byteAt s i:Int):=rfl;have o:F183 0 s ((i+1:Nat):Int) (1:Int)=some (ag9 s (i+1) 1):=apa s (i+1) 1 (by omega);have z:F183 0 s ((i+1:Nat):Int) (2:Int)=some (ag9 s (i+1) 2):=apa s (i+1) 2 (by omega);have H:F183 0 s ((i+1:Nat):Int) (3:Int)=some (ag9 s (i+1) 3):=apa s (i+1) 3 (by omega);have I:F183 0 s ((i+2:Nat):Int) (1:Int)=some (ag9 s (i+2) 1):=apa s (i+2) 1 (by omega);have J:F183 0 s ((i+2:Nat):Int) (2:Int)=some (ag9 s (i+2) 2):=apa s (i+2) 2 (by omega);have O:F184 0 s ((i+1:Nat):Int) (160:Int) (191:Int)=some (betw s (i+1) 160 191):=afz s (i+1) 160 191;have Z:F184 0 s ((i+1:Nat):Int) (128:Int) (159:Int)=some (betw s (i+1) 128 159):=afz s (i+1) 128 159;have b2:F184 0 s ((i+1:Nat):Int) (144:Int) (191:Int)=some (betw s (i+1) 144 191):=afz s (i+1) 144 191;have b3:F184 0 s ((i+1:Nat):Int) (128:Int) (143:Int)=some (betw s (i+1) 128 143):=afz s (i+1) 128 143;unfold F159;simp only [aaa,hi,decide_true,Af,Ai,e2,avp (i:=i) (by omega),wadd2 (i:=i) (by omega),o,z,H,I,J,O,Z,b2,b3,gb,gand];unfold sizeAt acr;have nl:∀ k,(i+k<s.length)=(k<s.length-i):=λk=>propext ⟨λh=>by omega,λh=>by omega⟩;simp only [ag9,betw,Bool.and_true,Nat.add_assoc,Nat.reduceAdd,nl,<-Bool.decide_and];generalize byteAt s i=M at*;generalize byteAt s (i+1)=c1 at*;generalize byteAt s (i+2)=c2 at*;generalize byteAt s (i+3)=c3 at*;generalize s.length-i=n at*;clear o z H I J O Z b2 b3 nl e2;have hc:∀ (k:Nat),(((M:Int)==(k:Int))=true ↔ M=k):=λk=>by simp;omega
 have hd:∀ (k:Nat),(((M:Int) != (k:Int))=true ↔ M≠k):=λk=>by simp;omega
 have ci:∀ (a b:Bool),((bif a then b else false)=true ↔ a=true/\b=true):=λa b=>by cases a<;>simp
 refine ajt (x:=1) (by grind) ?_;refine ajt (x:=2) (by grind) ?_;refine ajt (x:=3) (by grind) ?_;refine ajt (x:=3) (by grind) ?_;refine ajt (x:=3) (by grind) ?_;refine ajt (x:=4) (by grind) ?_;refine ajt (x:=4) (by grind) ?_;grind
theorem aw7 (s:Bo) (O:s.length<=9223372036854775000):∀ (m i:Nat),s.length-i<=m->i<=s.length->aa3 (S119_3step 0) (s,(i:Int))=some (bif decide (ae0 s i=-1) then .inr () else .inl (ae0 s i)):=by
 intro m;induction m with
 | zero=>
  intro i M J;have:¬i<s.length:=by omega
  rw [aid,if_neg this];exact aai (by simp only [S119_3step,S119_3,afq,this,decide_false,Ah];rfl)
 | succ m Z=>
  intro i M J;by_cases h:i<s.length
  ·rw [aid,if_pos h];have H:=a5z s i h O;have o:=(asi (s.length-i) (byteAt s i) (byteAt s (i+1)) (byteAt s (i+2)) (byteAt s (i+3)) (by omega)).1;by_cases z:sizeAt s i=0
   ·rw [if_pos z];rw [show decide ((i:Int)=-1)=false from An (by omega)];exact aai (by simp only [S119_3step,S119_3,afq,h,decide_true,Af,H,z,Aa];rfl)
   ·rw [if_neg z];rw [aao (x1:=(s,((i+sizeAt s i:Nat):Int)))]
    ·have:sizeAt s i<=s.length-i:=o;exact Z _ (by omega) (by omega)
    ·have I:((sizeAt s i:Int)==(0:Int))=false:=by simp;omega
     have:sizeAt s i<=s.length-i:=o;simp only [S119_3step,S119_3,afq,h,decide_true,Af,H,Aa,I,Ah,wadd (i:=i) (k:=sizeAt s i) (by omega)]
  grind
theorem a5k (s:Bo) (o:s.length<=9223372036854775000):F119 0 s=some (bad s):=by have h:=aw7 s o s.length 0 (by omega) (by omega);unfold F119;rw [aec,show (0:Int)=((0:Nat):Int) from rfl,h];grind [bad,ae0,sumE]
theorem aoz (s:Bo) (h:s.length<=9223372036854775000):F67 0 s=some (valid s):=by unfold F67;rw [a5k s h];rfl
theorem az8 (s:Bo):F177 0 s ([239,191,189]:Bo)=some (decide ((s.length:Int)>=3)&&(s.take 3==([239,191,189]:Bo))):=by
 unfold F177 F195;have e:((([239,191,189]:Bo).length:Nat):Int)=(3:Int):=rfl;simp only [e];by_cases h:(3:Int)<=(s.length:Int)
 ·have o:decide ((0:Int)<=0/\(0:Int)<=3/\(3:Int)<=(s.length:Int))=true:=by simp;omega
  simp only [o,imp,ge_iff_le,h,decide_true,Af,Aa,Bool.true_and];rfl
 ·simp only [imp,ge_iff_le,h,decide_false,Ah,Av,atg,Af,Aa,Bool.false_and]
theorem azf (s:Bo) (i:Nat) (M:i<s.length):F137 0 s (i:Int) ((aan s i).1:Int)=some (decide (sizeAt s i=0)):=by
 unfold F137;have z:decide ((0:Int)<=(i:Int)/\(i:Int)<=(s.length:Int)/\(s.length:Int)<=(s.length:Int))=true:=by simp;omega
 have H:=bb9 s i (by omega);have o:=ag5 s i M;have O:=(anv (s.length-i) (byteAt s i) (byteAt s (i+1)) (byteAt s (i+2)) (byteAt s (i+3))).1;by_cases I:(aan s i).1=65533
 ·have h:(((aan s i).1:Int)==(65533:Int))=true:=by simp;omega
  simp only [h,z,imp,Af,Ai,az8,H,Aa];rw [o];by_cases J:2<s.length-i/\byteAt s i=239/\byteAt s (i+1)=191/\byteAt s (i+2)=189
  ·simp only [J,and_self,decide_true,Ay,not_true_eq_false,and_false,Bb];have:(aan s i).2≠0:=by grind [aan]
   simp [this]
  grind
 ·have h:(((aan s i).1:Int)==(65533:Int))=false:=by simp;omega
  simp only [h,imp,Af,Ah,Av,Aa];rw [o,if_neg (by simp [I])];have:(aan s i).2≠0:=by grind [aan]
  simp [this]
theorem a7k (s:Bo):∀ (m i:Nat),s.length-i<=m->i<=s.length->∃ y,aa3 (S234_3step 0) (s,(),s,(i:Int))=some y/\(ae0 s i=-1->∃ z,y=.inr z)/\(ae0 s i≠-1->∃ z,y=.inl (ae0 s i,z)):=by
 intro m;induction m with
 | zero=>
  intro i hm Z;have o:¬i<s.length:=by omega
  rw [aid,if_neg o];refine ⟨_,aai (y:=.inr (s,(i:Int))) ?_,λ_=>⟨_,rfl⟩,λh=>absurd rfl h⟩;simp only [S234_3step,S234_3,Ai,o,decide_false,Ah]
 | succ m ih=>
  intro i hm Z;by_cases o:i<s.length
  ·rw [aid,if_pos o];have J:=azf s i o;have M:=ahp s i;have h4:=ag5 s i o;have I:=(asi (s.length-i) (byteAt s i) (byteAt s (i+1)) (byteAt s (i+2)) (byteAt s (i+3)) (by omega)).1;by_cases H:sizeAt s i=0
   ·rw [if_pos H];refine ⟨.inl ((i:Int),s,((i+(aan s i).2:Nat):Int)),aai ?_,λh=>by omega,λ_=>⟨_,rfl⟩⟩;simp only [S234_3step,S234_3,Ai,o,decide_true,Af,M,J,H,Aa]
   ·rw [if_neg H];have O:sizeAt s i=(aan s i).2:=by
     grind
    rw [aao (x1:=(s,(),s,((i+sizeAt s i:Nat):Int)))]
    ·have:sizeAt s i<=s.length-i:=I;exact ih _ (by omega) (by omega)
    ·have hz:decide (sizeAt s i=0)=false:=An H;rw [hz] at J;simp only [S234_3step,S234_3,Ai,o,decide_true,Af,M,J,Ah,Aa,O]
  grind
theorem bad_eq (s:Bo):F234 0 s=some (bad s):=by
 obtain ⟨y,h,H,I⟩:=a7k s s.length 0 (by omega) (by omega);unfold F234;rw [aec,h];unfold bad;by_cases o:ae0 s 0=-1
 ·obtain ⟨z,rfl⟩:=H o;rw [o];rfl
 ·obtain ⟨z,rfl⟩:=I o;rfl
theorem baw (s:Bo):F221 0 s=some (valid s):=by unfold F221;rw [bad_eq s];rfl
end Go.Ab
