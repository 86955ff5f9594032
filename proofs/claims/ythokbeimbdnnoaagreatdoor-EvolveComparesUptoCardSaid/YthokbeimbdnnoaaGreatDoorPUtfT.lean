/- UTF-8: what the printed functions compute. -/
import Derived.Test.YthokbeimbdnnoaaGreatDoorAbLawEk
set_option linter.unusedVariables false
set_option linter.unusedSimpArgs false
set_option linter.unnecessarySimpa false
namespace Go.Ab
open Go
theorem wadd {i k:Nat} (h:i+k<=9223372036854775807):IntKind.wrap .i64 ((i:Int)+(k:Int))=((i+k:Nat):Int):=by rw [<-Int.natCast_add];exact aa9 h
theorem arz {i:Nat} (h:i+1<=9223372036854775807):IntKind.wrap .i64 ((i:Int)+(1:Int))=((i+1:Nat):Int):=wadd (k:=1) h
theorem wadd2 {i:Nat} (h:i+2<=9223372036854775807):IntKind.wrap .i64 ((i:Int)+(2:Int))=((i+2:Nat):Int):=wadd (k:=2) h
theorem gb {h:Type} (b c:Bool) (k:Bool->Option h):((bif b then some c else some false).bind k)=k (b&&c):=by cases b<;>rfl
theorem gand (b c:Bool):(bif b then (b&&c) else false)=(b&&c):=by cases b<;>rfl
theorem aqb {h:Type} (b:Bool) (x:h):(bif b then x else x)=x:=by cases b<;>rfl
theorem adp (a b:Nat):decide ((a:Int)<(b:Int))=decide (a<b):=by simp
def betw (s:Bq) (i o h:Nat):Bool:=decide (i<s.length/\o<=byteAt s i/\byteAt s i<=h)
theorem ae4 (s:Bq) (i o z:Nat):F172 0 s (i:Int) (o:Int) (z:Int)=some (betw s i o z):=by
 have H:((s.getD i 0).toNat:Int)=(byteAt s i:Int):=rfl;by_cases h:i<s.length
 ·simp only [F172,adp,aab,h,decide_true,Af,imp,Aj,H,betw,true_and,ge_iff_le,Int.ofNat_le,Bool.decide_and];cases decide (o<=byteAt s i)<;>rfl
 ·simp only [F172,adp,aab,h,decide_false,Ah,Af,imp,Az,betw,false_and]
def af8 (s:Bq):Nat->Nat->Bool
 | _,0=>true
 | i,n+1=>betw s i 128 191&&af8 s (i+1) n
theorem az9:∀ (m:Nat) (s:Bq) (i n k:Nat),n-k=m->k<=n->i+n<=9223372036854775800->aba (S171_3step 0) (s,(i:Int),(n:Int),(k:Int))=some (bif af8 s (i+k) (n-k) then .inr () else .inl false):=by
 intro m;induction m with
 | zero=>
  intro s i n k M J I;have z:k=n:=by omega
  subst z;rw [aai (y:=.inr ())]
  ·simp [af8]
  ·simp [S171_3step,S171_3]
 | succ m O=>
  intro s i n k M J I;have h:k<n:=by omega
  have o:F172 0 s ((i+k:Nat):Int) (128:Int) (191:Int)=some (betw s (i+k) 128 191):=ae4 s (i+k) 128 191;have e:n-k=(n-(k+1))+1:=by omega
  rw [e,af8];cases H:betw s (i+k) 128 191 with
  | false=>
   rw [aai (y:=.inl false)]
   ·rfl
   ·rw [H] at o;simp only [S171_3step,S171_3,adp,h,decide_true,Af,wadd (i:=i) (k:=k) (by omega),o,Ae,Az]
  | true=>
   rw [aat (x1:=(s,(i:Int),(n:Int),((k+1:Nat):Int)))]
   ·rw [O s i n (k+1) (by omega) (by omega) I];rfl
   ·rw [H] at o;simp only [S171_3step,S171_3,adp,h,decide_true,Af,wadd (i:=i) (k:=k) (by omega),o,Ae,A3,Ah,arz (i:=k) (by omega)]
theorem ams (s:Bq) (i n:Nat) (o:i+n<=9223372036854775800):F171 0 s (i:Int) (n:Int)=some (af8 s i n):=by have h:=az9 n s i n 0 (by omega) (by omega) o;unfold F171;rw [adw];have e:((0:Nat):Int)=(0:Int):=rfl;rw [<-e,h];simp only [Nat.add_zero,Nat.sub_zero];cases af8 s i n<;>rfl
theorem aha {c:Bool}{p:Prop} [Decidable p] {o:Option Int}{x r:Nat} (h:c=true ↔ p) (H:o=some (r:Int)):(bif c then some (x:Int) else o)=some ((if p then x else r:Nat):Int):=by
 by_cases z:p
 ·rw [h.2 z];simp [z]
 ·have:c=false:=by cases c with | false=>rfl | true=>exact absurd (h.1 rfl) z
  rw [this];simp [z,H]
theorem azy (s:Bq) (i:Nat) (hi:i<s.length) (hs:s.length<=9223372036854775000):F109 0 s (i:Int)=some (sizeAt s i:Int):=by
 have e2:((s.getD i 0).toNat:Int)=(byteAt s i:Int):=rfl;have H:F171 0 s ((i+1:Nat):Int) (1:Int)=some (af8 s (i+1) 1):=ams s (i+1) 1 (by omega);have I:F171 0 s ((i+1:Nat):Int) (2:Int)=some (af8 s (i+1) 2):=ams s (i+1) 2 (by omega);have J:F171 0 s ((i+1:Nat):Int) (3:Int)=some (af8 s (i+1) 3):=ams s (i+1) 3 (by omega);have M:F171 0 s ((i+2:Nat):Int) (1:Int)=some (af8 s (i+2) 1):=ams s (i+2) 1 (by omega);have O:F171 0 s ((i+2:Nat):Int) (2:Int)=some (af8 s (i+2) 2):=ams s (i+2) 2 (by omega);have b0:F172 0 s ((i+1:Nat):Int) (160:Int) (191:Int)=some (betw s (i+1) 160 191):=ae4 s (i+1) 160 191;have b1:F172 0 s ((i+1:Nat):Int) (128:Int) (159:Int)=some (betw s (i+1) 128 159):=ae4 s (i+1) 128 159;have b2:F172 0 s ((i+1:Nat):Int) (144:Int) (191:Int)=some (betw s (i+1) 144 191):=ae4 s (i+1) 144 191;have b3:F172 0 s ((i+1:Nat):Int) (128:Int) (143:Int)=some (betw s (i+1) 128 143):=ae4 s (i+1) 128 143;unfold F109;simp only [aab,hi,decide_true,Af,Aj,e2,arz (i:=i) (by omega),wadd2 (i:=i) (by omega),H,I,J,M,O,b0,b1,b2,b3,gb,gand];unfold sizeAt acl;have nl:∀ k,(i+k<s.length)=(k<s.length-i):=λk=>propext ⟨λh=>by omega,λh=>by omega⟩;simp only [af8,betw,Bool.and_true,Nat.add_assoc,Nat.reduceAdd,nl,<-Bool.decide_and];generalize byteAt s i=o at*;generalize byteAt s (i+1)=c1 at*;generalize byteAt s (i+2)=c2 at*;generalize byteAt s (i+3)=c3 at*;generalize s.length-i=n at*;clear H I J M O b0 b1 b2 b3 nl e2;have Z:∀ (k:Nat),(((o:Int)==(k:Int))=true ↔ o=k):=λk=>by simp;omega
 have hd:∀ (k:Nat),(((o:Int) != (k:Int))=true ↔ o≠k):=λk=>by simp;omega
 have z:∀ (a b:Bool),((bif a then b else false)=true ↔ a=true/\b=true):=λa b=>by cases a<;>simp
 refine aha (x:=1) (by simp only [A6];omega) ?_;refine aha (x:=2) (by simp only [z,Ai,A6];omega) ?_;refine aha (x:=3) (by have:=Z 224;simp only [z,Ai,A6];rw [show ((o:Int)==224)=((o:Int)==((224:Nat):Int)) from rfl,this];omega) ?_;refine aha (x:=3) (by have:=Z 237;simp only [z,Ai,A6];rw [show ((o:Int)==237)=((o:Int)==((237:Nat):Int)) from rfl,this];omega) ?_;refine aha (x:=3) (by have:=hd 237;simp only [z,Ai,A6];rw [show ((o:Int) != 237)=((o:Int) != ((237:Nat):Int)) from rfl,this];omega) ?_;refine aha (x:=4) (by have:=Z 240;simp only [z,Ai,A6];rw [show ((o:Int)==240)=((o:Int)==((240:Nat):Int)) from rfl,this];omega) ?_;refine aha (x:=4) (by simp only [z,Ai,A6];omega) ?_;refine aha (x:=4) (by have:=Z 244;simp only [z,Ai,A6];rw [show ((o:Int)==244)=((o:Int)==((244:Nat):Int)) from rfl,this];omega) ?_;rfl
theorem as9 (s:Bq) (O:s.length<=9223372036854775000):∀ (m i:Nat),s.length-i<=m->i<=s.length->aba (S211_3step 0) (s,(i:Int))=some (bif decide (aed s i=-1) then .inr () else .inl (aed s i)):=by
 intro m;induction m with
 | zero=>
  intro i M J;have:¬i<s.length:=by omega
  rw [ae3,if_neg this];exact aai (by simp only [S211_3step,S211_3,adp,this,decide_false,Ah];rfl)
 | succ m Z=>
  intro i M J;by_cases h:i<s.length
  ·rw [ae3,if_pos h];have H:=azy s i h O;have o:=(apn (s.length-i) (byteAt s i) (byteAt s (i+1)) (byteAt s (i+2)) (byteAt s (i+3)) (by omega)).1;by_cases z:sizeAt s i=0
   ·rw [if_pos z];rw [show decide ((i:Int)=-1)=false from An (by omega)];exact aai (by simp only [S211_3step,S211_3,adp,h,decide_true,Af,H,z,Ae];rfl)
   ·rw [if_neg z];rw [aat (x1:=(s,((i+sizeAt s i:Nat):Int)))]
    ·have:sizeAt s i<=s.length-i:=o;exact Z _ (by omega) (by omega)
    ·have I:((sizeAt s i:Int)==(0:Int))=false:=by simp;omega
     have:sizeAt s i<=s.length-i:=o;simp only [S211_3step,S211_3,adp,h,decide_true,Af,H,Ae,I,Ah,wadd (i:=i) (k:=sizeAt s i) (by omega)]
  ·rw [ae3,if_neg h];exact aai (by simp only [S211_3step,S211_3,adp,h,decide_false,Ah];rfl)
theorem azj (s:Bq) (z:s.length<=9223372036854775000):F211 0 s=some (bad s):=by
 have h:=as9 s z s.length 0 (by omega) (by omega);unfold F211;rw [adw,show (0:Int)=((0:Nat):Int) from rfl,h];unfold bad;by_cases o:aed s 0=-1
 ·simp [o,sumE]
 ·simp [o,sumE]
theorem amm (s:Bq) (h:s.length<=9223372036854775000):F150 0 s=some (valid s):=by unfold F150;rw [azj s h];rfl
theorem avy (s:Bq):F227 0 s ([239,191,189]:Bq)=some (decide ((s.length:Int)>=3)&&(s.take 3==([239,191,189]:Bq))):=by
 unfold F227 F257;have e:((([239,191,189]:Bq).length:Nat):Int)=(3:Int):=rfl;simp only [e];by_cases h:(3:Int)<=(s.length:Int)
 ·have o:decide ((0:Int)<=0/\(0:Int)<=3/\(3:Int)<=(s.length:Int))=true:=by simp;omega
  simp only [o,imp,ge_iff_le,h,decide_true,Af,Ae,Bool.true_and];rfl
 ·simp only [imp,ge_iff_le,h,decide_false,Ah,Az,aqb,Af,Ae,Bool.false_and]
theorem au4 (s:Bq) (i:Nat) (M:i<s.length):F166 0 s (i:Int) ((aap s i).1:Int)=some (decide (sizeAt s i=0)):=by
 unfold F166;have z:decide ((0:Int)<=(i:Int)/\(i:Int)<=(s.length:Int)/\(s.length:Int)<=(s.length:Int))=true:=by simp;omega
 have H:=a5n s i (by omega);have o:=af4 s i M;have O:=(alm (s.length-i) (byteAt s i) (byteAt s (i+1)) (byteAt s (i+2)) (byteAt s (i+3))).1;by_cases I:(aap s i).1=65533
 ·have h:(((aap s i).1:Int)==(65533:Int))=true:=by simp;omega
  simp only [h,z,imp,Af,Aj,avy,H,Ae];rw [o];by_cases J:2<s.length-i/\byteAt s i=239/\byteAt s (i+1)=191/\byteAt s (i+2)=189
  ·simp only [J,and_self,decide_true,A3,not_true_eq_false,and_false,A8];have:(aap s i).2≠0:=by grind [aap]
   simp [this]
  grind
 ·have h:(((aap s i).1:Int)==(65533:Int))=false:=by simp;omega
  simp only [h,imp,Af,Ah,Az,Ae];rw [o,if_neg (by simp [I])];have:(aap s i).2≠0:=by grind [aap]
  simp [this]
theorem a0v (s:Bq):∀ (m i:Nat),s.length-i<=m->i<=s.length->∃ y,aba (S318_3step 0) (s,(),s,(i:Int))=some y/\(aed s i=-1->∃ z,y=.inr z)/\(aed s i≠-1->∃ z,y=.inl (aed s i,z)):=by
 intro m;induction m with
 | zero=>
  intro i hm Z;have o:¬i<s.length:=by omega
  rw [ae3,if_neg o];refine ⟨_,aai (y:=.inr (s,(i:Int))) ?_,λ_=>⟨_,rfl⟩,λh=>absurd rfl h⟩;simp only [S318_3step,S318_3,Aj,o,decide_false,Ah]
 | succ m ih=>
  intro i hm Z;by_cases o:i<s.length
  ·rw [ae3,if_pos o];have J:=au4 s i o;have M:=agt s i;have h4:=af4 s i o;have I:=(apn (s.length-i) (byteAt s i) (byteAt s (i+1)) (byteAt s (i+2)) (byteAt s (i+3)) (by omega)).1;by_cases H:sizeAt s i=0
   ·rw [if_pos H];refine ⟨.inl ((i:Int),s,((i+(aap s i).2:Nat):Int)),aai ?_,λh=>by omega,λ_=>⟨_,rfl⟩⟩;simp only [S318_3step,S318_3,Aj,o,decide_true,Af,M,J,H,Ae]
   ·rw [if_neg H];have O:sizeAt s i=(aap s i).2:=by
     grind
    rw [aat (x1:=(s,(),s,((i+sizeAt s i:Nat):Int)))]
    ·have:sizeAt s i<=s.length-i:=I;exact ih _ (by omega) (by omega)
    ·have hz:decide (sizeAt s i=0)=false:=An H;rw [hz] at J;simp only [S318_3step,S318_3,Aj,o,decide_true,Af,M,J,Ah,Ae,O]
  grind
theorem bad_eq (s:Bq):F318 0 s=some (bad s):=by
 obtain ⟨y,h,H,I⟩:=a0v s s.length 0 (by omega) (by omega);unfold F318;rw [adw,h];unfold bad;by_cases o:aed s 0=-1
 ·obtain ⟨z,rfl⟩:=H o;rw [o];rfl
 ·obtain ⟨z,rfl⟩:=I o;rfl
theorem a3o (s:Bq):F306 0 s=some (valid s):=by unfold F306;rw [bad_eq s];rfl
end Go.Ab
