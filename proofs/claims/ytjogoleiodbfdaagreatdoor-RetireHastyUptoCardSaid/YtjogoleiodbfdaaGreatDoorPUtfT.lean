/- UTF-8: what the printed functions compute. -/
import Derived.Test.YtjogoleiodbfdaaGreatDoorAbLawEh
set_option linter.unusedVariables false
set_option linter.unusedSimpArgs false
set_option linter.unnecessarySimpa false
namespace Go.Ab
open Go
theorem wadd {i k:Nat} (h:i+k<=9223372036854775807):IntKind.wrap .i64 ((i:Int)+(k:Int))=((i+k:Nat):Int):=by rw [<-Int.natCast_add];exact abb h
theorem aof {i:Nat} (h:i+1<=9223372036854775807):IntKind.wrap .i64 ((i:Int)+(1:Int))=((i+1:Nat):Int):=wadd (k:=1) h
theorem wadd2 {i:Nat} (h:i+2<=9223372036854775807):IntKind.wrap .i64 ((i:Int)+(2:Int))=((i+2:Nat):Int):=wadd (k:=2) h
theorem gb {h:Type} (b c:Bool) (k:Bool->Option h):((bif b then some c else some false).bind k)=k (b&&c):=by cases b<;>rfl
theorem gand (b c:Bool):(bif b then (b&&c) else false)=(b&&c):=by cases b<;>rfl
theorem ard {h:Type} (b:Bool) (x:h):(bif b then x else x)=x:=by cases b<;>rfl
theorem ac0 (a b:Nat):decide ((a:Int)<(b:Int))=decide (a<b):=by simp
def betw (s:Bt) (i o h:Nat):Bool:=decide (i<s.length/\o<=byteAt s i/\byteAt s i<=h)
theorem afg (s:Bt) (i o H:Nat):F193 0 s (i:Int) (o:Int) (H:Int)=some (betw s i o H):=by
 have I:((s.getD i 0).toNat:Int)=(byteAt s i:Int):=rfl;by_cases h:i<s.length
 ·simp only [F193,ac0,aab,h,decide_true,Af,imp,Ai,I,betw,true_and,ge_iff_le,Int.ofNat_le,Bool.decide_and];cases decide (o<=byteAt s i)<;>rfl
 ·simp only [F193,ac0,aab,h,decide_false,Ah,Af,imp,Ay,betw,false_and]
def ago (s:Bt):Nat->Nat->Bool
 | _,0=>true
 | i,n+1=>betw s i 128 191&&ago s (i+1) n
theorem a2l:∀ (m:Nat) (s:Bt) (i n k:Nat),n-k=m->k<=n->i+n<=9223372036854775800->aa9 (S192_3step 0) (s,(i:Int),(n:Int),(k:Int))=some (bif ago s (i+k) (n-k) then .inr () else .inl false):=by
 intro m;induction m with
 | zero=>
  intro s i n k O M J;have H:k=n:=by omega
  subst H;rw [aah (y:=.inr ())]
  ·simp [ago]
  ·simp [S192_3step,S192_3]
 | succ m Z=>
  intro s i n k O M J;have h:k<n:=by omega
  have o:F193 0 s ((i+k:Nat):Int) (128:Int) (191:Int)=some (betw s (i+k) 128 191):=afg s (i+k) 128 191;have e:n-k=(n-(k+1))+1:=by omega
  rw [e,ago];cases I:betw s (i+k) 128 191 with
  | false=>
   rw [aah (y:=.inl false)]
   ·rfl
   ·rw [I] at o;simp only [S192_3step,S192_3,ac0,h,decide_true,Af,wadd (i:=i) (k:=k) (by omega),o,Aa,Ay]
  | true=>
   rw [aaq (x1:=(s,(i:Int),(n:Int),((k+1:Nat):Int)))]
   ·rw [Z s i n (k+1) (by omega) (by omega) J];rfl
   ·rw [I] at o;simp only [S192_3step,S192_3,ac0,h,decide_true,Af,wadd (i:=i) (k:=k) (by omega),o,Aa,Az,Ah,aof (i:=k) (by omega)]
theorem anv (s:Bt) (i n:Nat) (o:i+n<=9223372036854775800):F192 0 s (i:Int) (n:Int)=some (ago s i n):=by have h:=a2l n s i n 0 (by omega) (by omega) o;unfold F192;rw [adq];have e:((0:Nat):Int)=(0:Int):=rfl;rw [<-e,h];simp only [Nat.add_zero,Nat.sub_zero];cases ago s i n<;>rfl
theorem ahr {c:Bool}{p:Prop} [Decidable p] {o:Option Int}{x r:Nat} (h:c=true ↔ p) (I:o=some (r:Int)):(bif c then some (x:Int) else o)=some ((if p then x else r:Nat):Int):=by
 by_cases H:p
 ·rw [h.2 H];simp [H]
 ·have:c=false:=by cases c with | false=>rfl | true=>exact absurd (h.1 rfl) H
  rw [this];simp [H,I]
theorem a2c (s:Bt) (i:Nat) (hi:i<s.length) (hs:s.length<=9223372036854775000):F174 0 s (i:Int)=some (sizeAt s i:Int):=by
 have e2:((s.getD i 0).toNat:Int)=(byteAt s i:Int):=rfl;have I:F192 0 s ((i+1:Nat):Int) (1:Int)=some (ago s (i+1) 1):=anv s (i+1) 1 (by omega);have J:F192 0 s ((i+1:Nat):Int) (2:Int)=some (ago s (i+1) 2):=anv s (i+1) 2 (by omega);have M:F192 0 s ((i+1:Nat):Int) (3:Int)=some (ago s (i+1) 3):=anv s (i+1) 3 (by omega);have O:F192 0 s ((i+2:Nat):Int) (1:Int)=some (ago s (i+2) 1):=anv s (i+2) 1 (by omega);have Z:F192 0 s ((i+2:Nat):Int) (2:Int)=some (ago s (i+2) 2):=anv s (i+2) 2 (by omega);have b0:F193 0 s ((i+1:Nat):Int) (160:Int) (191:Int)=some (betw s (i+1) 160 191):=afg s (i+1) 160 191;have b1:F193 0 s ((i+1:Nat):Int) (128:Int) (159:Int)=some (betw s (i+1) 128 159):=afg s (i+1) 128 159;have b2:F193 0 s ((i+1:Nat):Int) (144:Int) (191:Int)=some (betw s (i+1) 144 191):=afg s (i+1) 144 191;have b3:F193 0 s ((i+1:Nat):Int) (128:Int) (143:Int)=some (betw s (i+1) 128 143):=afg s (i+1) 128 143;unfold F174;simp only [aab,hi,decide_true,Af,Ai,e2,aof (i:=i) (by omega),wadd2 (i:=i) (by omega),I,J,M,O,Z,b0,b1,b2,b3,gb,gand];unfold sizeAt acp;have nl:∀ k,(i+k<s.length)=(k<s.length-i):=λk=>propext ⟨λh=>by omega,λh=>by omega⟩;simp only [ago,betw,Bool.and_true,Nat.add_assoc,Nat.reduceAdd,nl,<-Bool.decide_and];generalize byteAt s i=o at*;generalize byteAt s (i+1)=c1 at*;generalize byteAt s (i+2)=c2 at*;generalize byteAt s (i+3)=c3 at*;generalize s.length-i=n at*;clear I J M O Z b0 b1 b2 b3 nl e2;have hc:∀ (k:Nat),(((o:Int)==(k:Int))=true ↔ o=k):=λk=>by simp;omega
 have hd:∀ (k:Nat),(((o:Int) != (k:Int))=true ↔ o≠k):=λk=>by simp;omega
 have H:∀ (a b:Bool),((bif a then b else false)=true ↔ a=true/\b=true):=λa b=>by cases a<;>simp
 refine ahr (x:=1) (by simp only [A5];omega) ?_;refine ahr (x:=2) (by simp only [H,Aj,A5];omega) ?_;refine ahr (x:=3) (by have:=hc 224;simp only [H,Aj,A5];rw [show ((o:Int)==224)=((o:Int)==((224:Nat):Int)) from rfl,this];omega) ?_;refine ahr (x:=3) (by have:=hc 237;simp only [H,Aj,A5];rw [show ((o:Int)==237)=((o:Int)==((237:Nat):Int)) from rfl,this];omega) ?_;refine ahr (x:=3) (by have:=hd 237;simp only [H,Aj,A5];rw [show ((o:Int) != 237)=((o:Int) != ((237:Nat):Int)) from rfl,this];omega) ?_;refine ahr (x:=4) (by have:=hc 240;simp only [H,Aj,A5];rw [show ((o:Int)==240)=((o:Int)==((240:Nat):Int)) from rfl,this];omega) ?_;refine ahr (x:=4) (by simp only [H,Aj,A5];omega) ?_;refine ahr (x:=4) (by have:=hc 244;simp only [H,Aj,A5];rw [show ((o:Int)==244)=((o:Int)==((244:Nat):Int)) from rfl,this];omega) ?_;rfl
theorem aup (s:Bt) (Z:s.length<=9223372036854775000):∀ (m i:Nat),s.length-i<=m->i<=s.length->aa9 (S129_3step 0) (s,(i:Int))=some (bif decide (aen s i=-1) then .inr () else .inl (aen s i)):=by
 intro m;induction m with
 | zero=>
  intro i O M;have:¬i<s.length:=by omega
  rw [aff,if_neg this];exact aah (by simp only [S129_3step,S129_3,ac0,this,decide_false,Ah];rfl)
 | succ m ih=>
  intro i O M;by_cases h:i<s.length
  ·rw [aff,if_pos h];have I:=a2c s i h Z;have o:=(aqq (s.length-i) (byteAt s i) (byteAt s (i+1)) (byteAt s (i+2)) (byteAt s (i+3)) (by omega)).1;by_cases H:sizeAt s i=0
   ·rw [if_pos H];rw [show decide ((i:Int)=-1)=false from An (by omega)];exact aah (by simp only [S129_3step,S129_3,ac0,h,decide_true,Af,I,H,Aa];rfl)
   ·rw [if_neg H];rw [aaq (x1:=(s,((i+sizeAt s i:Nat):Int)))]
    ·have:sizeAt s i<=s.length-i:=o;exact ih _ (by omega) (by omega)
    ·have J:((sizeAt s i:Int)==(0:Int))=false:=by simp;omega
     have:sizeAt s i<=s.length-i:=o;simp only [S129_3step,S129_3,ac0,h,decide_true,Af,I,Aa,J,Ah,wadd (i:=i) (k:=sizeAt s i) (by omega)]
  ·rw [aff,if_neg h];exact aah (by simp only [S129_3step,S129_3,ac0,h,decide_false,Ah];rfl)
theorem a1n (s:Bt) (H:s.length<=9223372036854775000):F129 0 s=some (bad s):=by
 have h:=aup s H s.length 0 (by omega) (by omega);unfold F129;rw [adq,show (0:Int)=((0:Nat):Int) from rfl,h];unfold bad;by_cases o:aen s 0=-1
 ·simp [o,sumE]
 ·simp [o,sumE]
theorem ann (s:Bt) (h:s.length<=9223372036854775000):F93 0 s=some (valid s):=by unfold F93;rw [a1n s h];rfl
theorem axp (s:Bt):F244 0 s ([239,191,189]:Bt)=some (decide ((s.length:Int)>=3)&&(s.take 3==([239,191,189]:Bt))):=by
 unfold F244 F228;have e:((([239,191,189]:Bt).length:Nat):Int)=(3:Int):=rfl;simp only [e];by_cases h:(3:Int)<=(s.length:Int)
 ·have o:decide ((0:Int)<=0/\(0:Int)<=3/\(3:Int)<=(s.length:Int))=true:=by simp;omega
  simp only [o,imp,ge_iff_le,h,decide_true,Af,Aa,Bool.true_and];rfl
 ·simp only [imp,ge_iff_le,h,decide_false,Ah,Ay,ard,Af,Aa,Bool.false_and]
theorem awx (s:Bt) (i:Nat) (O:i<s.length):F233 0 s (i:Int) ((aap s i).1:Int)=some (decide (sizeAt s i=0)):=by
 unfold F233;have H:decide ((0:Int)<=(i:Int)/\(i:Int)<=(s.length:Int)/\(s.length:Int)<=(s.length:Int))=true:=by simp;omega
 have I:=a8i s i (by omega);have o:=agj s i O;have Z:=(amh (s.length-i) (byteAt s i) (byteAt s (i+1)) (byteAt s (i+2)) (byteAt s (i+3))).1;by_cases J:(aap s i).1=65533
 ·have h:(((aap s i).1:Int)==(65533:Int))=true:=by simp;omega
  simp only [h,H,imp,Af,Ai,axp,I,Aa];rw [o];by_cases M:2<s.length-i/\byteAt s i=239/\byteAt s (i+1)=191/\byteAt s (i+2)=189
  ·simp only [M,and_self,decide_true,Az,not_true_eq_false,and_false,A8];have:(aap s i).2≠0:=by grind [aap]
   simp [this]
  grind
 ·have h:(((aap s i).1:Int)==(65533:Int))=false:=by simp;omega
  simp only [h,imp,Af,Ah,Ay,Aa];rw [o,if_neg (by simp [J])];have:(aap s i).2≠0:=by grind [aap]
  simp [this]
theorem a3j (s:Bt):∀ (m i:Nat),s.length-i<=m->i<=s.length->∃ y,aa9 (S231_3step 0) (s,(),s,(i:Int))=some y/\(aen s i=-1->∃ z,y=.inr z)/\(aen s i≠-1->∃ z,y=.inl (aen s i,z)):=by
 intro m;induction m with
 | zero=>
  intro i hm Z;have o:¬i<s.length:=by omega
  rw [aff,if_neg o];refine ⟨_,aah (y:=.inr (s,(i:Int))) ?_,λ_=>⟨_,rfl⟩,λh=>absurd rfl h⟩;simp only [S231_3step,S231_3,Ai,o,decide_false,Ah]
 | succ m ih=>
  intro i hm Z;by_cases o:i<s.length
  ·rw [aff,if_pos o];have J:=awx s i o;have M:=ag3 s i;have h4:=agj s i o;have I:=(aqq (s.length-i) (byteAt s i) (byteAt s (i+1)) (byteAt s (i+2)) (byteAt s (i+3)) (by omega)).1;by_cases H:sizeAt s i=0
   ·rw [if_pos H];refine ⟨.inl ((i:Int),s,((i+(aap s i).2:Nat):Int)),aah ?_,λh=>by omega,λ_=>⟨_,rfl⟩⟩;simp only [S231_3step,S231_3,Ai,o,decide_true,Af,M,J,H,Aa]
   ·rw [if_neg H];have O:sizeAt s i=(aap s i).2:=by
     grind
    rw [aaq (x1:=(s,(),s,((i+sizeAt s i:Nat):Int)))]
    ·have:sizeAt s i<=s.length-i:=I;exact ih _ (by omega) (by omega)
    ·have hz:decide (sizeAt s i=0)=false:=An H;rw [hz] at J;simp only [S231_3step,S231_3,Ai,o,decide_true,Af,M,J,Ah,Aa,O]
  grind
theorem bad_eq (s:Bt):F231 0 s=some (bad s):=by
 obtain ⟨y,h,H,I⟩:=a3j s s.length 0 (by omega) (by omega);unfold F231;rw [adq,h];unfold bad;by_cases o:aen s 0=-1
 ·obtain ⟨z,rfl⟩:=H o;rw [o];rfl
 ·obtain ⟨z,rfl⟩:=I o;rfl
theorem a6k (s:Bt):F217 0 s=some (valid s):=by unfold F217;rw [bad_eq s];rfl
end Go.Ab
