/- strings.Count, strings.Contains (at a substr of one byte), strings.IndexByte. -/
import Derived.Test.YtcpkdafleaddlaaGreatDoorAbFmtP
set_option linter.unusedVariables false
set_option linter.unusedSimpArgs false
set_option linter.unnecessarySimpa false
namespace Go.Ab
open Go Go.Proofs Go.Shelf Go.RowKit Go.Sort Go.Lib
theorem bdc {P:Program}{D:Dom}{ow:Own}{μ:Nat->Nat}{st:List BX}{w:World}{s t:SV}{m:Array Value} (d:Pre P D ow μ st w [s,t] m):∃ u v,m=#[u,v]/\SRep P D w ow μ st s u/\SRep P D w ow μ st t v:=by
 have:=d.size;match m,this,d with
 | ⟨[a,b]⟩,_,d=>exact ⟨a,b,rfl,d.arg 0 _ a rfl rfl,d.arg 1 _ b rfl rfl⟩
def ati (m:Nat) (s d:Bq):Option Int:=match d with | [c]=>some ((Lib.countByte s c:Nat):Int) | _=>none
def a2m (d:Nat):CallE:={ f:=60,A:=⟨2,[],[.str,.str]⟩,R:=⟨1,[],[.int .i64]⟩,F:=λx=>ati d x.1 x.2,dflt:=0 }
theorem a7y (d:Nat):(a2m d).Ok Tryz.prog:=by
 intro x y h;obtain ⟨s,m⟩:=x;have h:ati d s m=some y:=h;obtain ⟨c,rfl⟩:∃ c,m=[c]:=by
  match m,h with
  | [],h=>cases h
  | [c],_=>exact ⟨c,rfl⟩
  | _::_::_,h=>cases h
 ·cases h;refine adp (aa5 Tryz.func60 (by kernel_rfl) (by kernel_rfl)) (λD ow μ w z o=>?_);obtain ⟨u,v,rfl,H,M⟩:=bdc o;cases H;cases M;have O:(⟨s.toArray⟩:ByteArray).data.toList=s:=by simp
  refine (Tryz.strings_Count_one ⟨s.toArray⟩ c w).mono ?_;rintro e w' ⟨rfl,rfl⟩;rw [O];exact ⟨_,rfl,λU V st'=>.int,⟨rfl,rfl,rfl,Nat.le_refl _,λb W=>rfl⟩⟩
def ane (m:Nat) (s d:Bq):Option Bool:=match d with | [c]=>some (decide (0<=Lib.indexByte s c)) | _=>none
def apw (d:Nat):CallE:={ f:=246,A:=⟨2,[],[.str,.str]⟩,R:=⟨1,[],[.bool]⟩,F:=λx=>ane d x.1 x.2,dflt:=false }
theorem avw (d:Nat):(apw d).Ok Tryz.prog:=by
 intro x y h;obtain ⟨s,m⟩:=x;have h:ane d s m=some y:=h;obtain ⟨c,rfl⟩:∃ c,m=[c]:=by
  match m,h with
  | [],h=>cases h
  | [c],_=>exact ⟨c,rfl⟩
  | _::_::_,h=>cases h
 ·cases h;refine adp (aa5 Tryz.func246 (by kernel_rfl) (by kernel_rfl)) (λD ow μ w z o=>?_);obtain ⟨u,v,rfl,H,M⟩:=bdc o;cases H;cases M;have O:(⟨s.toArray⟩:ByteArray).data.toList=s:=by simp
  refine (Tryz.strings_Contains_one ⟨s.toArray⟩ c w).mono ?_;rintro e w' ⟨rfl,rfl⟩;rw [O];exact ⟨_,rfl,λU V st'=>.bool,⟨rfl,rfl,rfl,Nat.le_refl _,λb W=>rfl⟩⟩
def apx (d:Nat) (s:Bq) (c:Int):Option Int:=some (Lib.indexByte s c.toNat.toUInt8)
def anf (d:Nat):CallE:={ f:=353,A:=⟨2,[],[.str,.int .u8]⟩,R:=⟨1,[],[.int .i64]⟩,F:=λx=>apx d x.1 x.2,dflt:=0 }
theorem atj (d:Nat):(anf d).Ok Tryz.prog:=by
 intro x y h;obtain ⟨s,c⟩:=x;have h:some (Lib.indexByte s (show Int from c).toNat.toUInt8)=some y:=h;cases h;refine adp (aa5 Tryz.func353 (by kernel_rfl) (by kernel_rfl)) (λD ow μ w o m=>?_);obtain ⟨u,v,rfl,z,H⟩:=bdc m;cases z;cases H;have M:(⟨s.toArray⟩:ByteArray).data.toList=s:=by simp
 refine (Tryz.strings_IndexByte ⟨s.toArray⟩ c w).mono ?_;rintro e w' ⟨rfl,rfl⟩;rw [M];exact ⟨_,rfl,λO U st'=>.int,⟨rfl,rfl,rfl,Nat.le_refl _,λb V=>rfl⟩⟩
end Go.Ab
