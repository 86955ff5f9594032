/- strings.Count, strings.Contains (at a substr of one byte), strings.IndexByte. -/
import Derived.Test.YtcpkdafleaddlaaGreatDoorAbFmtP
set_option linter.unusedVariables false
set_option linter.unusedSimpArgs false
set_option linter.unnecessarySimpa false
namespace Go.Ab
open Go Go.Proofs Go.Shelf Go.RowKit Go.Sort Go.Lib
theorem a9h {P:Program}{D:Dom}{ow:Own}{μ:Nat->Nat}{st:List BX}{w:World}{s t:SV}{vals:Array Value} (pre:Pre P D ow μ st w [s,t] vals):∃ u v,vals=#[u,v]/\SRep P D w ow μ st s u/\SRep P D w ow μ st t v:=by
 have:=pre.size
 match vals,this,pre with
 | ⟨[a,b]⟩,_,pre=>exact ⟨a,b,rfl,pre.arg 0 _ a rfl rfl,pre.arg 1 _ b rfl rfl⟩
def aob (fuel:Nat) (s sep:List UInt8):Option Int:=match sep with | [c]=>some ((Lib.countByte s c:Nat):Int) | _=>none
def a0n (fuel:Nat):CallE:={ f:=60,A:=⟨2,[],[.str,.str]⟩,R:=⟨1,[],[.int .i64]⟩,F:=fun x=>aob fuel x.1 x.2,dflt:=0 }
theorem a4f (fuel:Nat):(a0n fuel).Ok Tryz.prog:=by
 intro x y h
 obtain ⟨s,sep⟩:=x
 have h:aob fuel s sep=some y:=h
 obtain ⟨c,rfl⟩:∃ c,sep=[c]:=by
  match sep,h with
  | [],h=>cases h
  | [c],_=>exact ⟨c,rfl⟩
  | _::_::_,h=>cases h
 ·cases h
  refine ac3 (aav Tryz.func60 (by kernel_rfl) (by kernel_rfl)) (fun D ow μ w vals pre=>?_)
  obtain ⟨u,v,rfl,h1,h2⟩:=a9h pre
  cases h1;cases h2
  have hd:(⟨s.toArray⟩:ByteArray).data.toList=s:=by simp
  refine (Tryz.strings_Count_one ⟨s.toArray⟩ c w).mono ?_
  rintro e w' ⟨rfl,rfl⟩
  rw [hd]
  exact ⟨_,rfl,fun ow' μ' st'=>.int,⟨rfl,rfl,rfl,Nat.le_refl _,fun b hb=>rfl⟩⟩
def ams (fuel:Nat) (s sep:List UInt8):Option Bool:=match sep with | [c]=>some (decide (0<=Lib.indexByte s c)) | _=>none
def aol (fuel:Nat):CallE:={ f:=246,A:=⟨2,[],[.str,.str]⟩,R:=⟨1,[],[.bool]⟩,F:=fun x=>ams fuel x.1 x.2,dflt:=false }
theorem ath (fuel:Nat):(aol fuel).Ok Tryz.prog:=by
 intro x y h
 obtain ⟨s,sep⟩:=x
 have h:ams fuel s sep=some y:=h
 obtain ⟨c,rfl⟩:∃ c,sep=[c]:=by
  match sep,h with
  | [],h=>cases h
  | [c],_=>exact ⟨c,rfl⟩
  | _::_::_,h=>cases h
 ·cases h
  refine ac3 (aav Tryz.func246 (by kernel_rfl) (by kernel_rfl)) (fun D ow μ w vals pre=>?_)
  obtain ⟨u,v,rfl,h1,h2⟩:=a9h pre
  cases h1;cases h2
  have hd:(⟨s.toArray⟩:ByteArray).data.toList=s:=by simp
  refine (Tryz.strings_Contains_one ⟨s.toArray⟩ c w).mono ?_
  rintro e w' ⟨rfl,rfl⟩
  rw [hd]
  exact ⟨_,rfl,fun ow' μ' st'=>.bool,⟨rfl,rfl,rfl,Nat.le_refl _,fun b hb=>rfl⟩⟩
def an0 (fuel:Nat) (s:List UInt8) (c:Int):Option Int:=some (Lib.indexByte s c.toNat.toUInt8)
def al7 (fuel:Nat):CallE:={ f:=353,A:=⟨2,[],[.str,.int .u8]⟩,R:=⟨1,[],[.int .i64]⟩,F:=fun x=>an0 fuel x.1 x.2,dflt:=0 }
theorem atd (fuel:Nat):(al7 fuel).Ok Tryz.prog:=by
 intro x y h
 obtain ⟨s,c⟩:=x
 have h:some (Lib.indexByte s (show Int from c).toNat.toUInt8)=some y:=h
 cases h
 refine ac3 (aav Tryz.func353 (by kernel_rfl) (by kernel_rfl)) (fun D ow μ w vals pre=>?_)
 obtain ⟨u,v,rfl,h1,h2⟩:=a9h pre
 cases h1;cases h2
 have hd:(⟨s.toArray⟩:ByteArray).data.toList=s:=by simp
 refine (Tryz.strings_IndexByte ⟨s.toArray⟩ c w).mono ?_
 rintro e w' ⟨rfl,rfl⟩
 rw [hd]
 exact ⟨_,rfl,fun ow' μ' st'=>.int,⟨rfl,rfl,rfl,Nat.le_refl _,fun b hb=>rfl⟩⟩
end Go.Ab
