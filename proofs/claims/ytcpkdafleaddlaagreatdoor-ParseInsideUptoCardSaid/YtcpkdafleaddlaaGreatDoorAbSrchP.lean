/- strings.Count, strings.Contains (at a substr of one byte), strings.IndexByte. -/
import Derived.Test.YtcpkdafleaddlaaGreatDoorAbFmtP
set_option linter.unusedVariables false
set_option linter.unusedSimpArgs false
set_option linter.unnecessarySimpa false
namespace Go.Ab
open Go Go.Proofs Go.Shelf Go.RowKit Go.Sort Go.Lib
theorem a88 {P:Program}{D:Dom}{ow:Own}{μ:Nat->Nat}{st:List BX}{w:World}{s t:SV}{vals:Array Value} (pre:Pre P D ow μ st w [s,t] vals):∃ u v,vals=#[u,v]/\SRep P D w ow μ st s u/\SRep P D w ow μ st t v:=by
 have:=pre.size
 match vals,this,pre with
 | ⟨[a,b]⟩,_,pre=>exact ⟨a,b,rfl,pre.arg 0 _ a rfl rfl,pre.arg 1 _ b rfl rfl⟩
def atl (fuel:Nat) (s sep:List UInt8):Option Int:=match sep with | [c]=>some ((Lib.countByte s c:Nat):Int) | _=>none
def a0y (fuel:Nat):CallE:={ f:=60,A:=⟨2,[],[.str,.str]⟩,R:=⟨1,[],[.int .i64]⟩,F:=fun x=>atl fuel x.1 x.2,dflt:=0 }
theorem a6l (fuel:Nat):(a0y fuel).Ok Tryz.prog:=by
 intro x y h
 obtain ⟨s,sep⟩:=x
 have h:atl fuel s sep=some y:=h
 obtain ⟨c,rfl⟩:∃ c,sep=[c]:=by
  match sep,h with
  | [],h=>cases h
  | [c],_=>exact ⟨c,rfl⟩
  | _::_::_,h=>cases h
 ·cases h
  refine adc (aay Tryz.func60 (by kernel_rfl) (by kernel_rfl)) (fun D ow μ w vals pre=>?_)
  obtain ⟨u,v,rfl,h1,h2⟩:=a88 pre
  cases h1;cases h2
  have hd:(⟨s.toArray⟩:ByteArray).data.toList=s:=by simp
  refine (Tryz.strings_Count_one ⟨s.toArray⟩ c w).mono ?_
  rintro e w' ⟨rfl,rfl⟩
  rw [hd]
  exact ⟨_,rfl,fun ow' μ' st'=>.int,⟨rfl,rfl,rfl,Nat.le_refl _,fun b hb=>rfl⟩⟩
def am5 (fuel:Nat) (s sep:List UInt8):Option Bool:=match sep with | [c]=>some (decide (0<=Lib.indexByte s c)) | _=>none
def aoo (fuel:Nat):CallE:={ f:=246,A:=⟨2,[],[.str,.str]⟩,R:=⟨1,[],[.bool]⟩,F:=fun x=>am5 fuel x.1 x.2,dflt:=false }
theorem avv (fuel:Nat):(aoo fuel).Ok Tryz.prog:=by
 intro x y h
 obtain ⟨s,sep⟩:=x
 have h:am5 fuel s sep=some y:=h
 obtain ⟨c,rfl⟩:∃ c,sep=[c]:=by
  match sep,h with
  | [],h=>cases h
  | [c],_=>exact ⟨c,rfl⟩
  | _::_::_,h=>cases h
 ·cases h
  refine adc (aay Tryz.func246 (by kernel_rfl) (by kernel_rfl)) (fun D ow μ w vals pre=>?_)
  obtain ⟨u,v,rfl,h1,h2⟩:=a88 pre
  cases h1;cases h2
  have hd:(⟨s.toArray⟩:ByteArray).data.toList=s:=by simp
  refine (Tryz.strings_Contains_one ⟨s.toArray⟩ c w).mono ?_
  rintro e w' ⟨rfl,rfl⟩
  rw [hd]
  exact ⟨_,rfl,fun ow' μ' st'=>.bool,⟨rfl,rfl,rfl,Nat.le_refl _,fun b hb=>rfl⟩⟩
def api (fuel:Nat) (s:List UInt8) (c:Int):Option Int:=some (Lib.indexByte s c.toNat.toUInt8)
def amm (fuel:Nat):CallE:={ f:=353,A:=⟨2,[],[.str,.int .u8]⟩,R:=⟨1,[],[.int .i64]⟩,F:=fun x=>api fuel x.1 x.2,dflt:=0 }
theorem arz (fuel:Nat):(amm fuel).Ok Tryz.prog:=by
 intro x y h
 obtain ⟨s,c⟩:=x
 have h:some (Lib.indexByte s (show Int from c).toNat.toUInt8)=some y:=h
 cases h
 refine adc (aay Tryz.func353 (by kernel_rfl) (by kernel_rfl)) (fun D ow μ w vals pre=>?_)
 obtain ⟨u,v,rfl,h1,h2⟩:=a88 pre
 cases h1;cases h2
 have hd:(⟨s.toArray⟩:ByteArray).data.toList=s:=by simp
 refine (Tryz.strings_IndexByte ⟨s.toArray⟩ c w).mono ?_
 rintro e w' ⟨rfl,rfl⟩
 rw [hd]
 exact ⟨_,rfl,fun ow' μ' st'=>.int,⟨rfl,rfl,rfl,Nat.le_refl _,fun b hb=>rfl⟩⟩
end Go.Ab
