/- The numbers of tokens that a row's reading gives are of their type. -/
import Derived.Test.YtcpkdafleaddlaaGreatDoorAbEndP
set_option linter.unusedVariables false
set_option linter.unusedSimpArgs false
set_option linter.unnecessarySimpa false
namespace Go.Ab
open Go Go.Proofs Go.Proofs.YtcpkdafleaddlaaGreatDoor
theorem tokens_num {n:Nat} {v:PV} (h:goodPV Tryz.prog n 37 v):∀ x,x∈v.asList→-9223372036854775808≤(x.fld 2).asInt∧(x.fld 2).asInt≤9223372036854775807:=by
 intro x hx
 obtain ⟨xs,m,rfl,hf⟩:=good_slice h Tryz.underlying37
 have g:=hf x hx
 obtain ⟨vs,m2,rfl,hl,hg⟩:=good_struct g Tryz.underlying72
 match vs,hl with
 | [a0,a1,a2,a3],_=>
  obtain ⟨b,rfl,hw⟩:=good_int (hg 2 a2 _ rfl rfl) Tryz.underlying3
  have hw:=bounds_i64 hw
  exact ⟨hw.1,hw.2⟩
end Go.Ab
