/- math/bits.TrailingZeros of 16, by hand. -/
import Derived.Test.YthokbeimbdnnoaaGreatDoorAbFmt0E
set_option linter.unusedVariables false
set_option linter.unusedSimpArgs false
set_option linter.unnecessarySimpa false
namespace Go.Ab
open Go Go.Proofs Go.Shelf Go.RowKit Go.Lib
theorem tabDB {ow:Own}{w:World} (h:Tabs Tryz.prog ow w):w.cell? ⟨3,15,none⟩=some (.int .u8 4):=by
 have hg:Tryz.prog.globalNamed "math/bits.deBruijn64tab"=some 3:=by kernel_rfl
 obtain ⟨_,cs,T,fr,h1,h2⟩:=h _ (List.mem_cons_of_mem _ (List.mem_cons_self ..)) _ hg
 have h2:cs[15]?=some (.int .u8 4):=h2
 simp [World.cell?,h1,h2]
set_option maxHeartbeats 1000000 in
theorem a4a (w:World) (h:w.cell? ⟨3,15,none⟩=some (.int .u8 4)):Calls Tryz.prog 289 #[.int .u64 16] w fun e w'=>e=.returned (.int .i64 4)/\w'=w:=by
 have key:IntKind.u64.wrap (bits BinOp.and IntKind.u64 16 (IntKind.u64.wrap (-16))*285870213051353865) / 288230376151711744=15:=by kernel_rfl
 go_enter Tryz.func289,Tryz.ntmps289
 go_wp2_with (simp only [key])
 go_ret
 exact ⟨rfl,rfl⟩
set_option maxHeartbeats 1000000 in
theorem tz_16 (w:World) (h:w.cell? ⟨3,15,none⟩=some (.int .u8 4)):Calls Tryz.prog 256 #[.int .u64 16] w fun e w'=>e=.returned (.int .i64 4)/\w'=w:=by
 have e64:∀ args w,(callFunc 289 args).run Tryz.prog w=.ok (.enter 289 args) w:=aa2 Tryz.func289 (by kernel_rfl) (by kernel_rfl)
 go_enter Tryz.func256,Tryz.ntmps256
 go_wp2_with (go_at_fn 289;refine (a4a w h).mono ?_;rintro e w' ⟨rfl,hw⟩;rw [hw])
 go_ret
 exact ⟨rfl,rfl⟩
def Ltz (fuel:Nat) (x:Int):Option Int:=bif decide (x=16) then some 4 else none
def Ltzc (fuel:Nat):CallE:={ f:=256,A:=⟨1,[],[.int .u64]⟩,R:=⟨1,[],[.int .i64]⟩,F:=fun x=>Ltz fuel x,dflt:=0 }
theorem Ltzok (fuel:Nat):(Ltzc fuel).Ok Tryz.prog:=by
 intro x y h
 have h:Ltz fuel x=some y:=h
 unfold Ltz at h
 obtain ⟨hb,rfl⟩:=aaw h
 have hx:(show Int from x)=16:=of_decide_eq_true hb
 have hx2:x=(show (Ltzc fuel).A.ty from (16:Int)):=hx
 subst hx2
 refine adw (aa2 Tryz.func256 (by kernel_rfl) (by kernel_rfl)) (fun D ow μ w vals pre=>?_)
 obtain ⟨v,rfl,h1⟩:=a5z pre
 cases h1
 refine (tz_16 w (tabDB pre.tabs)).mono ?_
 rintro e w' ⟨rfl,rfl⟩
 exact ⟨_,rfl,fun ow' μ' st'=>.int,⟨rfl,rfl,rfl,Nat.le_refl _,fun b hb=>rfl⟩⟩
end Go.Ab
