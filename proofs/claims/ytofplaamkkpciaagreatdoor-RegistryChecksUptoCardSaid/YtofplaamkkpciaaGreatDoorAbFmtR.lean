/- math/bits.TrailingZeros of 16, by hand. -/
import Derived.Test.YtofplaamkkpciaaGreatDoorAbFmt0R
set_option linter.unusedVariables false
set_option linter.unusedSimpArgs false
set_option linter.unnecessarySimpa false
namespace Go.Ab
open Go Go.Proofs Go.Shelf Go.RowKit Go.Lib
theorem tabDB{ow:Own}{w:World}(h:Tabs Tryz.prog ow w):w.cell? ⟨7,15,none⟩=some (.int .u8 4):=by
 have t:Tryz.prog.globalNamed "math/bits.deBruijn64tab"=some 7:=by kernel_rfl
 obtain⟨_,cs,T,z,o,m⟩:=h _ (List.mem_cons_of_mem _ (List.mem_cons_self ..)) _ t;have m:cs[15]?=some (.int .u8 4):=m;simp[World.cell?,o,m]
set_option maxHeartbeats 1000000 in
theorem bjb(w:World)(h:w.cell? ⟨7,15,none⟩=some (.int .u8 4)):Calls Tryz.prog 473 #[.int .u64 16] w λe w'=>e=.returned (.int .i64 4)/\w'=w:=by
 have key:IntKind.u64.wrap (bits BinOp.and IntKind.u64 16 (IntKind.u64.wrap (-16))*285870213051353865) / 288230376151711744=15:=by kernel_rfl
 go_enter Tryz.func473,Tryz.ntmps473;go_wp2_with (simp only[key]);go_ret;exact⟨rfl,rfl⟩
set_option maxHeartbeats 1000000 in
theorem tz_16(w:World)(h:w.cell? ⟨7,15,none⟩=some (.int .u8 4)):Calls Tryz.prog 471 #[.int .u64 16] w λe w'=>e=.returned (.int .i64 4)/\w'=w:=by have m:∀args w,(callFunc 473 args).run Tryz.prog w=.ok (.enter 473 args) w:=aa1 Tryz.func473 (by kernel_rfl) (by kernel_rfl);go_enter Tryz.func471,Tryz.ntmps471;go_wp2_with (go_at_fn 473;refine(bjb w h).mono ?_;rintro e w' ⟨rfl,o⟩;rw[o]);go_ret;exact⟨rfl,rfl⟩
def Ltz(m:Nat)(x:Int):Option Int:=bif decide (x=16)then some 4 else none
def Ltzc(m:Nat):CallE:={ f:=471,A:=⟨1,[],[.int .u64]⟩,R:=⟨1,[],[.int .i64]⟩,F:=λx=>Ltz m x,dflt:=0 }
theorem Ltzok(m:Nat):(Ltzc m).Ok Tryz.prog:=by intro x y h;have h:Ltz m x=some y:=h;unfold Ltz at h;obtain⟨z,rfl⟩:=aaz h;have I:(show Int from x)=16:=of_decide_eq_true z;have t:x=(show(Ltzc m).A.ty from(16:Int)):=I;subst t;refine ae6 (aa1 Tryz.func471 (by kernel_rfl) (by kernel_rfl)) (λD ow μ w G o=>?_);obtain⟨v,rfl,H⟩:=blz o;cases H;refine(tz_16 w (tabDB o.tabs)).mono ?_;rintro e w' ⟨rfl,rfl⟩;exact⟨_,rfl,λJ M st'=>.int,⟨rfl,rfl,rfl,Nat.le_refl _,λb z=>rfl⟩⟩
end Go.Ab
