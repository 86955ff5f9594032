/- math/bits.TrailingZeros of 16, by hand. -/
import Derived.Test.YticdffgjgfmicaaGreatDoorAbFmt0K
set_option linter.unusedVariables false
set_option linter.unusedSimpArgs false
set_option linter.unnecessarySimpa false
namespace Go.Ab
open Go Go.Proofs Go.Shelf Go.RowKit Go.Lib
theorem tabDB{ow:Own}{w:World}(h:Tabs Tryz.prog ow w):w.cell? ⟨5,15,none⟩=some (.int .u8 4):=by
 have m:Tryz.prog.globalNamed "math/bits.deBruijn64tab"=some 5:=by kernel_rfl
 obtain⟨_,cs,T,o,t,z⟩:=h _ (List.mem_cons_of_mem _ (List.mem_cons_self ..)) _ m;grind[World.cell?]
set_option maxHeartbeats 1000000 in
theorem bh5(w:World)(h:w.cell? ⟨5,15,none⟩=some (.int .u8 4)):Calls Tryz.prog 437 #[.int .u64 16] w λe w'=>e=.returned (.int .i64 4)/\w'=w:=by
 have key:IntKind.u64.wrap (bits BinOp.and IntKind.u64 16 (IntKind.u64.wrap (-16))*285870213051353865) / 288230376151711744=15:=by kernel_rfl
 go_enter Tryz.func437,Tryz.ntmps437;go_wp2_with (simp only[key]);go_ret;exact⟨rfl,rfl⟩
set_option maxHeartbeats 1000000 in
theorem tz_16(w:World)(h:w.cell? ⟨5,15,none⟩=some (.int .u8 4)):Calls Tryz.prog 435 #[.int .u64 16] w λe w'=>e=.returned (.int .i64 4)/\w'=w:=by have m:∀args w,(callFunc 437 args).run Tryz.prog w=.ok (.enter 437 args) w:=abc Tryz.func437 (by kernel_rfl) (by kernel_rfl);go_enter Tryz.func435,Tryz.ntmps435;go_wp2_with (go_at_fn 437;refine(bh5 w h).mono ?_;rintro e w' ⟨rfl,o⟩;rw[o]);go_ret;exact⟨rfl,rfl⟩
def Ltz(m:Nat)(x:Int):Option Int:=bif decide (x=16)then some 4 else none
def Ltzc(m:Nat):CallE:={ f:=435,A:=⟨1,[],[.int .u64]⟩,R:=⟨1,[],[.int .i64]⟩,F:=λx=>Ltz m x,dflt:=0 }
theorem Ltzok(m:Nat):(Ltzc m).Ok Tryz.prog:=by intro x y h;have h:Ltz m x=some y:=h;unfold Ltz at h;obtain⟨z,rfl⟩:=aaz h;have I:(show Int from x)=16:=of_decide_eq_true z;have t:x=(show(Ltzc m).A.ty from(16:Int)):=I;subst t;refine agr (abc Tryz.func435 (by kernel_rfl) (by kernel_rfl)) (λD ow μ w G o=>?_);obtain⟨v,rfl,H⟩:=bkj o;cases H;refine(tz_16 w (tabDB o.tabs)).mono ?_;rintro e w' ⟨rfl,rfl⟩;exact⟨_,rfl,λJ M st'=>.int,⟨rfl,rfl,rfl,Nat.le_refl _,λb z=>rfl⟩⟩
end Go.Ab
