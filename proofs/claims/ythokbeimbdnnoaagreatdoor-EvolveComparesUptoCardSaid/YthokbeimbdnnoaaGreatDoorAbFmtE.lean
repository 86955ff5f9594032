/- math/bits.TrailingZeros of 16, by hand. -/
import Derived.Test.YthokbeimbdnnoaaGreatDoorAbFmt0E
set_option linter.unusedVariables false
set_option linter.unusedSimpArgs false
set_option linter.unnecessarySimpa false
namespace Go.Ab
open Go Go.Proofs Go.Shelf Go.RowKit Go.Lib
theorem tabDB {ow:Own}{w:World} (h:Tabs Tryz.prog ow w):w.cell? ⟨3,15,none⟩=some (.int .u8 4):=by
 have H:Tryz.prog.globalNamed "math/bits.deBruijn64tab"=some 3:=by kernel_rfl
 obtain ⟨_,cs,T,I,z,o⟩:=h _ (List.mem_cons_of_mem _ (List.mem_cons_self ..)) _ H;have o:cs[15]?=some (.int .u8 4):=o;simp [World.cell?,z,o]
set_option maxHeartbeats 1000000 in
theorem a6s (w:World) (h:w.cell? ⟨3,15,none⟩=some (.int .u8 4)):Calls Tryz.prog 289 #[.int .u64 16] w λe w'=>e=.returned (.int .i64 4)/\w'=w:=by
 have key:IntKind.u64.wrap (bits BinOp.and IntKind.u64 16 (IntKind.u64.wrap (-16))*285870213051353865) / 288230376151711744=15:=by kernel_rfl
 go_enter Tryz.func289,Tryz.ntmps289;go_wp2_with (simp only [key]);go_ret;exact ⟨rfl,rfl⟩
set_option maxHeartbeats 1000000 in
theorem tz_16 (w:World) (h:w.cell? ⟨3,15,none⟩=some (.int .u8 4)):Calls Tryz.prog 256 #[.int .u64 16] w λe w'=>e=.returned (.int .i64 4)/\w'=w:=by have o:∀ args w,(callFunc 289 args).run Tryz.prog w=.ok (.enter 289 args) w:=aa7 Tryz.func289 (by kernel_rfl) (by kernel_rfl);go_enter Tryz.func256,Tryz.ntmps256;go_wp2_with (go_at_fn 289;refine (a6s w h).mono ?_;rintro e w' ⟨rfl,z⟩;rw [z]);go_ret;exact ⟨rfl,rfl⟩
def Ltz (h:Nat) (x:Int):Option Int:=bif decide (x=16) then some 4 else none
def Ltzc (h:Nat):CallE:={ f:=256,A:=⟨1,[],[.int .u64]⟩,R:=⟨1,[],[.int .i64]⟩,F:=λx=>Ltz h x,dflt:=0 }
theorem Ltzok (o:Nat):(Ltzc o).Ok Tryz.prog:=by intro x y h;have h:Ltz o x=some y:=h;unfold Ltz at h;obtain ⟨I,rfl⟩:=aa0 h;have O:(show Int from x)=16:=of_decide_eq_true I;have H:x=(show (Ltzc o).A.ty from (16:Int)):=O;subst H;refine aea (aa7 Tryz.func256 (by kernel_rfl) (by kernel_rfl)) (λD ow μ w J z=>?_);obtain ⟨v,rfl,M⟩:=a8k z;cases M;refine (tz_16 w (tabDB z.tabs)).mono ?_;rintro e w' ⟨rfl,rfl⟩;exact ⟨_,rfl,λZ aa st'=>.int,⟨rfl,rfl,rfl,Nat.le_refl _,λb I=>rfl⟩⟩
end Go.Ab
