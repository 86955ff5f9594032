/- math/bits.TrailingZeros of 16, by hand. -/
import Derived.Test.YtodichgnoiaanaaGreatDoorAbFmt0E
set_option linter.unusedVariables false
set_option linter.unusedSimpArgs false
set_option linter.unnecessarySimpa false
namespace Go.Ab
open Go Go.Proofs Go.Shelf Go.RowKit Go.Lib
theorem tabDB {ow:Own}{w:World} (h:Tabs Tryz.prog ow w):w.cell? ⟨3,15,none⟩=some (.int .u8 4):=by
 have H:Tryz.prog.globalNamed "math/bits.deBruijn64tab"=some 3:=by kernel_rfl
 obtain ⟨_,cs,T,I,z,o⟩:=h _ (List.mem_cons_of_mem _ (List.mem_cons_self ..)) _ H;have o:cs[15]?=some (.int .u8 4):=o;simp [World.cell?,z,o]
set_option maxHeartbeats 1000000 in
theorem bc4 (w:World) (h:w.cell? ⟨3,15,none⟩=some (.int .u8 4)):Calls Tryz.prog 207 #[.int .u64 16] w λe w'=>e=.returned (.int .i64 4)/\w'=w:=by
 have key:IntKind.u64.wrap (bits BinOp.and IntKind.u64 16 (IntKind.u64.wrap (-16))*285870213051353865) / 288230376151711744=15:=by kernel_rfl
 go_enter Tryz.func207,Tryz.ntmps207;go_wp2_with (simp only [key]);go_ret;exact ⟨rfl,rfl⟩
set_option maxHeartbeats 1000000 in
theorem tz_16 (w:World) (h:w.cell? ⟨3,15,none⟩=some (.int .u8 4)):Calls Tryz.prog 194 #[.int .u64 16] w λe w'=>e=.returned (.int .i64 4)/\w'=w:=by have o:∀ args w,(callFunc 207 args).run Tryz.prog w=.ok (.enter 207 args) w:=aa4 Tryz.func207 (by kernel_rfl) (by kernel_rfl);go_enter Tryz.func194,Tryz.ntmps194;go_wp2_with (go_at_fn 207;refine (bc4 w h).mono ?_;rintro e w' ⟨rfl,z⟩;rw [z]);go_ret;exact ⟨rfl,rfl⟩
def Ltz (h:Nat) (x:Int):Option Int:=bif decide (x=16) then some 4 else none
def Ltzc (h:Nat):CallE:={ f:=194,A:=⟨1,[],[.int .u64]⟩,R:=⟨1,[],[.int .i64]⟩,F:=λx=>Ltz h x,dflt:=0 }
theorem Ltzok (o:Nat):(Ltzc o).Ok Tryz.prog:=by intro x y h;have h:Ltz o x=some y:=h;unfold Ltz at h;obtain ⟨I,rfl⟩:=aaz h;have O:(show Int from x)=16:=of_decide_eq_true I;have H:x=(show (Ltzc o).A.ty from (16:Int)):=O;subst H;refine aev (aa4 Tryz.func194 (by kernel_rfl) (by kernel_rfl)) (λD ow μ w J z=>?_);obtain ⟨v,rfl,M⟩:=bev z;cases M;refine (tz_16 w (tabDB z.tabs)).mono ?_;rintro e w' ⟨rfl,rfl⟩;exact ⟨_,rfl,λZ aa st'=>.int,⟨rfl,rfl,rfl,Nat.le_refl _,λb I=>rfl⟩⟩
end Go.Ab
