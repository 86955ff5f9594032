/- math/bits.TrailingZeros of 16, by hand. -/
import Derived.Test.YtcpkdafleaddlaaGreatDoorAbFmt1P
set_option linter.unusedVariables false
set_option linter.unusedSimpArgs false
set_option linter.unnecessarySimpa false
namespace Go.Ab
open Go Go.Proofs Go.Shelf Go.RowKit Go.Lib
theorem tabDB {ow:Own}{w:World} (h:Tabs Tryz.prog ow w):w.cell? ⟨5,15,none⟩=some (.int .u8 4):=by
 have o:Tryz.prog.globalNamed "math/bits.deBruijn64tab"=some 5:=by kernel_rfl
 obtain ⟨_,cs,T,z,m,d⟩:=h _ (List.mem_cons_of_mem _ (List.mem_cons_self ..)) _ o;have d:cs[15]?=some (.int .u8 4):=d;simp [World.cell?,m,d]
set_option maxHeartbeats 1000000 in
theorem bdg (w:World) (h:w.cell? ⟨5,15,none⟩=some (.int .u8 4)):Calls Tryz.prog 377 #[.int .u64 16] w λe w'=>e=.returned (.int .i64 4)/\w'=w:=by
 have key:IntKind.u64.wrap (bits BinOp.and IntKind.u64 16 (IntKind.u64.wrap (-16))*285870213051353865) / 288230376151711744=15:=by kernel_rfl
 go_enter Tryz.func377,Tryz.ntmps377;go_wp2_with (simp only [key]);go_ret;exact ⟨rfl,rfl⟩
set_option maxHeartbeats 1000000 in
theorem tz_16 (w:World) (h:w.cell? ⟨5,15,none⟩=some (.int .u8 4)):Calls Tryz.prog 363 #[.int .u64 16] w λe w'=>e=.returned (.int .i64 4)/\w'=w:=by have d:∀ args w,(callFunc 377 args).run Tryz.prog w=.ok (.enter 377 args) w:=aa5 Tryz.func377 (by kernel_rfl) (by kernel_rfl);go_enter Tryz.func363,Tryz.ntmps363;go_wp2_with (go_at_fn 377;refine (bdg w h).mono ?_;rintro e w' ⟨rfl,m⟩;rw [m]);go_ret;exact ⟨rfl,rfl⟩
def Ltz (d:Nat) (x:Int):Option Int:=bif decide (x=16) then some 4 else none
def Ltzc (d:Nat):CallE:={ f:=363,A:=⟨1,[],[.int .u64]⟩,R:=⟨1,[],[.int .i64]⟩,F:=λx=>Ltz d x,dflt:=0 }
theorem Ltzok (d:Nat):(Ltzc d).Ok Tryz.prog:=by intro x y h;have h:Ltz d x=some y:=h;unfold Ltz at h;obtain ⟨z,rfl⟩:=abm h;have O:(show Int from x)=16:=of_decide_eq_true z;have o:x=(show (Ltzc d).A.ty from (16:Int)):=O;subst o;refine adp (aa5 Tryz.func363 (by kernel_rfl) (by kernel_rfl)) (λD ow μ w H m=>?_);obtain ⟨v,rfl,M⟩:=bdi m;cases M;refine (tz_16 w (tabDB m.tabs)).mono ?_;rintro e w' ⟨rfl,rfl⟩;exact ⟨_,rfl,λU V st'=>.int,⟨rfl,rfl,rfl,Nat.le_refl _,λb z=>rfl⟩⟩
end Go.Ab
