/- strconv.FormatUint at base 10: the decimal numeral. -/
import Derived.Test.YtcpkdafleaddlaaGreatDoorAbLibP
import Derived.Lib.ItoaMem
import Derived.BigCall
import Derived.BigGuard
set_option linter.unusedVariables false
set_option linter.unusedSimpArgs false
set_option linter.unnecessarySimpa false
namespace Go.Ab
open Go Go.Proofs Go.Shelf Go.RowKit Go.Sort Go.Lib
theorem awu (w:World) (T:TypeId) (d:Nat) (z:d<=24):Holds (λ(b:UInt8)=>Value.int .u8 (b.toNat:Int)) (w.alloc (.cells zeros24 T)) w.heap.size 0 (Array.replicate d (0:UInt8)):=λj m=>by
 have o:j<d:=by simpa using m
 refine ⟨?_,World.frozen?_alloc_new _ _ _ _⟩;rw [World.cell?_alloc_new,zeros24_at _ (by omega),getElem!_pos _ j m];simp
theorem fin0 (w:World) (o:Obj) (m:Array UInt8) (k:Nat):∃ z,(putRow (λ(b:UInt8)=>Value.int .u8 (b.toNat:Int)) (w.alloc o) w.heap.size 0 m).drewN k=grow (w.drewN k) z:=by rw [alloc_eq_grow];obtain ⟨d,_,e⟩:=putRow_grow_new (λ(b:UInt8)=>Value.int .u8 (b.toNat:Int)) w #[o] w.heap.size 0 m (Nat.le_refl _);exact ⟨d,by rw [e];rfl⟩
set_option maxHeartbeats 6400000 in
set_option maxRecDepth 100000 in
theorem auf (u:Nat) (d:u<18446744073709551616) (w:World) (M:Lib.TabIs Tryz.prog w "internal/strconv.uint64pow10" .u64 Lib.pow10Tab):
 Calls Tryz.prog 241 #[.int .u64 u,.int .i64 10] w λe w'=>e=.returned (.string ⟨(Lib.decDigits u).toArray⟩)/\∃ k Z,w'=grow (w.drewN k) Z:=by
 have ab:∀ args w,(callFunc 312 args).run Tryz.prog w=.ok (.enter 312 args) w:=aa5 Tryz.func312 (by kernel_rfl) (by kernel_rfl)
 have ad:∀ args w,(callFunc 313 args).run Tryz.prog w=.ok (.enter 313 args) w:=aa5 Tryz.func313 (by kernel_rfl) (by kernel_rfl)
 have ae:∀ args w,(callFunc 314 args).run Tryz.prog w=.ok (.enter 314 args) w:=aa5 Tryz.func314 (by kernel_rfl) (by kernel_rfl)
 by_cases hi:u<100
 ·go_enter Tryz.func241,Tryz.ntmps241;go_wp2_with (go_at_fn 312;refine (Tryz.internal_strconv_small u hi _).mono ?_;rintro e w' ⟨rfl,rfl⟩);go_ret;exact ⟨rfl,0,#[],by simp [World.drewN_zero]⟩
 ·have O:1<=u:=by omega
  have Y:Lib.nDigits u<=20:=by have:=Lib.numDigits_eq u O d;split at this<;>omega
  have af:Lib.nDigits u<=23:=by omega
  have H:Tryz.prog.arrayLen 252=24:=by simp [Program.arrayLen,Tryz.underlying252]
  have aa:∀ W,(Instr.sliceAt 252 (.pointer (some ⟨w.heap.size,0,none⟩)) none (some (.int .i64 (Lib.nDigits u:Int))) none).run Tryz.prog W=.ok (.slice (some ⟨w.heap.size,0,none⟩) (Lib.nDigits u) 24) W:=λW=>by rw [run_sliceAt_array_h W 252 ⟨w.heap.size,0,none⟩ (by simp [Program.arrayLen,Program.elem,Tryz.underlying252]) .i64 (Lib.nDigits u:Int) (by omega) (by rw [H];omega)];go_simp
  have o:Holds (λ(b:UInt8)=>Value.int .u8 (b.toNat:Int)) (w.alloc (.cells Lib.zeros24 252)) w.heap.size 0 (Array.replicate (Lib.nDigits u) 0):=awu w 252 _ (by omega);have m:=Tryz.internal_strconv_formatBase10 w.heap.size 0 24 u (Array.replicate (Lib.nDigits u) 0) (w.alloc (.cells Lib.zeros24 252)) o (by rw [Array.size_replicate];exact Lib.lt_pow_nDigits u) d (by rw [Array.size_replicate];omega);rw [Array.size_replicate] at m;have U:=Lib.hid o;clear o H;go_enter Tryz.func241,Tryz.ntmps241;go_wp2_with (first
   | (go_at_fn 313;refine (Tryz.internal_strconv_numDigits u O d _ (Lib.tabIs_alloc M _)).mono ?_;rintro e w' ⟨rfl,rfl⟩))
  go_at_fn 314;refine m.mono ?_;rintro e w' ⟨rfl,k,v',z,rfl,V⟩;have ag:(convert 104 9 (.slice (some ⟨w.heap.size,0,none⟩) (Lib.nDigits u) 24)).run Tryz.prog ((putRow (λ(b:UInt8)=>Value.int .u8 (b.toNat:Int)) (w.alloc (.cells Lib.zeros24 252)) w.heap.size 0 z).drewN k)=.ok (.string ⟨(Lib.decDigits u).toArray⟩) ((putRow (λ(b:UInt8)=>Value.int .u8 (b.toNat:Int)) (w.alloc (.cells Lib.zeros24 252)) w.heap.size 0 z).drewN k):=by
   have h:=run_convert_bytes_back (P:=Tryz.prog) ((putRow (λ(b:UInt8)=>Value.int .u8 (b.toNat:Int)) (w.alloc (.cells Lib.zeros24 252)) w.heap.size 0 z).drewN k) 104 9 5 ⟨w.heap.size,0,none⟩ 24 (Lib.decDigits u) Tryz.underlying104 Tryz.underlying5 Tryz.underlying9 (λj X=>by rw [Lib.row_is_numeral V j X,Lib.add_plain,World.cell?_drewN];exact cell?_putRow (λ(b:UInt8)=>Value.int .u8 (b.toNat:Int)) _ w.heap.size 0 _ z U.out (by rw [V.size,Array.size_replicate]) j (by rw [V.size];rw [Lib.decDigits_length] at X;exact X))
   rw [Lib.decDigits_length] at h;exact h
  go_wp2;go_ret;obtain ⟨Z,eo⟩:=fin0 w (.cells Lib.zeros24 252) z k;exact ⟨rfl,k,Z,eo⟩
def az1 (d:Nat) (u base:Int):Option Bq:=bif decide (0<=u)&&decide (u<=18446744073709551615)&&decide (base=10) then some (decB u.toNat) else none
def bdr (d:Nat):CallE:={ f:=241,A:=⟨2,[],[.int .u64,.int .i64]⟩,R:=⟨1,[],[.str]⟩,F:=λx=>az1 d x.1 x.2,dflt:=[] }
theorem bb1 (d:Nat):(bdr d).Ok Tryz.prog:=by intro x y h;obtain ⟨n,base⟩:=x;have h:az1 d n base=some y:=h;unfold az1 at h;obtain ⟨z,rfl⟩:=abm h;simp only [Ai,Ay] at z;obtain ⟨⟨M,o⟩,rfl⟩:=z;obtain ⟨u,rfl⟩:∃ u:Nat,n=(u:Int):=⟨n.toNat,(Int.toNat_of_nonneg M).symm⟩;refine adp (aa5 Tryz.func241 (by kernel_rfl) (by kernel_rfl)) (λD ow μ w H m=>?_);obtain ⟨v,b,rfl,o,O⟩:=bdj m;cases o;cases O;refine (auf u (by omega) w (tab10 m.tabs)).mono ?_;rintro e w' ⟨rfl,k,U,rfl⟩;refine ⟨_,rfl,λV W st'=>?_,az5 w k U⟩;rw [Ag,<-ahs (by omega)];exact .str
end Go.Ab
