/- strconv.FormatUint at base 10: the decimal numeral. -/
import Derived.Test.YtcpkdafleaddlaaGreatDoorAbLibP
import Derived.Lib.ItoaMem
import Derived.BigCall
import Derived.BigGuard
set_option linter.unusedVariables false
set_option linter.unusedSimpArgs false
set_option linter.unnecessarySimpa false
namespace Go.Ab
open Go Go.Proofs Go.Shelf Go.RowKit Go.Sort Go.Lib
theorem au0 (w:World) (T:TypeId) (nd:Nat) (hs:nd<=24):Holds (fun (b:UInt8)=>Value.int .u8 (b.toNat:Int)) (w.alloc (.cells zeros24 T)) w.heap.size 0 (Array.replicate nd (0:UInt8)):=fun j hj=>by
 have hj':j<nd:=by simpa using hj
 refine ⟨?_,World.frozen?_alloc_new _ _ _ _⟩
 rw [World.cell?_alloc_new,zeros24_at _ (by omega),getElem!_pos _ j hj]
 simp
theorem fin0 (w:World) (o:Obj) (dk:Array UInt8) (k:Nat):∃ os,(putRow (fun (b:UInt8)=>Value.int .u8 (b.toNat:Int)) (w.alloc o) w.heap.size 0 dk).drewN k=grow (w.drewN k) os:=by
 rw [alloc_eq_grow]
 obtain ⟨os',_,e⟩:=putRow_grow_new (fun (b:UInt8)=>Value.int .u8 (b.toNat:Int)) w #[o] w.heap.size 0 dk (Nat.le_refl _)
 exact ⟨os',by rw [e];rfl⟩
set_option maxHeartbeats 6400000 in
set_option maxRecDepth 100000 in
theorem asf (u:Nat) (hu64:u<18446744073709551616) (w:World) (htab:Lib.TabIs Tryz.prog w "internal/strconv.uint64pow10" .u64 Lib.pow10Tab):
 Calls Tryz.prog 241 #[.int .u64 u,.int .i64 10] w fun e w'=>e=.returned (.string ⟨(Lib.decDigits u).toArray⟩)/\∃ k os,w'=grow (w.drewN k) os:=by
 have e87:∀ args w,(callFunc 312 args).run Tryz.prog w=.ok (.enter 312 args) w:=aay Tryz.func312 (by kernel_rfl) (by kernel_rfl)
 have e88:∀ args w,(callFunc 313 args).run Tryz.prog w=.ok (.enter 313 args) w:=aay Tryz.func313 (by kernel_rfl) (by kernel_rfl)
 have e89:∀ args w,(callFunc 314 args).run Tryz.prog w=.ok (.enter 314 args) w:=aay Tryz.func314 (by kernel_rfl) (by kernel_rfl)
 by_cases hi:u<100
 ·go_enter Tryz.func241,Tryz.ntmps241
  go_wp2_with (go_at_fn 312;refine (Tryz.internal_strconv_small u hi _).mono ?_;rintro e w' ⟨rfl,rfl⟩)
  go_ret
  exact ⟨rfl,0,#[],by simp [World.drewN_zero]⟩
 ·have hu1:1<=u:=by omega
  have hnd20:Lib.nDigits u<=20:=by have:=Lib.numDigits_eq u hu1 hu64;split at this<;>omega
  have hb3:Lib.nDigits u<=23:=by omega
  have hal:Tryz.prog.arrayLen 252=24:=by simp [Program.arrayLen,Tryz.underlying252]
  have hsl1:∀ W,(Instr.sliceAt 252 (.pointer (some ⟨w.heap.size,0,none⟩)) none (some (.int .i64 (Lib.nDigits u:Int))) none).run Tryz.prog W=.ok (.slice (some ⟨w.heap.size,0,none⟩) (Lib.nDigits u) 24) W:=fun W=>by
   rw [run_sliceAt_array_h W 252 ⟨w.heap.size,0,none⟩ (by simp [Program.arrayLen,Program.elem,Tryz.underlying252]) .i64 (Lib.nDigits u:Int) (by omega) (by rw [hal];omega)]
   go_simp
  have hH0:Holds (fun (b:UInt8)=>Value.int .u8 (b.toNat:Int)) (w.alloc (.cells Lib.zeros24 252)) w.heap.size 0 (Array.replicate (Lib.nDigits u) 0):=au0 w 252 _ (by omega)
  have hfmt:=Tryz.internal_strconv_formatBase10 w.heap.size 0 24 u (Array.replicate (Lib.nDigits u) 0) (w.alloc (.cells Lib.zeros24 252)) hH0 (by rw [Array.size_replicate];exact Lib.lt_pow_nDigits u) hu64 (by rw [Array.size_replicate];omega)
  rw [Array.size_replicate] at hfmt
  have HH0:=Lib.hid hH0
  clear hH0 hal
  go_enter Tryz.func241,Tryz.ntmps241
  go_wp2_with (first
   | (go_at_fn 313;refine (Tryz.internal_strconv_numDigits u hu1 hu64 _ (Lib.tabIs_alloc htab _)).mono ?_;rintro e w' ⟨rfl,rfl⟩))
  go_at_fn 314
  refine hfmt.mono ?_
  rintro e w' ⟨rfl,k,v',dk,rfl,hF⟩
  have hcv:(convert 104 9 (.slice (some ⟨w.heap.size,0,none⟩) (Lib.nDigits u) 24)).run Tryz.prog ((putRow (fun (b:UInt8)=>Value.int .u8 (b.toNat:Int)) (w.alloc (.cells Lib.zeros24 252)) w.heap.size 0 dk).drewN k)=.ok (.string ⟨(Lib.decDigits u).toArray⟩) ((putRow (fun (b:UInt8)=>Value.int .u8 (b.toNat:Int)) (w.alloc (.cells Lib.zeros24 252)) w.heap.size 0 dk).drewN k):=by
   have h:=run_convert_bytes_back (P:=Tryz.prog) ((putRow (fun (b:UInt8)=>Value.int .u8 (b.toNat:Int)) (w.alloc (.cells Lib.zeros24 252)) w.heap.size 0 dk).drewN k) 104 9 5 ⟨w.heap.size,0,none⟩ 24 (Lib.decDigits u) Tryz.underlying104 Tryz.underlying5 Tryz.underlying9 (fun j hj=>by
    rw [Lib.row_is_numeral hF j hj,Lib.add_plain,World.cell?_drewN]
    exact cell?_putRow (fun (b:UInt8)=>Value.int .u8 (b.toNat:Int)) _ w.heap.size 0 _ dk HH0.out (by rw [hF.size,Array.size_replicate]) j (by rw [hF.size];rw [Lib.decDigits_length] at hj;exact hj))
   rw [Lib.decDigits_length] at h
   exact h
  go_wp2
  go_ret
  obtain ⟨os,eo⟩:=fin0 w (.cells Lib.zeros24 252) dk k
  exact ⟨rfl,k,os,eo⟩
def ay1 (fuel:Nat) (u base:Int):Option (List UInt8):=bif decide (0<=u)&&decide (u<=18446744073709551615)&&decide (base=10) then some (decB u.toNat) else none
def bak (fuel:Nat):CallE:={ f:=241,A:=⟨2,[],[.int .u64,.int .i64]⟩,R:=⟨1,[],[.str]⟩,F:=fun x=>ay1 fuel x.1 x.2,dflt:=[] }
theorem a9c (fuel:Nat):(bak fuel).Ok Tryz.prog:=by
 intro x y h
 obtain ⟨n,base⟩:=x
 have h:ay1 fuel n base=some y:=h
 unfold ay1 at h
 obtain ⟨hb,rfl⟩:=abc h
 simp only [Bool.and_eq_true,decide_eq_true_eq] at hb
 obtain ⟨⟨h0,h1⟩,rfl⟩:=hb
 obtain ⟨u,rfl⟩:∃ u:Nat,n=(u:Int):=⟨n.toNat,(Int.toNat_of_nonneg h0).symm⟩
 refine adc (aay Tryz.func241 (by kernel_rfl) (by kernel_rfl)) (fun D ow μ w vals pre=>?_)
 obtain ⟨v,b,rfl,h1,h2⟩:=a9f pre
 cases h1;cases h2
 refine (asf u (by omega) w (tab10 pre.tabs)).mono ?_
 rintro e w' ⟨rfl,k,os,rfl⟩
 refine ⟨_,rfl,fun ow' μ' st'=>?_,ayk w k os⟩
 rw [Int.toNat_natCast,<-anj (by omega)]
 exact .str
end Go.Ab
