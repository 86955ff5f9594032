/- The reading of numbers at base 16 and 64 bits: what the inner function of the library comes to. -/
import Derived.Shelf.Pu.ParseUintPublic10
set_option linter.unusedVariables false
set_option linter.unusedSimpArgs false
set_option linter.unnecessarySimpa false
namespace Go.Ab
open Go Go.Proofs Go.Shelf Go.RowKit
variable {P:Program}{ρ:Ren}
def agp (c:UInt8):Option Nat:=
 if 48<=c.toNat/\c.toNat<=57 then some (c.toNat-48)
 else if 97<=(bits .or .u8 (c.toNat:Int) 32).toNat/\(bits .or .u8 (c.toNat:Int) 32).toNat<=102 then some ((bits .or .u8 (c.toNat:Int) 32).toNat-87) else none
def ab5 (acc:Nat):List UInt8->Lib.NumEnd Nat
 | []=>.ok acc
 | c::r=>
  match agp c with
  | none=>Lib.NumEnd.syntax
  | some d=>if 1152921504606846976<=acc then .range else ab5 (acc*16+d) r
set_option maxHeartbeats 32000000 in
set_option maxRecDepth 100000 in
theorem bar (L:LaysPu.n16 P ρ) (t:ByteArray) (hne:t.size≠0) (hmax:t.size<=9223372036854775806) (w:World):
 Calls P (ρ.f 16) #[.string t,.int .i64 16,.int .i64 64] w fun e w'=>e=.returned (Lib.uintTuple (ρ.t 34) (ab5 0 t.data.toList))/\w'=Lib.bytesWorld w (ρ.t 5) t:=by
 have mixed:=L.mixed
 have t9:=L.t9;have a9:=L.a9;have z9:=L.z9;have v9:=L.v9
 have t3:=L.t3;have a3:=L.a3;have z3:=L.z3;have v3:=L.v3
 have t22:=L.t22;have a22:=L.a22;have z22:=L.z22;have v22:=L.v22
 have t24:=L.t24;have a24:=L.a24;have z24:=L.z24;have v24:=L.v24
 have t4:=L.t4;have a4:=L.a4;have z4:=L.z4;have v4:=L.v4
 have t34:=L.t34;have a34:=L.a34;have z34:=L.z34;have v34:=L.v34
 have t5:=L.t5;have a5:=L.a5;have z5:=L.z5;have v5:=L.v5
 have t36:=L.t36;have a36:=L.a36;have z36:=L.z36;have v36:=L.v36
 have t37:=L.t37;have a37:=L.a37;have z37:=L.z37;have v37:=L.v37
 have t0:=L.t0;have a0:=L.a0;have z0:=L.z0;have v0:=L.v0
 have e19:∀ args w,(callFunc (ρ.f 19) args).run P w=.ok (.enter (ρ.f 19) args) w:=enters_of L.f19 (by kernel_rfl) rfl
 have hemp:t.toList.isEmpty=false:=by
  rw [<-decide_eq_emptyBytes]
  exact decide_eq_false (fun h=>hne (by rw [h];rfl))
 have hcv:=Lib.run_convert_string_bytes (P:=P) w (ρ.t 9) (ρ.t 37) (ρ.t 5) t (u:=.string) L.t9 L.t37 L.t5
 have hB:∀ j,j<t.size->(Lib.bytesWorld w (ρ.t 5) t).cell? ⟨w.heap.size,j,none⟩=some (.int .u8 (t.data.toList.getD j 0).toNat):=fun j hj=>Lib.bytesWorld_cell w (ρ.t 5) t j hj
 obtain ⟨W1,hW1⟩:∃ W1,W1=Lib.bytesWorld w (ρ.t 5) t:=⟨_,rfl⟩
 rw [<-hW1] at hcv hB ⊢
 clear hW1
 obtain ⟨bs,hL⟩:∃ bs,bs=t.data.toList:=⟨_,rfl⟩
 have hLn:bs.length=t.size:=by rw [hL,Lib.size_eq]
 rw [<-hL] at hB ⊢
 clear hL
 have hmv:IntKind.u64.wrap (IntKind.u64.wrap 18446744073709551616-1)=18446744073709551615:=by
  rw [IntKind.wrap_u64,IntKind.wrap_u64]
  decide
 go_enter L.f16,BodyPu.n16_ntmps ρ
 go_wp2
 go_loop [12,13,101] (fun vu vn vi=>∃ (k acc:Nat) (a:Int),vu=.bool false/\vn=.int .u64 a/\vi=.int .i64 k/\k<=t.size/\Hid (a=(acc:Int)/\acc<18446744073709551616/\ab5 0 bs=ab5 acc (bs.drop k)))
  (fun _ _ vi=>t.size-(intOf vi).toNat)
 case atStart=>exact ⟨0,0,0,rfl,rfl,rfl,by omega,rfl,by omega,rfl⟩
 case round=>
  obtain ⟨k,acc,a,rfl,rfl,rfl,hk,hh⟩:=hrel
  obtain ⟨ha,hacc,hdec⟩:=hh.out
  clear hh
  have a0:0<=a:=by omega
  have a1:a<18446744073709551616:=by omega
  by_cases hkn:k<t.size
  ·have hc:=hB k hkn
   have hdrop:bs.drop k=bs[k]'(by omega)::bs.drop (k+1):=List.drop_eq_getElem_cons (by omega)
   have hget:bs.getD k 0=bs[k]'(by omega):=by simp [List.getD,List.getElem?_eq_getElem (show k<bs.length by omega)]
   rw [hdrop] at hdec
   rw [hget] at hc
   generalize bs[k]'(by omega)=c at hc hdec
   have hc256:c.toNat<256:=c.toNat_lt
   clear hB hdrop hget
   rw [ab5] at hdec
   by_cases hdig:48<=c.toNat/\c.toNat<=57
   ·have hD:agp c=some (c.toNat-48):=by unfold agp;rw [if_pos hdig]
    rw [hD] at hdec
    obtain ⟨hd0,hd1⟩:=hdig
    by_cases hcut:1152921504606846976<=acc
    ·have hF:ab5 0 bs=.range:=by simpa [hcut] using hdec
     have icut:1152921504606846976<=a:=by omega
     clear hcut hacc ha hdec hD
     go_wp2
     go_ret2
     first | exact ⟨rfl,rfl⟩ | exact ⟨by rw [hF];rfl,rfl⟩
    ·have hF:ab5 0 bs=ab5 (acc*16+(c.toNat-48)) (bs.drop (k+1)):=by simpa [hcut] using hdec
     have HN:Hid (a*16+((c.toNat:Int)-48)=((acc*16+(c.toNat-48):Nat):Int)/\acc*16+(c.toNat-48)<18446744073709551616/\ab5 0 bs=ab5 (acc*16+(c.toNat-48)) (bs.drop (k+1))):=Lib.hid ⟨by omega,by omega,hF⟩
     have icut:a<1152921504606846976:=by omega
     have iov:a*16+((c.toNat:Int)-48)<18446744073709551616:=by omega
     clear hcut hacc hF hdec ha hD
     go_wp2
     refine ⟨⟨k+1,acc*16+(c.toNat-48),a*16+((c.toNat:Int)-48),rfl,(by first | rfl | (congr 1;omega)),(by first | rfl | (congr 1;omega)),by omega,HN⟩,by simp [intOf];omega⟩
   ·have hv0:=bits_lo_u8 .or (c.toNat:Int) 32
    have hv1:=bits_hi_u8 .or (c.toNat:Int) 32
    have hu0:=bits_lo_u8 .or 95 32
    have hu1:=bits_hi_u8 .or 95 32
    by_cases hx:97<=(bits .or .u8 (c.toNat:Int) 32).toNat/\(bits .or .u8 (c.toNat:Int) 32).toNat<=102
    ·have hD:agp c=some ((bits .or .u8 (c.toNat:Int) 32).toNat-87):=by unfold agp;rw [if_neg hdig,if_pos hx]
     have h95:c.toNat≠95:=fun e=>by rw [e] at hx;revert hx;decide
     have h95i:¬((c.toNat:Int)=95):=by omega
     rw [hD] at hdec
     generalize hv:bits .or .u8 (c.toNat:Int) 32=v at*
     obtain ⟨hx0,hx1⟩:=hx
     have vx0:97<=v:=by omega
     have vx1:v<=102:=by omega
     by_cases hcut:1152921504606846976<=acc
     ·have hF:ab5 0 bs=.range:=by simpa [hcut] using hdec
      have icut:1152921504606846976<=a:=by omega
      clear hcut hacc ha hdec hD hx0 hx1 hu0 hu1
      go_wp2_with (go_at_fn (ρ.f 19);refine (AnyPu.internal_strconv_lower { L with } _ _).mono ?_;rintro e w' ⟨rfl,rfl⟩;rw [hv])
      all_goals go_ret2
      all_goals first | exact ⟨rfl,rfl⟩ | exact ⟨by rw [hF];rfl,rfl⟩
     ·have hF:ab5 0 bs=ab5 (acc*16+(v.toNat-87)) (bs.drop (k+1)):=by simpa [hcut] using hdec
      have HN:Hid (a*16+(v-97+10)=((acc*16+(v.toNat-87):Nat):Int)/\acc*16+(v.toNat-87)<18446744073709551616/\ab5 0 bs=ab5 (acc*16+(v.toNat-87)) (bs.drop (k+1))):=Lib.hid ⟨by omega,by omega,hF⟩
      have icut:a<1152921504606846976:=by omega
      have iov:a*16+(v-97+10)<18446744073709551616:=by omega
      clear hcut hacc hF hdec ha hD hx0 hx1 hu0 hu1
      go_wp2_with (go_at_fn (ρ.f 19);refine (AnyPu.internal_strconv_lower { L with } _ _).mono ?_;rintro e w' ⟨rfl,rfl⟩;rw [hv])
      all_goals exact ⟨⟨k+1,acc*16+(v.toNat-87),a*16+(v-97+10),rfl,(by first | rfl | (congr 1;omega)),(by first | rfl | (congr 1;omega)),by omega,HN⟩,by simp [intOf];omega⟩
    ·have hD:agp c=none:=by unfold agp;rw [if_neg hdig,if_neg hx]
     have hF:ab5 0 bs=Lib.NumEnd.syntax:=by rw [hD] at hdec;simpa using hdec
     have hx2:¬(97<=bits .or .u8 (c.toNat:Int) 32/\bits .or .u8 (c.toNat:Int) 32<=102):=by omega
     clear hacc ha hdec hD hx
     go_wp2_with (go_at_fn (ρ.f 19);refine (AnyPu.internal_strconv_lower { L with } _ _).mono ?_;rintro e w' ⟨rfl,rfl⟩)
     all_goals go_ret2
     all_goals first | exact ⟨rfl,rfl⟩ | exact ⟨by rw [hF];rfl,rfl⟩
  ·have hkk:k=t.size:=by omega
   subst hkk
   have hF:ab5 acc (bs.drop t.size)=.ok acc:=by rw [List.drop_eq_nil_of_le (by omega)];rfl
   rw [hF] at hdec
   subst ha
   clear hacc hF a0 a1
   go_wp2
   go_ret2
   first | exact ⟨rfl,rfl⟩ | exact ⟨by rw [hdec];rfl,rfl⟩
def aci (s:List UInt8):Lib.NumEnd Nat:=if s=[] then Lib.NumEnd.syntax else ab5 0 s
theorem avz (L:LaysPu.n16 P ρ) (t:ByteArray) (hmax:t.size<=9223372036854775806) (w:World):
 Calls P (ρ.f 16) #[.string t,.int .i64 16,.int .i64 64] w fun e w'=>e=.returned (Lib.uintTuple (ρ.t 34) (aci t.data.toList))/\(w'=w∨w'=Lib.bytesWorld w (ρ.t 5) t):=by
 by_cases h0:t.size=0
 ·have ht:t=⟨#[]⟩:=by
   apply ByteArray.ext
   exact Array.eq_empty_of_size_eq_zero h0
  subst ht
  exact (AnyPu.internal_strconv_ParseUint_empty { L with } 16 64 w).mono fun e w' ⟨he,hw⟩=>⟨he,Or.inl hw⟩
 ·have hne:t.data.toList≠[]:=fun h=>h0 (by rw [Lib.size_eq,h];rfl)
  refine (bar { L with } t h0 hmax w).mono fun e w' ⟨he,hw⟩=>⟨?_,Or.inr hw⟩
  rw [he,aci,if_neg hne]
set_option maxHeartbeats 4000000 in
set_option maxRecDepth 100000 in
theorem a3v (L:LaysPu.n14 P ρ) (s:ByteArray) (hmax:s.size<=9223372036854775806) (u:Nat) (h:aci s.data.toList=.ok u) (w:World):
 Calls P (ρ.f 14) #[.string s,.int .i64 16,.int .i64 64] w fun e w'=>e=.returned (.tuple #[.int .u64 u,.nilIface])/\(w'=w∨w'=Lib.bytesWorld w (ρ.t 5) s):=by
 have mixed:=L.mixed
 have t9:=L.t9;have a9:=L.a9;have z9:=L.z9;have v9:=L.v9
 have t3:=L.t3;have a3:=L.a3;have z3:=L.z3;have v3:=L.v3
 have t22:=L.t22;have a22:=L.a22;have z22:=L.z22;have v22:=L.v22
 have t24:=L.t24;have a24:=L.a24;have z24:=L.z24;have v24:=L.v24
 have t25:=L.t25;have a25:=L.a25;have z25:=L.z25;have v25:=L.v25
 have t4:=L.t4;have a4:=L.a4;have z4:=L.z4;have v4:=L.v4
 have e16:∀ args w,(callFunc (ρ.f 16) args).run P w=.ok (.enter (ρ.f 16) args) w:=enters_of L.f16 (by kernel_rfl) rfl
 have hI:=avz { L with } s hmax w
 rw [h] at hI
 have hI:Calls P (ρ.f 16) #[.string s,.int .i64 16,.int .i64 64] w fun e w'=>e=.returned (.tuple #[.int .u64 u,.nilIface])/\(w'=w∨w'=Lib.bytesWorld w (ρ.t 5) s):=hI
 clear h
 go_enter L.f14,BodyPu.n14_ntmps ρ
 go_wp2_with (go_at_fn (ρ.f 16);refine hI.mono ?_;rintro e W1 ⟨rfl,hW⟩)
 go_wp2
 go_ret2
 exact ⟨rfl,hW⟩
set_option maxHeartbeats 4000000 in
set_option maxRecDepth 100000 in
theorem ay8 (L:LaysPu.n14 P ρ) (s:ByteArray) (hlim:s.size<=281474976710656) (h:aci s.data.toList=Lib.NumEnd.syntax) (ev:Value) (w:World) (hv:w.cell? ⟨(ρ.g 0),0,none⟩=some ev) (hev:ev=.nilIface∨∃ te pe,ev=.iface te pe):
 Calls P (ρ.f 14) #[.string s,.int .i64 16,.int .i64 64] w fun e w'=>∃ N,e=.returned (.tuple #[.int .u64 0,.iface (ρ.t 39) (.pointer (some ⟨N,0,none⟩))])/\Below w.heap.size w w':=by
 have mixed:=L.mixed
 have t9:=L.t9;have a9:=L.a9;have z9:=L.z9;have v9:=L.v9
 have t3:=L.t3;have a3:=L.a3;have z3:=L.z3;have v3:=L.v3
 have t22:=L.t22;have a22:=L.a22;have z22:=L.z22;have v22:=L.v22
 have t24:=L.t24;have a24:=L.a24;have z24:=L.z24;have v24:=L.v24
 have t25:=L.t25;have a25:=L.a25;have z25:=L.z25;have v25:=L.v25
 have t4:=L.t4;have a4:=L.a4;have z4:=L.z4;have v4:=L.v4
 have e16:∀ args w,(callFunc (ρ.f 16) args).run P w=.ok (.enter (ρ.f 16) args) w:=enters_of L.f16 (by kernel_rfl) rfl
 have e17:∀ args w,(callFunc (ρ.f 17) args).run P w=.ok (.enter (ρ.f 17) args) w:=enters_of L.f17 (by kernel_rfl) rfl
 have hG:(ρ.g 0)<w.heap.size:=Lib.lt_of_cell hv
 have hI:=avz { L with } s (by omega) w
 rw [h] at hI
 have hI:Calls P (ρ.f 16) #[.string s,.int .i64 16,.int .i64 64] w fun e w'=>e=.returned (.tuple #[.int .u64 0,.iface (ρ.t 34) (.int .i64 2)])/\(w'=w∨w'=Lib.bytesWorld w (ρ.t 5) s):=hI
 clear h
 go_enter L.f14,BodyPu.n14_ntmps ρ
 go_wp2_with (go_at_fn (ρ.f 16);refine hI.mono ?_)
 rintro e W1 ⟨rfl,hW⟩
 have hb1:Below w.heap.size w W1:=by
  rcases hW with rfl | rfl
  ·exact Below.refl _ _
  ·exact Lib.bytesWorld_below _ _ _
 have hv1:W1.cell? ⟨(ρ.g 0),0,none⟩=some ev:=(hb1.cell (show (⟨(ρ.g 0),0,none⟩:Addr).block<w.heap.size from hG)).trans hv
 clear hW
 go_wp2_with (go_at_fn (ρ.f 17);refine (AnyPu.strconv_toError_syntax { L with } ⟨#[80,97,114,115,101,85,105,110,116]⟩ s 16 64 ev _ hlim ?_ hev).mono ?_)
 ·exact hv1
 rintro e W2 ⟨N,rfl,h1,h2,h3⟩
 go_wp2
 go_ret2
 exact ⟨N,rfl,hb1.trans (h3.mono hb1.size)⟩
set_option maxHeartbeats 4000000 in
set_option maxRecDepth 100000 in
theorem ar3 (L:LaysPu.n14 P ρ) (s:ByteArray) (hlim:s.size<=281474976710656) (h:aci s.data.toList=.range) (ev:Value) (w:World) (hv:w.cell? ⟨(ρ.g 1),0,none⟩=some ev) (hev:ev=.nilIface∨∃ te pe,ev=.iface te pe):
 Calls P (ρ.f 14) #[.string s,.int .i64 16,.int .i64 64] w fun e w'=>∃ N,e=.returned (.tuple #[.int .u64 18446744073709551615,.iface (ρ.t 39) (.pointer (some ⟨N,0,none⟩))])/\Below w.heap.size w w':=by
 have mixed:=L.mixed
 have t9:=L.t9;have a9:=L.a9;have z9:=L.z9;have v9:=L.v9
 have t3:=L.t3;have a3:=L.a3;have z3:=L.z3;have v3:=L.v3
 have t22:=L.t22;have a22:=L.a22;have z22:=L.z22;have v22:=L.v22
 have t24:=L.t24;have a24:=L.a24;have z24:=L.z24;have v24:=L.v24
 have t25:=L.t25;have a25:=L.a25;have z25:=L.z25;have v25:=L.v25
 have t4:=L.t4;have a4:=L.a4;have z4:=L.z4;have v4:=L.v4
 have e16:∀ args w,(callFunc (ρ.f 16) args).run P w=.ok (.enter (ρ.f 16) args) w:=enters_of L.f16 (by kernel_rfl) rfl
 have e17:∀ args w,(callFunc (ρ.f 17) args).run P w=.ok (.enter (ρ.f 17) args) w:=enters_of L.f17 (by kernel_rfl) rfl
 have hG:(ρ.g 1)<w.heap.size:=Lib.lt_of_cell hv
 have hI:=avz { L with } s (by omega) w
 rw [h] at hI
 have hI:Calls P (ρ.f 16) #[.string s,.int .i64 16,.int .i64 64] w fun e w'=>e=.returned (.tuple #[.int .u64 18446744073709551615,.iface (ρ.t 34) (.int .i64 1)])/\(w'=w∨w'=Lib.bytesWorld w (ρ.t 5) s):=hI
 clear h
 go_enter L.f14,BodyPu.n14_ntmps ρ
 go_wp2_with (go_at_fn (ρ.f 16);refine hI.mono ?_)
 rintro e W1 ⟨rfl,hW⟩
 have hb1:Below w.heap.size w W1:=by
  rcases hW with rfl | rfl
  ·exact Below.refl _ _
  ·exact Lib.bytesWorld_below _ _ _
 have hv1:W1.cell? ⟨(ρ.g 1),0,none⟩=some ev:=(hb1.cell (show (⟨(ρ.g 1),0,none⟩:Addr).block<w.heap.size from hG)).trans hv
 clear hW
 go_wp2_with (go_at_fn (ρ.f 17);refine (AnyPu.strconv_toError_range { L with } ⟨#[80,97,114,115,101,85,105,110,116]⟩ s 16 64 ev _ hlim ?_ hev).mono ?_)
 ·exact hv1
 rintro e W2 ⟨N,rfl,h1,h2,h3⟩
 go_wp2
 go_ret2
 exact ⟨N,rfl,hb1.trans (h3.mono hb1.size)⟩
end Go.Ab
