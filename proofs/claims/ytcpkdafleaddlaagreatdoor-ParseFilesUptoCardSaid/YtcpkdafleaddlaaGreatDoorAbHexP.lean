/- The reading of numbers at base 16 and 64 bits: what the inner function of the library comes to. -/
import Derived.Test.YtcpkdafleaddlaaGreatDoorAbSrchP
set_option linter.unusedVariables false
set_option linter.unusedSimpArgs false
set_option linter.unnecessarySimpa false
namespace Go.Ab
open Go Go.Proofs Go.Shelf Go.RowKit
variable {P:Program}{ρ:Ren}
def ahf (c:UInt8):Option Nat:=
 if 48<=c.toNat/\c.toNat<=57 then some (c.toNat-48)
 else if 97<=(bits .or .u8 (c.toNat:Int) 32).toNat/\(bits .or .u8 (c.toNat:Int) 32).toNat<=102 then some ((bits .or .u8 (c.toNat:Int) 32).toNat-87) else none
def acb (m:Nat):Bq->Lib.NumEnd Nat
 | []=>.ok m
 | c::r=>
  match ahf c with
  | none=>Lib.NumEnd.syntax
  | some d=>if 1152921504606846976<=m then .range else acb (m*16+d) r
set_option maxHeartbeats 32000000 in
set_option maxRecDepth 100000 in
theorem bd9 (L:LaysPu.n16 P ρ) (t:ByteArray) (aj:t.size≠0) (an:t.size<=9223372036854775806) (w:World):
 Calls P (ρ.f 16) #[.string t,.int .i64 16,.int .i64 64] w λe w'=>e=.returned (Lib.uintTuple (ρ.t 34) (acb 0 t.data.toList))/\w'=Lib.bytesWorld w (ρ.t 5) t:=by
 have mixed:=L.mixed
 have t9:=L.t9;have a9:=L.a9;have z9:=L.z9;have v9:=L.v9
 have t3:=L.t3;have a3:=L.a3;have z3:=L.z3;have v3:=L.v3
 have aE:=L.t22;have ao:=L.a22;have aQ:=L.z22;have aJ:=L.v22
 have aF:=L.t24;have ap:=L.a24;have aR:=L.z24;have aK:=L.v24
 have t4:=L.t4;have a4:=L.a4;have z4:=L.z4;have v4:=L.v4
 have aG:=L.t34;have aq:=L.a34;have aS:=L.z34;have aL:=L.v34
 have t5:=L.t5;have a5:=L.a5;have z5:=L.z5;have v5:=L.v5
 have aH:=L.t36;have ar:=L.a36;have aT:=L.z36;have aM:=L.v36
 have aI:=L.t37;have au:=L.a37;have aU:=L.z37;have aN:=L.v37
 have t0:=L.t0;have a0:=L.a0;have z0:=L.z0;have v0:=L.v0
 have av:∀ args w,(callFunc (ρ.f 19) args).run P w=.ok (.enter (ρ.f 19) args) w:=enters_of L.f19 (by kernel_rfl) rfl
 have am:t.toList.isEmpty=false:=by rw [<-decide_eq_emptyBytes];exact Al (λh=>aj (by rw [h];rfl))
 have ag:=Lib.run_convert_string_bytes (P:=P) w (ρ.t 9) (ρ.t 37) (ρ.t 5) t (u:=.string) L.t9 L.t37 L.t5
 have hB:∀ j,j<t.size->(Lib.bytesWorld w (ρ.t 5) t).cell? ⟨w.heap.size,j,none⟩=some (.int .u8 (t.data.toList.getD j 0).toNat):=λj hj=>Lib.bytesWorld_cell w (ρ.t 5) t j hj
 obtain ⟨W1,Z⟩:∃ W1,W1=Lib.bytesWorld w (ρ.t 5) t:=⟨_,rfl⟩
 rw [<-Z] at ag hB ⊢
 clear Z
 obtain ⟨bs,hL⟩:∃ bs,bs=t.data.toList:=⟨_,rfl⟩
 have ax:bs.length=t.size:=by rw [hL,Lib.size_eq]
 rw [<-hL] at hB ⊢
 clear hL
 have aA:IntKind.u64.wrap (IntKind.u64.wrap 18446744073709551616-1)=18446744073709551615:=by rw [IntKind.wrap_u64,IntKind.wrap_u64];decide
 go_enter L.f16,BodyPu.n16_ntmps ρ
 go_wp2
 go_loop [12,13,101] (λvu vn vi=>∃ (k m:Nat) (a:Int),vu=.bool false/\vn=.int .u64 a/\vi=.int .i64 k/\k<=t.size/\Hid (a=(m:Int)/\m<18446744073709551616/\acb 0 bs=acb m (bs.drop k)))
  (λ_ _ vi=>t.size-(intOf vi).toNat)
 case atStart=>exact ⟨0,0,0,rfl,rfl,rfl,by omega,rfl,by omega,rfl⟩
 case round=>
  obtain ⟨k,m,a,rfl,rfl,rfl,hk,hh⟩:=hrel
  obtain ⟨X,z,d⟩:=hh.out
  clear hh
  have a0:0<=a:=by omega
  have a1:a<18446744073709551616:=by omega
  by_cases ai:k<t.size
  ·have hc:=hB k ai;have O:bs.drop k=bs[k]'(by omega)::bs.drop (k+1):=List.drop_eq_getElem_cons (by omega);have W:bs.getD k 0=bs[k]'(by omega):=by simp [List.getD,An (show k<bs.length by omega)]
   rw [O] at d;rw [W] at hc;generalize bs[k]'(by omega)=c at hc d;have af:c.toNat<256:=c.toNat_lt;clear hB O W;rw [acb] at d;by_cases M:48<=c.toNat/\c.toNat<=57
   ·have V:ahf c=some (c.toNat-48):=by unfold ahf;rw [if_pos M]
    rw [V] at d;obtain ⟨ay,az⟩:=M;by_cases o:1152921504606846976<=m
    ·have H:acb 0 bs=.range:=by simpa [o] using d
     have U:1152921504606846976<=a:=by omega
     clear o z X d V;go_wp2;go_ret2;first | exact ⟨rfl,rfl⟩ | exact ⟨by rw [H];rfl,rfl⟩
    ·have H:acb 0 bs=acb (m*16+(c.toNat-48)) (bs.drop (k+1)):=by simpa [o] using d
     have HN:Hid (a*16+((c.toNat:Int)-48)=((m*16+(c.toNat-48):Nat):Int)/\m*16+(c.toNat-48)<18446744073709551616/\acb 0 bs=acb (m*16+(c.toNat-48)) (bs.drop (k+1))):=Lib.hid ⟨by omega,by omega,H⟩;have U:a<1152921504606846976:=by omega
     have ak:a*16+((c.toNat:Int)-48)<18446744073709551616:=by omega
     clear o z H d X V;go_wp2;refine ⟨⟨k+1,m*16+(c.toNat-48),a*16+((c.toNat:Int)-48),rfl,(by first | rfl | (congr 1;omega)),(by first | rfl | (congr 1;omega)),by omega,HN⟩,by simp [intOf];omega⟩
   ·have aB:=bits_lo_u8 .or (c.toNat:Int) 32;have aC:=bits_hi_u8 .or (c.toNat:Int) 32;have aa:=bits_lo_u8 .or 95 32;have ab:=bits_hi_u8 .or 95 32;by_cases Y:97<=(bits .or .u8 (c.toNat:Int) 32).toNat/\(bits .or .u8 (c.toNat:Int) 32).toNat<=102
    ·have V:ahf c=some ((bits .or .u8 (c.toNat:Int) 32).toNat-87):=by unfold ahf;rw [if_neg M,if_pos Y]
     have aw:c.toNat≠95:=λe=>by rw [e] at Y;revert Y;decide
     have al:¬((c.toNat:Int)=95):=by omega
     rw [V] at d;generalize hv:bits .or .u8 (c.toNat:Int) 32=v at*;obtain ⟨ad,ae⟩:=Y;have aO:97<=v:=by omega
     have aP:v<=102:=by omega
     by_cases o:1152921504606846976<=m
     ·have H:acb 0 bs=.range:=by simpa [o] using d
      have U:1152921504606846976<=a:=by omega
      clear o z X d V ad ae aa ab;go_wp2_with (go_at_fn (ρ.f 19);refine (AnyPu.internal_strconv_lower { L with } _ _).mono ?_;rintro e w' ⟨rfl,rfl⟩;rw [hv]);all_goals go_ret2
      all_goals first | exact ⟨rfl,rfl⟩ | exact ⟨by rw [H];rfl,rfl⟩
     ·have H:acb 0 bs=acb (m*16+(v.toNat-87)) (bs.drop (k+1)):=by simpa [o] using d
      have HN:Hid (a*16+(v-97+10)=((m*16+(v.toNat-87):Nat):Int)/\m*16+(v.toNat-87)<18446744073709551616/\acb 0 bs=acb (m*16+(v.toNat-87)) (bs.drop (k+1))):=Lib.hid ⟨by omega,by omega,H⟩;have U:a<1152921504606846976:=by omega
      have ak:a*16+(v-97+10)<18446744073709551616:=by omega
      clear o z H d X V ad ae aa ab;go_wp2_with (go_at_fn (ρ.f 19);refine (AnyPu.internal_strconv_lower { L with } _ _).mono ?_;rintro e w' ⟨rfl,rfl⟩;rw [hv]);all_goals exact ⟨⟨k+1,m*16+(v.toNat-87),a*16+(v-97+10),rfl,(by first | rfl | (congr 1;omega)),(by first | rfl | (congr 1;omega)),by omega,HN⟩,by simp [intOf];omega⟩
    ·have V:ahf c=none:=by unfold ahf;rw [if_neg M,if_neg Y]
     have H:acb 0 bs=Lib.NumEnd.syntax:=by rw [V] at d;simpa using d
     have aD:¬(97<=bits .or .u8 (c.toNat:Int) 32/\bits .or .u8 (c.toNat:Int) 32<=102):=by omega
     clear z X d V Y;go_wp2_with (go_at_fn (ρ.f 19);refine (AnyPu.internal_strconv_lower { L with } _ _).mono ?_;rintro e w' ⟨rfl,rfl⟩);all_goals go_ret2
     all_goals first | exact ⟨rfl,rfl⟩ | exact ⟨by rw [H];rfl,rfl⟩
  ·have ah:k=t.size:=by omega
   subst ah;have H:acb m (bs.drop t.size)=.ok m:=by rw [Aq (by omega)];rfl
   rw [H] at d;subst X;clear z H a0 a1;go_wp2;go_ret2;first | exact ⟨rfl,rfl⟩ | exact ⟨by rw [d];rfl,rfl⟩
def acg (s:Bq):Lib.NumEnd Nat:=if s=[] then Lib.NumEnd.syntax else acb 0 s
theorem awy (L:LaysPu.n16 P ρ) (t:ByteArray) (d:t.size<=9223372036854775806) (w:World):
 Calls P (ρ.f 16) #[.string t,.int .i64 16,.int .i64 64] w λe w'=>e=.returned (Lib.uintTuple (ρ.t 34) (acg t.data.toList))/\(w'=w\/w'=Lib.bytesWorld w (ρ.t 5) t):=by
 by_cases m:t.size=0
 ·have M:t=⟨#[]⟩:=by
   apply ByteArray.ext;exact Array.eq_empty_of_size_eq_zero m
  subst M;exact (AnyPu.internal_strconv_ParseUint_empty { L with } 16 64 w).mono λe w' ⟨o,H⟩=>⟨o,Or.inl H⟩
 ·have z:t.data.toList≠[]:=λh=>m (by rw [Lib.size_eq,h];rfl);refine (bd9 { L with } t m d w).mono λe w' ⟨o,H⟩=>⟨?_,Or.inr H⟩;rw [o,acg,if_neg z]
set_option maxHeartbeats 4000000 in
set_option maxRecDepth 100000 in
theorem a5w (L:LaysPu.n14 P ρ) (s:ByteArray) (d:s.size<=9223372036854775806) (u:Nat) (h:acg s.data.toList=.ok u) (w:World):
 Calls P (ρ.f 14) #[.string s,.int .i64 16,.int .i64 64] w λe w'=>e=.returned (.tuple #[.int .u64 u,.nilIface])/\(w'=w\/w'=Lib.bytesWorld w (ρ.t 5) s):=by
 have mixed:=L.mixed
 have t9:=L.t9;have a9:=L.a9;have z9:=L.z9;have v9:=L.v9
 have t3:=L.t3;have a3:=L.a3;have z3:=L.z3;have v3:=L.v3
 have U:=L.t22;have o:=L.a22;have aa:=L.z22;have X:=L.v22
 have V:=L.t24;have z:=L.a24;have ab:=L.z24;have Y:=L.v24
 have W:=L.t25;have H:=L.a25;have ad:=L.z25;have Z:=L.v25
 have t4:=L.t4;have a4:=L.a4;have z4:=L.z4;have v4:=L.v4
 have M:∀ args w,(callFunc (ρ.f 16) args).run P w=.ok (.enter (ρ.f 16) args) w:=enters_of L.f16 (by kernel_rfl) rfl
 have m:=awy { L with } s d w
 rw [h] at m
 have m:Calls P (ρ.f 16) #[.string s,.int .i64 16,.int .i64 64] w λe w'=>e=.returned (.tuple #[.int .u64 u,.nilIface])/\(w'=w\/w'=Lib.bytesWorld w (ρ.t 5) s):=m
 clear h
 go_enter L.f14,BodyPu.n14_ntmps ρ
 go_wp2_with (go_at_fn (ρ.f 16);refine m.mono ?_;rintro e W1 ⟨rfl,O⟩)
 go_wp2
 go_ret2
 exact ⟨rfl,O⟩
set_option maxHeartbeats 4000000 in
set_option maxRecDepth 100000 in
theorem a1c (L:LaysPu.n14 P ρ) (s:ByteArray) (o:s.size<=281474976710656) (h:acg s.data.toList=Lib.NumEnd.syntax) (m:Value) (w:World) (V:w.cell? ⟨(ρ.g 0),0,none⟩=some m) (H:m=.nilIface\/∃ te pe,m=.iface te pe):
 Calls P (ρ.f 14) #[.string s,.int .i64 16,.int .i64 64] w λe w'=>∃ N,e=.returned (.tuple #[.int .u64 0,.iface (ρ.t 39) (.pointer (some ⟨N,0,none⟩))])/\Below w.heap.size w w':=by
 have mixed:=L.mixed
 have t9:=L.t9;have a9:=L.a9;have z9:=L.z9;have v9:=L.v9
 have t3:=L.t3;have a3:=L.a3;have z3:=L.z3;have v3:=L.v3
 have ab:=L.t22;have W:=L.a22;have ai:=L.z22;have af:=L.v22
 have ad:=L.t24;have X:=L.a24;have aj:=L.z24;have ag:=L.v24
 have ae:=L.t25;have Y:=L.a25;have ak:=L.z25;have ah:=L.v25
 have t4:=L.t4;have a4:=L.a4;have z4:=L.z4;have v4:=L.v4
 have Z:∀ args w,(callFunc (ρ.f 16) args).run P w=.ok (.enter (ρ.f 16) args) w:=enters_of L.f16 (by kernel_rfl) rfl
 have aa:∀ args w,(callFunc (ρ.f 17) args).run P w=.ok (.enter (ρ.f 17) args) w:=enters_of L.f17 (by kernel_rfl) rfl
 have hG:(ρ.g 0)<w.heap.size:=Lib.lt_of_cell V
 have z:=awy { L with } s (by omega) w
 rw [h] at z
 have z:Calls P (ρ.f 16) #[.string s,.int .i64 16,.int .i64 64] w λe w'=>e=.returned (.tuple #[.int .u64 0,.iface (ρ.t 34) (.int .i64 2)])/\(w'=w\/w'=Lib.bytesWorld w (ρ.t 5) s):=z
 clear h
 go_enter L.f14,BodyPu.n14_ntmps ρ
 go_wp2_with (go_at_fn (ρ.f 16);refine z.mono ?_)
 rintro e O ⟨rfl,U⟩
 have d:Below w.heap.size w O:=by
  rcases U with rfl | rfl
  ·exact Below.refl _ _
  ·exact Lib.bytesWorld_below _ _ _
 have M:O.cell? ⟨(ρ.g 0),0,none⟩=some m:=(d.cell (show (⟨(ρ.g 0),0,none⟩:Addr).block<w.heap.size from hG)).trans V
 clear U
 go_wp2_with (go_at_fn (ρ.f 17);refine (AnyPu.strconv_toError_syntax { L with } ⟨#[80,97,114,115,101,85,105,110,116]⟩ s 16 64 m _ o ?_ H).mono ?_)
 ·exact M
 rintro e W2 ⟨N,rfl,h1,h2,h3⟩
 go_wp2
 go_ret2
 exact ⟨N,rfl,d.trans (h3.mono d.size)⟩
set_option maxHeartbeats 4000000 in
set_option maxRecDepth 100000 in
theorem auw (L:LaysPu.n14 P ρ) (s:ByteArray) (o:s.size<=281474976710656) (h:acg s.data.toList=.range) (m:Value) (w:World) (V:w.cell? ⟨(ρ.g 1),0,none⟩=some m) (H:m=.nilIface\/∃ te pe,m=.iface te pe):
 Calls P (ρ.f 14) #[.string s,.int .i64 16,.int .i64 64] w λe w'=>∃ N,e=.returned (.tuple #[.int .u64 18446744073709551615,.iface (ρ.t 39) (.pointer (some ⟨N,0,none⟩))])/\Below w.heap.size w w':=by
 have mixed:=L.mixed
 have t9:=L.t9;have a9:=L.a9;have z9:=L.z9;have v9:=L.v9
 have t3:=L.t3;have a3:=L.a3;have z3:=L.z3;have v3:=L.v3
 have ab:=L.t22;have W:=L.a22;have ai:=L.z22;have af:=L.v22
 have ad:=L.t24;have X:=L.a24;have aj:=L.z24;have ag:=L.v24
 have ae:=L.t25;have Y:=L.a25;have ak:=L.z25;have ah:=L.v25
 have t4:=L.t4;have a4:=L.a4;have z4:=L.z4;have v4:=L.v4
 have Z:∀ args w,(callFunc (ρ.f 16) args).run P w=.ok (.enter (ρ.f 16) args) w:=enters_of L.f16 (by kernel_rfl) rfl
 have aa:∀ args w,(callFunc (ρ.f 17) args).run P w=.ok (.enter (ρ.f 17) args) w:=enters_of L.f17 (by kernel_rfl) rfl
 have hG:(ρ.g 1)<w.heap.size:=Lib.lt_of_cell V
 have z:=awy { L with } s (by omega) w
 rw [h] at z
 have z:Calls P (ρ.f 16) #[.string s,.int .i64 16,.int .i64 64] w λe w'=>e=.returned (.tuple #[.int .u64 18446744073709551615,.iface (ρ.t 34) (.int .i64 1)])/\(w'=w\/w'=Lib.bytesWorld w (ρ.t 5) s):=z
 clear h
 go_enter L.f14,BodyPu.n14_ntmps ρ
 go_wp2_with (go_at_fn (ρ.f 16);refine z.mono ?_)
 rintro e O ⟨rfl,U⟩
 have d:Below w.heap.size w O:=by
  rcases U with rfl | rfl
  ·exact Below.refl _ _
  ·exact Lib.bytesWorld_below _ _ _
 have M:O.cell? ⟨(ρ.g 1),0,none⟩=some m:=(d.cell (show (⟨(ρ.g 1),0,none⟩:Addr).block<w.heap.size from hG)).trans V
 clear U
 go_wp2_with (go_at_fn (ρ.f 17);refine (AnyPu.strconv_toError_range { L with } ⟨#[80,97,114,115,101,85,105,110,116]⟩ s 16 64 m _ o ?_ H).mono ?_)
 ·exact M
 rintro e W2 ⟨N,rfl,h1,h2,h3⟩
 go_wp2
 go_ret2
 exact ⟨N,rfl,d.trans (h3.mono d.size)⟩
end Go.Ab
