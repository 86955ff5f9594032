/- A part of the proof: lemmas on how the program runs over plain data. -/
import Derived.Test.YticdffgjgfmicaaGreatDoorGenKa
set_option linter.unusedVariables false
set_option linter.unusedSimpArgs false
set_option linter.unnecessarySimpa false
namespace Go.Ab
open Go Go.Proofs
set_option maxRecDepth 100000
noncomputable section
variable(uu:Nat)
def F56(m o:PV):Option Bool:=(F84 m o).bind λt=>some t
def F56c:KT:=xj 56 ⟨2,[],sv72⟩ f0 (u2 F56) [F84c]
def F34(M m:PV)(J:Int):Option Bool:=cond (J==5) ((F53 (m.fld 1) (M.fld 1).asStr).bind λO=>some O.2) (cond (J==6) ((F54 (m.fld 1)).bind λz=>some ((m.fld 2).asInt==z)) ((F55 (m.fld 1)).bind λo=>(cond o (F57 (m.fld 1)) (some PV.bad)).bind λG=>(cond o (F56 (m.fld 1) G) (some false)).bind λH=>let t:=cond o H false;(cond t (F58 (m.fld 1)) (some [])).bind λI=>some (cond t (!(I==([]:Bn))) false)))
def F34c:KT:=xj 34 ⟨3,[],[.data 37,.data 45,.int .i64]⟩ f0 (u3 F34) [F53c,F54c,F55c,F57c,F56c,F58c]
def S15_6(J:Int)(O:Unit)(m t:Int)(o:PV):Option (T107a⊕((Bool×PV)⊕(Int×Unit×Int×PV))):=let z:=(o.fld 1).asList;cond (aab m z.length) (cond (decide (t<(((z.getD m.toNat .bad).fld 4).asList.length:Int))) (let G:=(o.fld 1).asList;cond (aab m G.length) (let H:=(o.fld 1).asList;cond (aab m H.length) (let I:=((H.getD m.toNat .bad).fld 4).asList;cond (aab t I.length) ((F34 (G.getD m.toNat .bad) (I.getD t.toNat .bad) J).bind λM=>cond (!M) (some (.inr (.inl (false,o)))) (some (.inl (J,(),m,(IntKind.wrap .i64 (t+1)),o)))) none) none) none) (some (.inr (.inr (J,(),m,o))))) none
def S15_3(H:Int)(I:Unit)(G:Int)(t:PV):Option ((Int×Unit×Int×PV)⊕T71a):=cond (decide (G<((t.fld 1).asList.length:Int))) ((aad 0 (Y5 S15_6) (H,(),G,(0:Int),t)).bind λz=>sumE (λo=>some (.inr (.inl (o.1,o.2))) ) (λm=>some (.inl (m.1,(),(IntKind.wrap .i64 (m.2.2.1+1)),m.2.2.2)) ) z) (some (.inr (.inr t)))
def F15(o:PV)(t:Int):Option Bool:=(aad 0 (Y4 S15_3) (t,(),(0:Int),o)).bind λz=>sumE (λm=>some m.1 ) (λG=>some true ) z
def S15_6l:LoopE:=⟨6,⟨[1,2,5,6],bx1,(.int .i64)::(.con (.ref 0 [] 24))::sv4⟩,[(.ret,⟨[4],bx1,sv2⟩),(.exit 2,f97)],(Y5 S15_6)⟩
def S15_3l:LoopE:=⟨3,f97,[(.ret,⟨[4],bx1,sv2⟩),(.exit 0,f60)],(Y4 S15_3)⟩
def F15c:KT:=xf 15 f89 f0 (u2 F15) [F34c] [S15_6l,S15_3l] (L1 (xl S15_3l (L1 (xl S15_6l L0))))
def S5_7(J:Unit)(o:Int)(t:PV):Option (T16a⊕T103a):=cond (decide (o<((t.fld 1).asList.length:Int))) (let z:=(t.fld 1).asList;cond (aab o z.length) ((F13 ((z.getD o.toNat .bad).fld 0).asStr).bind λH=>let m:=!H;let G:=(t.fld 1).asList;cond (imp (!m) (aab o G.length)) ((cond (!m) (F13 ((G.getD o.toNat .bad).fld 1).asStr) (some false)).bind λI=>cond (cond m true (!I)) (some (.inr (.inl ((8:Int),t)))) (some (.inl ((),(IntKind.wrap .i64 (o+1)),t)))) none) none) (some (.inr (.inr ((),t))))
def S5_14(G:Unit)(o:Int)(m:PV):Option (T16a⊕T103a):=cond (decide (o<((m.fld 1).asList.length:Int))) (let t:=(m.fld 1).asList;cond (aab o t.length) ((F14 (t.getD o.toNat .bad)).bind λz=>cond (!z) (some (.inr (.inl ((1:Int),m)))) (some (.inl ((),(IntKind.wrap .i64 (o+1)),m)))) none) (some (.inr (.inr ((),m))))
def F5(t:PV):Option Int:=(F11 t).bind λO=>cond O (some (3:Int)) ((F12 t).bind λU=>cond (!U) (some (11:Int)) ((aad 0 (Y3 S5_7) ((),(0:Int),t)).bind λz=>sumE (λG=>some G.1 ) (λo=>cond (decide ((o.2.fld 0).asInt<0)) (some (1:Int)) ((aad 0 (Y3 S5_14) ((),(0:Int),o.2)).bind λz=>sumE (λH=>some H.1 ) (λm=>(F15 m.2 (5:Int)).bind λI=>cond (!I) (some (10:Int)) ((F15 m.2 (6:Int)).bind λJ=>cond (!J) (some (25:Int)) ((F15 m.2 (7:Int)).bind λM=>cond (!M) (some (5:Int)) (some (0:Int)))) ) z) ) z))
def S5_7l:LoopE:=⟨7,f62,[(.ret,⟨[2],bx1,sv1⟩),(.exit 0,f73)],(Y3 S5_7)⟩
def S5_14l:LoopE:=⟨14,⟨[1,4],bx1,sv3⟩,[(.ret,⟨[2],bx1,sv1⟩),(.exit 2,f73)],(Y3 S5_14)⟩
def F5c:KT:=xf 5 f56 f5 F5 [F11c,F12c,F13c,F14c,F15c] [S5_7l,S5_14l] (L2 (xl S5_7l L0) (xl S5_14l L0))
def S16_7(G H:Int)(o:List PV)(I m:Int)(t z:PV):Option (T93a⊕((Int×Int×Bool×PV×PV)⊕(PV×PV))):=cond (decide (m<I)) (cond (aab m o.length) (cond ((((o.getD m.toNat .bad).fld 0).asInt)==G) (some (.inr (.inl (H,m,true,t,z)))) (some (.inl (G,H,o,I,(IntKind.wrap .i64 (m+1)),t,z)))) none) (some (.inr (.inr (t,z))))
def S16_3(M:Bn)(O:Int)(H:List PV)(U t:Int)(I:PV):Option (T39a⊕((Int×Int×Bool×PV)⊕(PV))):=cond (decide (t<U)) (cond (aab t H.length) (let o:=H.getD t.toNat .bad;cond (!((o.fld 0).asStr==M)) (some (.inl (M,O,H,U,(IntKind.wrap .i64 (t+1)),I))) (let G:=(o.fld 4).asList;(aad 0 (Y7 S16_7) (O,t,G,(G.length:Int),(0:Int),I,o)).bind λz=>sumE (λm=>some (.inr (.inl (m.1,m.2.1,m.2.2.1,m.2.2.2.1))) ) (λJ=>some (.inr (.inl ((0:Int),(0:Int),false,J.1))) ) z)) none) (some (.inr (.inr I)))
def F16(o:PV)(t:Bn)(G:Int):Option (Int×Int×Bool):=let x1:=(o.fld 1).asList;(aad 0 (Y6 S16_3) (t,G,x1,(x1.length:Int),(0:Int),o)).bind λz=>sumE (λm=>some (m.1,m.2.1,m.2.2.1) ) (λH=>some ((0:Int),(0:Int),false) ) z
def S16_7l:LoopE:=⟨7,⟨[2,9,26,27,28],bx31,(.int .i64)::(.int .i64)::(.slice 45)::(.int .i64)::(.int .i64)::sv74⟩,[(.ret,⟨[6,7,8],bx31,(.int .i64)::(.int .i64)::.bool::sv74⟩),(.exit 2,⟨[],bx31,sv74⟩)],(Y7 S16_7)⟩
def S16_3l:LoopE:=⟨3,⟨[1,2,14,15,16],bx1,.str::(.int .i64)::(.slice 37)::sv4⟩,[(.ret,⟨[6,7,8],bx1,(.int .i64)::(.int .i64)::sv2⟩),(.exit 0,f60)],(Y6 S16_3)⟩
def F16c:KT:=xf 16 ⟨3,[],(.data 24)::sv5⟩ ⟨3,[],[.int .i64,.int .i64,.bool]⟩ (u3 F16) [] [S16_7l,S16_3l] (L1 (xl S16_3l (L1 (xl S16_7l L0))))
def S17_3(z:Unit)(m:Int)(o:PV):Option (T16a⊕T112a):=cond (decide (m>=0)) (let t:=(o.fld 4).asList;cond (aab m t.length) (cond (((t.getD m.toNat .bad).fld 3).asInt != (3:Int)) (some (.inr (.inl (m,o)))) (some (.inl ((),(IntKind.wrap .i64 (m-1)),o)))) none) (some (.inr (.inr o)))
def F17(o:PV):Option Int:=(aad 0 (Y3 S17_3) ((),(IntKind.wrap .i64 (((o.fld 4).asList.length:Int)-1)),o)).bind λz=>sumE (λm=>some m.1 ) (λt=>some (-1:Int) ) z
def S17_3l:LoopE:=⟨3,f83,[(.ret,⟨[2],bx2,sv7⟩),(.exit 0,f95)],(Y3 S17_3)⟩
def F17c:KT:=xf 17 f57 f5 F17 [] [S17_3l] (L1 (xl S17_3l L0))
def F18(H:PV)(t z I J:Int):Option PV:=let x1:=(H.fld 1).asList;cond (decide (x1.length<=accMax)) (cond (aab t x1.length) (let m:=x1.getD t.toNat .bad;let o:=(m.fld 4).asList;cond (decide (o.length<=accMax)) (cond (aab z o.length) (let G:=o.getD z.toNat .bad;cond (aab z o.length) (let M:=o.set z.toNat (PV.agg [.int (G.fld 0).asInt,G.fld 1,.int (G.fld 2).asInt,.int I,.int J]);cond (aab t x1.length) (let O:=x1.set t.toNat (PV.agg [.str (m.fld 0).asStr,.str (m.fld 1).asStr,.int (m.fld 2).asInt,.int (m.fld 3).asInt,.slice M]);some (PV.agg [.int (H.fld 0).asInt,.slice O])) none) none) none) none) none) none
def F18c:KT:=xj 18 ⟨5,[],(.data 24)::(.int .i64)::sv28⟩ f56 (u5 F18) []
def F6(m:PV)(U:Bn)(V J:Int):Option (PV×Int):=(F16 m U V).bind λG=>let t:=G.1;let z:=G.2.1;cond (!G.2.2) (some (m,(10:Int))) (let M:=(m.fld 1).asList;cond (aab t M.length) (let O:=((M.getD t.toNat .bad).fld 4).asList;cond (aab z O.length) (cond (((O.getD z.toNat .bad).fld 3).asInt != (1:Int)) (some (m,(20:Int))) (cond (decide (J<=(m.fld 0).asInt)) (some (m,(1:Int))) (let o:=(m.fld 1).asList;cond (aab t o.length) ((F17 (o.getD t.toNat .bad)).bind λH=>cond (H==z) (some (m,(20:Int))) ((F18 m t z (2:Int) J).bind λI=>some (I,(0:Int)))) none))) none) none)
def F6c:KT:=xj 6 ⟨4,[],(.data 24)::sv29⟩ f89 (u4 F6) [F16c,F17c,F18c]
def F7(m:PV)(M:Bn)(O:Int):Option (PV×Int):=(F16 m M O).bind λG=>let t:=G.1;let z:=G.2.1;cond (!G.2.2) (some (m,(10:Int))) (let I:=(m.fld 1).asList;cond (aab t I.length) (let J:=((I.getD t.toNat .bad).fld 4).asList;cond (aab z J.length) (let o:=J.getD z.toNat .bad;cond (cond ((o.fld 3).asInt != 2) true (decide ((m.fld 0).asInt<(o.fld 4).asInt))) (some (m,(20:Int))) ((F18 m t z (3:Int) (0:Int)).bind λH=>some (H,(0:Int)))) none) none)
def F7c:KT:=xj 7 ⟨3,[],(.data 24)::sv5⟩ f89 (u3 F7) [F16c,F18c]
def F8(m:PV)(o:Int):Option (PV×Int):=cond (decide (o<(m.fld 0).asInt)) (some (m,(1:Int))) (some ((PV.agg [.int o,.slice (m.fld 1).asList]),(0:Int)))
def F8c:KT:=xj 8 f89 f89 (u2 F8) []
def F20(m:PV):Option Bool:=some (decide (((m.fld 4).asList.length:Int)<=32))
def F20c:KT:=xj 20 f57 f0 F20 []
def F36(m:PV)(t z:Unit):Option (Bool×Unit):=(F20 m).bind λo=>some ((!o),())
def F36c:KT:=xj 36 ⟨2,bx32,[.data 37,(.con (.ref 0 [] 47)),(.con (.fn 20 0 []))]⟩ ⟨1,bx32,[.bool,(.con (.fn 20 0 []))]⟩ (u3 F36) [F20c]
def F59_c36g(e:PV)(c:Unit):Option (Bool×Unit):=F36 e () c
def F59_c36c:KT:=ixK 59 37 (.fn 36 0 [(.ref 0 [] 47)]) [.box 47 .leaf] (.con (.fn 20 0 [])) [] F59_c36g (F36c)
def F35_c36(m:List PV)(t o:Unit):Option (Bool×Unit):=cfF F59_c36g m o
def F35_c36c:KT:=cfK 35 37 (.fn 36 0 [(.ref 0 [] 47)]) [.box 47 .leaf] (.con (.fn 20 0 [])) [] F59_c36g (F59_c36c)
def F19_c20(m:PV)(t:Unit):Option Bool:=(F35_c36 (m.fld 1).asList () ()).bind λo=>some (!o.1)
def F19_c20c:KT:=xj 19 ⟨2,[],[.data 24,(.con (.fn 20 0 []))]⟩ f0 (u2 F19_c20) [F35_c36c]
def S21_3(m:List PV)(o:Int):Option (T58a⊕T21a):=cond (decide (o<(m.length:Int))) (let t:=IntKind.wrap .i64 (o-1);cond (aab t m.length) (cond (aab o m.length) (cond (!(Op.bytesLess ((m.getD t.toNat .bad).fld 0).asStr ((m.getD o.toNat .bad).fld 0).asStr)) (some (.inr (.inl false))) (some (.inl (m,(IntKind.wrap .i64 (o+1)))))) none) none) (some (.inr (.inr ())))
def F21(o:List PV):Option Bool:=(aad 0 (Y2 S21_3) (o,(1:Int))).bind λz=>sumE (λm=>some m ) (λt=>some true ) z
def S21_3l:LoopE:=⟨3,⟨[0,3],[],[.slice 37,.int .i64]⟩,[(.ret,f16),(.exit 0,f9)],(Y2 S21_3)⟩
def F21c:KT:=xf 21 ⟨1,[],[.slice 37]⟩ f0 F21 [] [S21_3l] (L1 (xl S21_3l L0))
def S22_3(o:List PV)(z m:Int)(t:PV):Option (T110a⊕T71a):=cond (decide (m<z)) (cond (aab m o.length) (cond ((((o.getD m.toNat .bad).fld 0).asInt) != (IntKind.wrap .i64 (m+1))) (some (.inr (.inl (false,t)))) (some (.inl (o,z,(IntKind.wrap .i64 (m+1)),t)))) none) (some (.inr (.inr t)))
def F22(o:PV):Option Bool:=let x1:=(o.fld 4).asList;(aad 0 (Y4 S22_3) (x1,(x1.length:Int),(0:Int),o)).bind λz=>sumE (λm=>some m.1 ) (λt=>some true ) z
def S22_3l:LoopE:=⟨3,⟨[6,7,8],bx2,(.slice 45)::(.int .i64)::sv7⟩,[(.ret,f124),(.exit 0,f95)],(Y4 S22_3)⟩
def F22c:KT:=xf 22 f57 f0 F22 [] [S22_3l] (L1 (xl S22_3l L0))
def F36_v1(m:PV)(t z:Unit):Option (Bool×Unit):=(F22 m).bind λo=>some ((!o),())
def F36_v1c:KT:=xj 36 ⟨2,bx32,[.data 37,(.con (.ref 0 [] 47)),(.con (.fn 22 0 []))]⟩ ⟨1,bx32,[.bool,(.con (.fn 22 0 []))]⟩ (u3 F36_v1) [F22c]
def F59_c36_v1g(e:PV)(c:Unit):Option (Bool×Unit):=F36_v1 e () c
def F59_c36_v1c:KT:=ixK 59 37 (.fn 36 0 [(.ref 0 [] 47)]) [.box 47 .leaf] (.con (.fn 22 0 [])) [] F59_c36_v1g (F36_v1c)
def F35_c36_v1(m:List PV)(t o:Unit):Option (Bool×Unit):=cfF F59_c36_v1g m o
def F35_c36_v1c:KT:=cfK 35 37 (.fn 36 0 [(.ref 0 [] 47)]) [.box 47 .leaf] (.con (.fn 22 0 [])) [] F59_c36_v1g (F59_c36_v1c)
def F19_c22(m:PV)(t:Unit):Option Bool:=(F35_c36_v1 (m.fld 1).asList () ()).bind λo=>some (!o.1)
def F19_c22c:KT:=xj 19 ⟨2,[],[.data 24,(.con (.fn 22 0 []))]⟩ f0 (u2 F19_c22) [F35_c36_v1c]
def F91(m:Int):Option Int:=cond (cond (decide (m>=97)) (decide (m<=122)) false) (some (1:Int)) (cond (cond (decide (m>=65)) (decide (m<=90)) false) (some (2:Int)) (cond (cond (decide (m>=48)) (decide (m<=57)) false) (some (3:Int)) (cond (m==95) (some (4:Int)) (some (0:Int)))))
def F91c:KT:=xj 91 ⟨1,[],[.int .i32]⟩ f5 F91 []
def S61_3(z:Bn)(G:Unit)(o:Bn)(m:Int):Option (T54a⊕((Bool×Bn×Int)⊕(Bn×Bn×Int))):=cond (decide (m.toNat<o.length)) (cond (decide (m.toNat<o.length)) (cond (decide (m.toNat<o.length)) ((F91 ((Utf8.decode ⟨o.toArray⟩ m.toNat).1:Int)).bind λt=>cond (cond (t==0) true (cond (cond ((m.toNat:Int)==0) (t != 1) false) (t != 2) false)) (some (.inr (.inl (false,o,((cond (decide (m.toNat<o.length)) (m.toNat+(Utf8.decode ⟨o.toArray⟩ m.toNat).2) m.toNat:Nat):Int))))) (some (.inl (z,(),o,((cond (decide (m.toNat<o.length)) (m.toNat+(Utf8.decode ⟨o.toArray⟩ m.toNat).2) m.toNat:Nat):Int))))) none) none) (some (.inr (.inr (z,o,((cond (decide (m.toNat<o.length)) (m.toNat+(Utf8.decode ⟨o.toArray⟩ m.toNat).2) m.toNat:Nat):Int)))))
def F61(t:Bn):Option Bool:=(aad 0 (Y4 S61_3) (t,(),t,((0:Nat):Int))).bind λz=>sumE (λo=>some o.1 ) (λm=>some (cond (decide ((m.1.length:Int)>=1)) (decide ((m.1.length:Int)<=40)) false) ) z
def S61_3l:LoopE:=⟨3,⟨[0,7],[.iter],.str::(.con (.iref 0))::sv5⟩,[(.ret,⟨[2],[.iter],.bool::sv5⟩),(.exit 0,⟨[0],[.iter],sv6⟩)],(Y4 S61_3)⟩
def F61c:KT:=xf 61 f4 f0 F61 [F91c] [S61_3l] (L1 (xl S61_3l L0))
def S37_3(z:Bn)(o:List PV)(G m:Int):Option (T64a⊕T115a):=cond (decide (m<G)) (cond (aab m o.length) ((F61 (o.getD m.toNat .bad).asStr).bind λt=>cond (!t) (some (.inr (.inl false))) (some (.inl (z,o,G,(IntKind.wrap .i64 (m+1)))))) none) (some (.inr (.inr z)))
def F37(t:Bn):Option Bool:=(ana 0 t ([46]:Bn)).bind λG=>(aad 0 (Y4 S37_3) (t,G,(G.length:Int),(0:Int))).bind λz=>sumE (λm=>some m ) (λo=>some (decide ((o.length:Int)<=120)) ) z
def S37_3l:LoopE:=⟨3,⟨[0,6,7,8],[],.str::(.slice 9)::sv54⟩,[(.ret,f16),(.exit 0,f119)],(Y4 S37_3)⟩
def F37c:KT:=xf 37 f4 f0 F37 [⟨atg 0,ath 0⟩,F61c] [S37_3l] (L1 (xl S37_3l L0))
def F23(m:PV):Option Bool:=(F37 (m.fld 0).asStr).bind λo=>(cond o (F37 (m.fld 1).asStr) (some false)).bind λt=>some (cond o t false)
def F23c:KT:=xj 23 f57 f0 F23 [F37c]
def F36_v2(m:PV)(t z:Unit):Option (Bool×Unit):=(F23 m).bind λo=>some ((!o),())
def F36_v2c:KT:=xj 36 ⟨2,bx32,[.data 37,(.con (.ref 0 [] 47)),(.con (.fn 23 0 []))]⟩ ⟨1,bx32,[.bool,(.con (.fn 23 0 []))]⟩ (u3 F36_v2) [F23c]
def F59_c36_v2g(e:PV)(c:Unit):Option (Bool×Unit):=F36_v2 e () c
def F59_c36_v2c:KT:=ixK 59 37 (.fn 36 0 [(.ref 0 [] 47)]) [.box 47 .leaf] (.con (.fn 23 0 [])) [] F59_c36_v2g (F36_v2c)
def F35_c36_v2(m:List PV)(t o:Unit):Option (Bool×Unit):=cfF F59_c36_v2g m o
def F35_c36_v2c:KT:=cfK 35 37 (.fn 36 0 [(.ref 0 [] 47)]) [.box 47 .leaf] (.con (.fn 23 0 [])) [] F59_c36_v2g (F59_c36_v2c)
def F19_c23(m:PV)(t:Unit):Option Bool:=(F35_c36_v2 (m.fld 1).asList () ()).bind λo=>some (!o.1)
def F19_c23c:KT:=xj 19 ⟨2,[],[.data 24,(.con (.fn 23 0 []))]⟩ f0 (u2 F19_c23) [F35_c36_v2c]
def F38(m:Int):Option Bool:=some (cond (m==0) true (cond (cond (decide (m>=0)) (decide (m<8)) false) ((m.tmod (4:Int)) != 0) false))
def F38c:KT:=xj 38 f5 f0 F38 []
def F39(m:Int):Option Bool:=some (cond (decide (m>=1)) (decide (m<=7)) false)
def F39c:KT:=xj 39 f5 f0 F39 []
def S24_3(H:Unit)(t:List PV)(G o:Int)(z:PV):Option (T70a⊕T113a):=cond (decide (o<G)) (cond (aab o t.length) (let m:=t.getD o.toNat .bad;cond (cond (cond (cond (decide ((m.fld 3).asInt<1)) true (decide ((m.fld 3).asInt>3))) true (!(((m.fld 3).asInt==2)==(decide (((m.fld 4).asInt)>=1))))) true (cond ((m.fld 3).asInt != 2) ((m.fld 4).asInt != 0) false)) (some (.inr (.inl (false,z)))) (some (.inl ((),t,G,(IntKind.wrap .i64 (o+1)),z)))) none) (some (.inr (.inr ((),z))))
def F24(H:PV):Option Bool:=let x1:=(H.fld 4).asList;(aad 0 (Y5 S24_3) ((),x1,(x1.length:Int),(0:Int),H)).bind λz=>sumE (λt=>some t.1 ) (λm=>(F38 (m.2.fld 2).asInt).bind λo=>(cond o (F39 (m.2.fld 3).asInt) (some false)).bind λG=>some (cond o G false) ) z
def S24_3l:LoopE:=⟨3,⟨[1,6,7,8],bx2,(.con (.ref 0 [] 37))::(.slice 45)::(.int .i64)::sv7⟩,[(.ret,f124),(.exit 0,⟨[1],bx2,[(.con (.ref 0 [] 37)),.data 37]⟩)],(Y5 S24_3)⟩
def F24c:KT:=xf 24 f57 f0 F24 [F38c,F39c] [S24_3l] (L1 (xl S24_3l L0))
def F36_v3(m:PV)(t z:Unit):Option (Bool×Unit):=(F24 m).bind λo=>some ((!o),())
def F36_v3c:KT:=xj 36 ⟨2,bx32,[.data 37,(.con (.ref 0 [] 47)),(.con (.fn 24 0 []))]⟩ ⟨1,bx32,[.bool,(.con (.fn 24 0 []))]⟩ (u3 F36_v3) [F24c]
def F59_c36_v3g(e:PV)(c:Unit):Option (Bool×Unit):=F36_v3 e () c
def F59_c36_v3c:KT:=ixK 59 37 (.fn 36 0 [(.ref 0 [] 47)]) [.box 47 .leaf] (.con (.fn 24 0 [])) [] F59_c36_v3g (F36_v3c)
def F35_c36_v3(m:List PV)(t o:Unit):Option (Bool×Unit):=cfF F59_c36_v3g m o
def F35_c36_v3c:KT:=cfK 35 37 (.fn 36 0 [(.ref 0 [] 47)]) [.box 47 .leaf] (.con (.fn 24 0 [])) [] F59_c36_v3g (F59_c36_v3c)
def F19_c24(m:PV)(t:Unit):Option Bool:=(F35_c36_v3 (m.fld 1).asList () ()).bind λo=>some (!o.1)
def F19_c24c:KT:=xj 19 ⟨2,[],[.data 24,(.con (.fn 24 0 []))]⟩ f0 (u2 F19_c24) [F35_c36_v3c]
def F25_c26(m:Unit):Option (Unit×Unit):=some ((),())
def F25_c26c:KT:=xj 25 ⟨1,[],[(.con (.fn 26 0 []))]⟩ ⟨1,[.box 56 .leaf],[(.con (.fn 40 0 [(.ref 0 [] 56)])),(.con (.fn 26 0 []))]⟩ F25_c26 []
def F64(o:PV)(t:Unit)(m:Bn):Option (Bool×Bn):=some (((o.fld 0).asStr==m),m)
def F64c:KT:=xj 64 ⟨2,bx33,(.data 74)::sv75⟩ f90 (u3 F64) []
def F92_c64g(e:PV)(c:Bn):Option (Bool×Bn):=F64 e () c
def F92_c64c:KT:=ixK 92 74 (.fn 64 0 [(.ref 0 [] 9)]) [.box 9 .leaf] .str [] F92_c64g (F64c)
def F63_c64(m:List PV)(t:Unit)(o:Bn):Option (Bool×Bn):=cfF F92_c64g m o
def F63_c64c:KT:=cfK 63 74 (.fn 64 0 [(.ref 0 [] 9)]) [.box 9 .leaf] .str [] F92_c64g (F92_c64c)
def F43(m:PV)(o:Bn):Option Bool:=(F63_c64 (m.fld 0).asList () o).bind λt=>some t.1
def F43c:KT:=xj 43 f75 f0 (u2 F43) [F63_c64c]
def F26(m o:PV):Option Bool:=(F43 (o.fld 1) (m.fld 1).asStr).bind λt=>some t
def F26c:KT:=xj 26 ⟨2,[],sv76⟩ f0 (u2 F26) [F43c]
def F42(o:PV)(z G H:Unit)(m:PV):Option (Bool×Unit×PV):=(F26 m o).bind λt=>some ((!t),(),m)
def F42c:KT:=xj 42 ⟨3,bx34,[.data 45,(.con (.ref 0 [] 56)),(.con (.ref 1 [] 37)),(.con (.fn 26 0 [])),.data 37]⟩ ⟨1,bx34,[.bool,(.con (.fn 26 0 [])),.data 37]⟩ (u5 F42) [F26c]
def F62_c42g(e:PV)(c:Unit×PV):Option (Bool×Unit×PV):=F42 e () () c.1 c.2
def F62_c42c:KT:=ixK 62 45 (.fn 42 0 [(.ref 0 [] 56),(.ref 1 [] 37)]) [.box 56 .leaf,.box 37 .leaf] (.con (.fn 26 0 [])) [.data 37] F62_c42g (F42c)
def F41_c42(m:List PV)(z o:Unit)(t:PV):Option (Bool×Unit×PV):=cfF F62_c42g m (o,t)
def F41_c42c:KT:=cfK 41 45 (.fn 42 0 [(.ref 0 [] 56),(.ref 1 [] 37)]) [.box 56 .leaf,.box 37 .leaf] (.con (.fn 26 0 [])) [.data 37] F62_c42g (F62_c42c)
def F40(m:PV)(t z:Unit):Option (Bool×Unit):=(F41_c42 (m.fld 4).asList () () m).bind λo=>some ((!o.1),())
def F40c:KT:=xj 40 ⟨2,bx35,(.data 37)::(.con (.ref 0 [] 56))::sv77⟩ ⟨1,bx35,.bool::sv77⟩ (u3 F40) [F41_c42c]
def F36_v4(m:PV)(t z G:Unit):Option (Bool×Unit×Unit):=(F40 m () ()).bind λo=>some ((!o.1),(),())
def F36_v4c:KT:=xj 36 ⟨2,bx36,(.data 37)::(.con (.ref 0 [] 47))::(.con (.fn 40 0 [(.ref 1 [] 56)]))::sv77⟩ ⟨1,bx36,.bool::(.con (.fn 40 0 [(.ref 1 [] 56)]))::sv77⟩ (u4 F36_v4) [F40c]
def F59_c36_v4g(e:PV)(c:Unit×Unit):Option (Bool×Unit×Unit):=F36_v4 e () c.1 c.2
def F59_c36_v4c:KT:=ixK 59 37 (.fn 36 0 [(.ref 0 [] 47)]) [.box 47 .leaf,.box 56 .leaf] (.con (.fn 40 0 [(.ref 1 [] 56)])) [(.con (.fn 26 0 []))] F59_c36_v4g (F36_v4c)
def F35_c36_v4(m:List PV)(z o t:Unit):Option (Bool×Unit×Unit):=cfF F59_c36_v4g m (o,t)
def F35_c36_v4c:KT:=cfK 35 37 (.fn 36 0 [(.ref 0 [] 47)]) [.box 47 .leaf,.box 56 .leaf] (.con (.fn 40 0 [(.ref 1 [] 56)])) [(.con (.fn 26 0 []))] F59_c36_v4g (F59_c36_v4c)
def F19_c40(m:PV)(t z:Unit):Option (Bool×Unit):=(F35_c36_v4 (m.fld 1).asList () () ()).bind λo=>some ((!o.1),())
def F19_c40c:KT:=xj 19 ⟨2,[.box 56 .leaf],[.data 24,(.con (.fn 40 0 [(.ref 0 [] 56)])),(.con (.fn 26 0 []))]⟩ ⟨1,[.box 56 .leaf],[.bool,(.con (.fn 26 0 []))]⟩ (u3 F19_c40) [F35_c36_v4c]
def F25_c27(m:Unit):Option (Unit×Unit):=some ((),())
def F25_c27c:KT:=xj 25 ⟨1,[],[(.con (.fn 27 0 []))]⟩ ⟨1,[.box 56 .leaf],[(.con (.fn 40 0 [(.ref 0 [] 56)])),(.con (.fn 27 0 []))]⟩ F25_c27 []
def S93_4(O U V:Unit)(I:List PV)(J H:Int)(M o:PV)(m t z:List PV):Option (T0a⊕T8a):=cond (decide (H<J)) (cond (aab H I.length) (let G:=((I.getD H.toNat .bad).fld 0).asStr;cond (decide (m.length+[(PV.str G)].length<=accMax)) (some (.inl ((),(),(),I,J,(IntKind.wrap .i64 (H+1)),M,o,(m++[(PV.str G)]),t,z))) none) none) (some (.inr ((),(),(),M,o,m,t,z)))
def S93_9(O U V:Unit)(o:List PV)(z m:Int)(G H:PV)(I t J:List PV):Option (T0a⊕T8a):=cond (decide (m<z)) (cond (aab m o.length) (let M:=((o.getD m.toNat .bad).fld 0).asStr;cond (decide (t.length+[(PV.str M)].length<=accMax)) (some (.inl ((),(),(),o,z,(IntKind.wrap .i64 (m+1)),G,H,I,(t++[(PV.str M)]),J))) none) none) (some (.inr ((),(),(),G,H,I,t,J)))
def S93_14(O U:Unit)(o:List PV)(z m:Int)(G H:PV)(I J t:List PV):Option (T14a⊕T45a):=cond (decide (m<z)) (cond (aab m o.length) (let M:=((o.getD m.toNat .bad).fld 0).asStr;cond (decide (t.length+[(PV.str M)].length<=accMax)) (some (.inl ((),(),o,z,(IntKind.wrap .i64 (m+1)),G,H,I,J,(t++[(PV.str M)])))) none) none) (some (.inr ((),(),G,H,I,J,t)))
def F93(H:PV):Option PV:=let x1:=(H.fld 0).asList;(aad 0 (Y11 S93_4) ((),(),(),x1,(x1.length:Int),(0:Int),H,(PV.agg [.slice [],.slice [],.slice []]),[],[],[])).bind λm=>let z:=(m.2.2.2.1.fld 1).asList;(aad 0 (Y11 S93_9) ((),(),(),z,(z.length:Int),(0:Int),m.2.2.2.1,m.2.2.2.2.1,m.2.2.2.2.2.1,m.2.2.2.2.2.2.1,m.2.2.2.2.2.2.2)).bind λo=>let G:=(o.2.2.2.1.fld 2).asList;(aad 0 (Y10 S93_14) ((),(),G,(G.length:Int),(0:Int),o.2.2.2.1,o.2.2.2.2.1,o.2.2.2.2.2.1,o.2.2.2.2.2.2.1,o.2.2.2.2.2.2.2)).bind λt=>some (PV.agg [.slice t.2.2.2.2.1,.slice t.2.2.2.2.2.1,.slice t.2.2.2.2.2.2])
def S93_4l:LoopE:=⟨4,⟨[1,2,3,11,12,13],bx37,(.con (.ref 0 [] 42))::(.con (.ref 1 [] 150))::(.con (.ref 2 [] 150))::(.slice 74)::sv78⟩,[(.exit 0,f74)],(Y11 S93_4)⟩
def S93_9l:LoopE:=⟨9,⟨[1,2,3,26,27,28],bx37,(.con (.ref 0 [] 42))::(.con (.ref 1 [] 150))::(.con (.ref 2 [] 150))::(.slice 121)::sv78⟩,[(.exit 2,f74)],(Y11 S93_9)⟩
def S93_14l:LoopE:=⟨14,⟨[2,3,41,42,43],bx37,(.con (.ref 1 [] 150))::(.con (.ref 2 [] 150))::(.slice 127)::sv78⟩,[(.exit 4,⟨[2,3],bx37,sv79⟩)],(Y10 S93_14)⟩
def F93c:KT:=xf 93 f8 ⟨1,[],[.data 150]⟩ F93 [] [S93_4l,S93_9l,S93_14l] (L3 (xl S93_4l L0) (xl S93_9l L0) (xl S93_14l L0))
def F94(H:Unit)(G:Bool)(z:Int)(m:Bn)(o:Int)(t:List PV):Option (Bn×Int×(List PV)):=cond (!G) (cond (decide (t.length+[(PV.agg [.str m,.int o,.int z])].length<=accMax)) (some (m,o,(t++[(PV.agg [.str m,.int o,.int z])]))) none) (some (m,o,t))
def F94c:KT:=xj 94 ⟨3,bx38,(.con (.ref 0 [] 149))::.bool::sv80⟩ f98 (u6 F94) []
def S95_3(m:List PV)(o:Int):Option (T58a⊕T21a):=cond (decide (o<(m.length:Int))) (cond (aab o m.length) (let t:=(m.getD o.toNat .bad).asStr;let z:=IntKind.wrap .i64 (o-1);cond (aab z m.length) (let G:=(m.getD z.toNat .bad).asStr;cond (Op.bytesLess t G||t==G) (some (.inr (.inl false))) (some (.inl (m,(IntKind.wrap .i64 (o+1)))))) none) none) (some (.inr (.inr ())))
def F95(o:List PV):Option Bool:=(aad 0 (Y2 S95_3) (o,(1:Int))).bind λz=>sumE (λm=>some m ) (λt=>some true ) z
def S95_3l:LoopE:=⟨3,f118,[(.ret,f16),(.exit 0,f9)],(Y2 S95_3)⟩
def F95c:KT:=xf 95 f18 f0 F95 [] [S95_3l] (L1 (xl S95_3l L0))
def S239_3(o:List PV)(t:Bn)(z m:Int):Option (T102a⊕T104a):=cond (decide (m<z)) (cond (aab m o.length) (cond (t==(o.getD m.toNat .bad).asStr) (some (.inr (.inl m))) (some (.inl (o,t,z,(IntKind.wrap .i64 (m+1)))))) none) (some (.inr (.inr ())))
def F239(o:List PV)(t:Bn):Option Int:=(aad 0 (Y4 S239_3) (o,t,(o.length:Int),(0:Int))).bind λz=>sumE (λm=>some m ) (λG=>some (-1:Int) ) z
def S239_3l:LoopE:=⟨3,⟨[0,1,7,8],[],(.slice 9)::sv29⟩,[(.ret,f93),(.exit 0,f9)],(Y4 S239_3)⟩
def F239c:KT:=xf 239 ⟨2,[],sv16⟩ f5 (u2 F239) [] [S239_3l] (L1 (xl S239_3l L0))
def F146(m:List PV)(o:Bn):Option Bool:=(F239 m o).bind λt=>some (decide (t>=0))
def F146c:KT:=xj 146 ⟨2,[],sv16⟩ f0 (u2 F146) [F239c]
def F145(t:Bn)(G H:Unit)(o:PV)(m:Int):Option (Bool×PV×Int):=cond (aab m 3) ((F146 (o.fld m.toNat).asList t).bind λz=>some (z,o,m)) none
def F145c:KT:=xj 145 ⟨3,[.box 150 .leaf,.box 3 .leaf],[.str,(.con (.ref 0 [] 150)),(.con (.ref 1 [] 3)),.data 150,.int .i64]⟩ ⟨1,[.box 150 .leaf,.box 3 .leaf],[.bool,.data 150,.int .i64]⟩ (u5 F145) [F146c]
def F238_c145g(e:PV)(c:PV×Int):Option (Bool×PV×Int):=F145 e.asStr () () c.1 c.2
def F238_c145c:KT:=ixK 238 9 (.fn 145 0 [(.ref 0 [] 150),(.ref 1 [] 3)]) [.box 150 .leaf,.box 3 .leaf] (.data 150) [.int .i64] F238_c145g (F145c)
def F144_c145(m:List PV)(z:Unit)(o:PV)(t:Int):Option (Bool×PV×Int):=cfF F238_c145g m (o,t)
def F144_c145c:KT:=cfK 144 9 (.fn 145 0 [(.ref 0 [] 150),(.ref 1 [] 3)]) [.box 150 .leaf,.box 3 .leaf] (.data 150) [.int .i64] F238_c145g (F238_c145c)
def S96_6(I:Unit)(t G H z:Int)(m:PV):Option (T106a⊕T90a):=cond (decide (z<H)) (cond (aab t 3) ((F144_c145 (m.fld t.toNat).asList () m z).bind λo=>cond o.1 (some (.inr (.inl (false,o.2.1)))) (some (.inl ((),t,G,H,(IntKind.wrap .i64 (z+1)),o.2.1)))) none) (some (.inr (.inr ((),G,m))))
def S96_3(H:Unit)(t:Int)(G:PV):Option (T16a⊕T71a):=cond (decide (t<3)) ((aad 0 (Y6 S96_6) ((),t,t,t,(0:Int),G)).bind λz=>sumE (λm=>some (.inr (.inl (m.1,m.2))) ) (λo=>some (.inl ((),(IntKind.wrap .i64 (o.2.1+1)),o.2.2)) ) z) (some (.inr (.inr G)))
def F96(o:PV):Option Bool:=(aad 0 (Y3 S96_3) ((),(0:Int),o)).bind λz=>sumE (λm=>some m.1 ) (λt=>some true ) z
def S96_6l:LoopE:=⟨6,⟨[1,3,5,8,9],bx39,(.con (.ref 0 [] 150))::(.int .i64)::(.int .i64)::(.int .i64)::sv82⟩,[(.ret,f104),(.exit 2,f77)],(Y6 S96_6)⟩
def S96_3l:LoopE:=⟨3,f77,[(.ret,f104),(.exit 0,⟨[],bx39,[.data 150]⟩)],(Y3 S96_3)⟩
def F96c:KT:=xf 96 ⟨1,[],[.data 150]⟩ f0 F96 [F144_c145c] [S96_6l,S96_3l] (L1 (xl S96_3l (L1 (xl S96_6l L0))))
def F240(o:PV)(t:Unit)(m:Bn):Option (Bool×Bn):=some (((o.fld 0).asStr==m),m)
def F240c:KT:=xj 240 ⟨2,bx33,(.data 74)::sv75⟩ f90 (u3 F240) []
def F92_c240g(e:PV)(c:Bn):Option (Bool×Bn):=F240 e () c
def F92_c240(m:List PV)(t:Unit)(o:Bn):Option (Int×Bn):=ixF F92_c240g m o
def F92_c240c:KT:=ixK 92 74 (.fn 240 0 [(.ref 0 [] 9)]) [.box 9 .leaf] .str [] F92_c240g (F240c)
def F147(o:PV)(z:Bn):Option (PV×Bool):=(F92_c240 (o.fld 0).asList () z).bind λG=>let m:=G.1;cond (decide (m<0)) (some ((PV.agg [.str ([]:Bn),.slice [],.slice [],.slice [],.slice []]),false)) (let t:=(o.fld 0).asList;cond (aab m t.length) (some ((t.getD m.toNat .bad),true)) none)
def F147c:KT:=xj 147 f75 ⟨2,[],[.data 74,.bool]⟩ (u2 F147) [F92_c240c]
def S148_4(t z:List PV)(G m:Int)(H:PV):Option (T57a⊕T116a):=cond (decide (m<G)) (cond (aab m z.length) (let I:=z.getD m.toNat .bad;cond (cond ((I.fld 2).asInt==1) ((((I.fld 4).fld 0).asInt)==10) false) (let o:=((I.fld 4).fld 1).asStr;cond (decide (t.length+[(PV.str o)].length<=accMax)) (some (.inl ((t++[(PV.str o)]),z,G,(IntKind.wrap .i64 (m+1)),H))) none) (some (.inl (t,z,G,(IntKind.wrap .i64 (m+1)),H)))) none) (some (.inr (t,H)))
def F148(o:PV):Option ((List PV)):=let x1:=(o.fld 1).asList;(aad 0 (Y5 S148_4) ([],x1,(x1.length:Int),(0:Int),o)).bind λm=>some m.1
def S148_4l:LoopE:=⟨4,⟨[3,7,8,9],[.box 74 .leaf,.acc],[.acc 1 9,.slice 69,.int .i64,.int .i64,.data 74]⟩,[(.exit 0,⟨[3],[.box 74 .leaf,.acc],[.acc 1 9,.data 74]⟩)],(Y5 S148_4)⟩
def F148c:KT:=xf 148 f45 f18 F148 [] [S148_4l] (L1 (xl S148_4l L0))
def F149(m:Bn)(G H:Unit)(o:PV)(I:Unit)(t:List (PV×PV)):Option (Bool×PV×Unit×(List (PV×PV))):=(F147 o m).bind λz=>some ((cond z.2 (!(((PV.mget t (PV.str m)).getD (PV.bool false)).asBool)) false),o,(),t)
def F149c:KT:=xj 149 ⟨3,bx40,[.str,(.con (.ref 0 [] 42)),(.con (.ref 1 [] 155)),.data 42,(.con (.mref 2)),.map 9 4]⟩ ⟨1,bx40,[.bool,.data 42,(.con (.mref 2)),.map 9 4]⟩ (u6 F149) [F147c]
def F238_c149g(e:PV)(c:PV×Unit×(List (PV×PV))):Option (Bool×PV×Unit×(List (PV×PV))):=F149 e.asStr () () c.1 c.2.1 c.2.2
def F238_c149c:KT:=ixK 238 9 (.fn 149 0 [(.ref 0 [] 42),(.ref 1 [] 155)]) [.box 42 .leaf,.box 155 .leaf,.map 9 4] (.data 42) [(.con (.mref 2)),.map 9 4] F238_c149g (F149c)
def F144_c149(m:List PV)(G:Unit)(o:PV)(t:Unit)(z:List (PV×PV)):Option (Bool×PV×Unit×(List (PV×PV))):=cfF F238_c149g m (o,t,z)
def F144_c149c:KT:=cfK 144 9 (.fn 149 0 [(.ref 0 [] 42),(.ref 1 [] 155)]) [.box 42 .leaf,.box 155 .leaf,.map 9 4] (.data 42) [(.con (.mref 2)),.map 9 4] F238_c149g (F238_c149c)
def S97_6(V W:Unit)(z G:Int)(t:List PV)(H m:Int)(I:PV)(J:List (PV×PV))(X:Unit):Option (T56a⊕T51a):=cond (decide (m<H)) (cond (aab m t.length) (let M:=t.getD m.toNat .bad;(F147 I (M.fld 0).asStr).bind λO=>(F148 O.1).bind λU=>(F144_c149 U () I () J).bind λo=>cond (!o.1) (some (.inl ((),(),z,G,t,H,(IntKind.wrap .i64 (m+1)),o.2.1,PV.mput o.2.2.2 (PV.str (M.fld 0).asStr) (PV.bool true),()))) (some (.inl ((),(),z,G,t,H,(IntKind.wrap .i64 (m+1)),o.2.1,o.2.2.2,())))) none) (some (.inr ((),(),z,G,I,J,())))
def S97_4(J M:Unit)(z G:Int)(t:PV)(H:List (PV×PV))(I:Unit):Option (T51a⊕(Unit×PV×(List (PV×PV))×Unit)):=cond (decide (G<z)) (let o:=(t.fld 0).asList;(aad 0 (Y10 S97_6) ((),(),z,G,o,(o.length:Int),(0:Int),t,H,())).bind λm=>some (.inl ((),(),m.2.2.1,(IntKind.wrap .i64 (m.2.2.2.1+1)),m.2.2.2.2.1,m.2.2.2.2.2.1,()))) (some (.inr ((),t,H,())))
def F97(o:PV):Option ((List (PV×PV))):=(aad 0 (Y7 S97_4) ((),(),(IntKind.wrap .i64 (((o.fld 0).asList.length:Int)+1)),(0:Int),o,[],())).bind λm=>some m.2.2.1
def S97_6l:LoopE:=⟨6,⟨[1,3,13,14,17,18,19],bx41,(.con (.ref 0 [] 42))::(.con (.ref 2 [] 155))::(.int .i64)::(.int .i64)::(.slice 74)::sv83⟩,[(.exit 2,f48)],(Y10 S97_6)⟩
def S97_4l:LoopE:=⟨4,f48,[(.exit 0,⟨[3],bx41,(.con (.ref 2 [] 155))::sv84⟩)],(Y7 S97_4)⟩
def F97c:KT:=xf 97 f8 ⟨1,[],[.map 9 4]⟩ F97 [F147c,F148c,F144_c149c] [S97_6l,S97_4l] (L1 (xl S97_4l (L1 (xl S97_6l L0))))
def F241(m:Bn):Option Bool:=cond (m==([109,101,115,115,97,103,101]:Bn)) (some true) (cond (m==([101,110,117,109]:Bn)) (some true) (cond (m==([115,101,114,118,105,99,101]:Bn)) (some true) (cond (m==([117,110,105,111,110]:Bn)) (some true) (cond (m==([109,97,112]:Bn)) (some true) (cond (m==([108,105,115,116]:Bn)) (some true) (let t:=m==([114,101,113,117,105,114,101,100]:Bn);cond t (some true) (let z:=m==([111,112,116,105,111,110,97,108]:Bn);cond z (some true) (cond (m==([112,108,97,105,110]:Bn)) (some true) (cond (m==([100,101,102,97,117,108,116]:Bn)) (some true) (let o:=m==([114,101,115,101,114,118,101,100]:Bn);cond o (some true) (cond (m==([105,109,112,111,114,116]:Bn)) (some true) (cond (m==([115,112,97,99,101]:Bn)) (some true) (cond (m==([114,112,99]:Bn)) (some true) (cond (m==([115,116,114,101,97,109]:Bn)) (some true) (cond (m==([114,101,116,117,114,110,115]:Bn)) (some true) (cond (m==([111,112,101,110]:Bn)) (some true) (cond (m==([116,114,117,101]:Bn)) (some true) (cond (m==([102,97,108,115,101]:Bn)) (some true) (cond (m==([110,97,110]:Bn)) (some true) (cond (m==([105,110,102]:Bn)) (some true) (some false)))))))))))))))))))))
def F241c:KT:=xj 241 f4 f0 F241 []
def F238_c241g(e:PV):Option Bool:=F241 e.asStr
def F238_c241c:KT:=ixK0 238 9 (.fn 241 0 []) F238_c241g (F241c)
def F144_c241(m:List PV)(o:Unit):Option Bool:=cfF0 F238_c241g m
def F144_c241c:KT:=cfK0 144 9 (.fn 241 0 []) F238_c241g (F238_c241c)
def F150(o:Bn):Option Bool:=(F37 o).bind λm=>(cond m (ana 0 o ([46]:Bn)) (some [])).bind λt=>(cond m (F144_c241 t ()) (some false)).bind λz=>some (cond m (!z) false)
def F150c:KT:=xj 150 f4 f0 F150 [F37c,⟨atg 0,ath 0⟩,F144_c241c]
def F156(m:Bn):Option Bool:=(F61 m).bind λo=>(cond o (F241 m) (some false)).bind λt=>some (cond o (!t) false)
def F156c:KT:=xj 156 f4 f0 F156 [F61c,F241c]
def F243(m:PV):Option Bn:=some ((m.fld 1).asStr)
def F243c:KT:=xj 243 f19 f4 F243 []
def F334(t:PV)(H I J M:Unit)(m:List PV)(o:Int):Option (Bool×Unit×(List PV)×Int):=(F243 t).bind λz=>cond (aab o m.length) ((F243 (m.getD o.toNat .bad)).bind λG=>some ((z==G),(),m,o)) none
def F334c:KT:=xj 334 ⟨4,bx42,(.data 69)::(.con (.ref 0 [] 281))::(.con (.ref 1 [] 70))::(.con (.ref 2 [] 3))::(.con (.fn 243 0 []))::sv53⟩ ⟨1,bx42,.bool::(.con (.fn 243 0 []))::sv53⟩ (λx=>F334 x.1 x.2.1 x.2.2.1 x.2.2.2.1 x.2.2.2.2.1 x.2.2.2.2.2.1 x.2.2.2.2.2.2) [F243c]
def F393_c334g(e:PV)(c:Unit×(List PV)×Int):Option (Bool×Unit×(List PV)×Int):=F334 e () () () c.1 c.2.1 c.2.2
def F393_c334c:KT:=ixK 393 69 (.fn 334 0 [(.ref 0 [] 281),(.ref 1 [] 70),(.ref 2 [] 3)]) [.box 281 .leaf,.box 70 .leaf,.box 3 .leaf] (.con (.fn 243 0 [])) [.slice 69,.int .i64] F393_c334g (F334c)
def F333_c334(m:List PV)(G o:Unit)(t:List PV)(z:Int):Option (Bool×Unit×(List PV)×Int):=cfF F393_c334g m (o,t,z)
def F333_c334c:KT:=cfK 333 69 (.fn 334 0 [(.ref 0 [] 281),(.ref 1 [] 70),(.ref 2 [] 3)]) [.box 281 .leaf,.box 70 .leaf,.box 3 .leaf] (.con (.fn 243 0 [])) [.slice 69,.int .i64] F393_c334g (F393_c334c)
def F242_c243(o:List PV)(m:Int)(z:Unit):Option Bool:=cond (decide (0<=(0:Int)/\(0:Int)<=m/\m<=(o.length:Int))) ((F333_c334 ((o.take m.toNat).drop (0:Int).toNat) () () o m).bind λt=>some t.1) none
def F242_c243c:KT:=xj 242 ⟨3,[],[.slice 69,.int .i64,(.con (.fn 243 0 []))]⟩ f0 (u3 F242_c243) [F333_c334c]
def F253(o:PV)(t:Unit)(m:Int):Option (Bool×Int):=some ((cond (decide ((o.fld 0).asInt<=m)) (decide (m<=(o.fld 1).asInt)) false),m)
def F253c:KT:=xj 253 f55 f58 (u3 F253) []
def F344_c253g(e:PV)(c:Int):Option (Bool×Int):=F253 e () c
def F344_c253c:KT:=ixK 344 117 (.fn 253 0 [(.ref 0 [] 3)]) [.box 3 .leaf] (.int .i64) [] F344_c253g (F253c)
def F252_c253(m:List PV)(t:Unit)(o:Int):Option (Bool×Int):=cfF F344_c253g m o
def F252_c253c:KT:=cfK 252 117 (.fn 253 0 [(.ref 0 [] 3)]) [.box 3 .leaf] (.int .i64) [] F344_c253g (F344_c253c)
def F159(m:List PV)(o:Int):Option Bool:=(F252_c253 m () o).bind λt=>some t.1
def F159c:KT:=xj 159 f114 f0 (u2 F159) [F252_c253c]
def F244(o m:Int):Option Bool:=cond (o != 5) (some (m==0)) (some (cond (cond (decide (m>=1)) (decide (m<=7)) false) (m != 6) false))
def F244c:KT:=xj 244 ⟨2,[],sv54⟩ f0 (u2 F244) []
def F395(o:PV)(t:Unit)(m:Bn):Option (Bool×Bn):=some (((o.fld 0).asStr==m),m)
def F395c:KT:=xj 395 ⟨2,bx33,(.data 121)::sv75⟩ f90 (u3 F395) []
def F394_c395g(e:PV)(c:Bn):Option (Bool×Bn):=F395 e () c
def F394_c395(m:List PV)(t:Unit)(o:Bn):Option (Int×Bn):=ixF F394_c395g m o
def F394_c395c:KT:=ixK 394 121 (.fn 395 0 [(.ref 0 [] 9)]) [.box 9 .leaf] .str [] F394_c395g (F395c)
def F335(o:PV)(z:Bn):Option (PV×Bool):=(F394_c395 (o.fld 1).asList () z).bind λG=>let m:=G.1;cond (decide (m<0)) (some ((PV.agg [.str ([]:Bn),.bool false,.slice [],.slice [],.slice []]),false)) (let t:=(o.fld 1).asList;cond (aab m t.length) (some ((t.getD m.toNat .bad),true)) none)
def F335c:KT:=xj 335 f75 ⟨2,[],[.data 121,.bool]⟩ (u2 F335) [F394_c395c]
def F245(z m:PV):Option Bool:=cond (cond (decide ((((m.fld 4).fld 0).asInt)>=1)) (decide ((((m.fld 4).fld 0).asInt)<=8)) false) (some ((((m.fld 4).fld 1).asStr)==([]:Bn))) (cond ((((m.fld 4).fld 0).asInt)==9) ((F335 z (((m.fld 4).fld 1).asStr)).bind λo=>some o.2) (cond ((((m.fld 4).fld 0).asInt)==10) ((F147 z (((m.fld 4).fld 1).asStr)).bind λt=>some (cond t.2 ((m.fld 2).asInt != 3) false)) (some false)))
def F245c:KT:=xj 245 f88 f0 (u2 F245) [F335c,F147c]
def F336(o:PV)(t:Unit)(m:PV):Option (Bool×PV):=some (((o.fld 1).asStr==(m.fld 5).asStr),m)
def F336c:KT:=xj 336 ⟨2,bx43,(.data 69)::sv85⟩ f125 (u3 F336) []
def F393_c336g(e c:PV):Option (Bool×PV):=F336 e () c
def F393_c336c:KT:=ixK 393 69 (.fn 336 0 [(.ref 0 [] 69)]) [.box 69 .leaf] (.data 69) [] F393_c336g (F336c)
def F333_c336(m:List PV)(t:Unit)(o:PV):Option (Bool×PV):=cfF F393_c336g m o
def F333_c336c:KT:=cfK 333 69 (.fn 336 0 [(.ref 0 [] 69)]) [.box 69 .leaf] (.data 69) [] F393_c336g (F393_c336c)
def F337(o:PV)(t:Unit)(m:PV):Option (Bool×PV):=some (((o.fld 5).asStr==(m.fld 5).asStr),m)
def F337c:KT:=xj 337 ⟨2,bx43,(.data 69)::sv85⟩ f125 (u3 F337) []
def F393_c337g(e c:PV):Option (Bool×PV):=F337 e () c
def F393_c337c:KT:=ixK 393 69 (.fn 337 0 [(.ref 0 [] 69)]) [.box 69 .leaf] (.data 69) [] F393_c337g (F337c)
def F333_c337(m:List PV)(t:Unit)(o:PV):Option (Bool×PV):=cfF F393_c337g m o
def F333_c337c:KT:=cfK 333 69 (.fn 337 0 [(.ref 0 [] 69)]) [.box 69 .leaf] (.data 69) [] F393_c337g (F393_c337c)
def F246(t:PV)(m:Int):Option Bool:=let x1:=(t.fld 1).asList;cond (aab m x1.length) (let I:=x1.getD m.toNat .bad;cond ((I.fld 5).asStr==([]:Bn)) (some true) (let Z:=(I.fld 2).asInt != 2;(cond (!Z) (F156 (I.fld 5).asStr) (some false)).bind λy8=>let o:=cond Z true (!y8);cond (!o) ((F333_c336 (t.fld 1).asList () I).bind λW=>cond (cond o true W.1) (some false) (let z:=(t.fld 1).asList;cond (decide (0<=(0:Int)/\(0:Int)<=m/\m<=(z.length:Int))) ((F333_c337 ((z.take m.toNat).drop (0:Int).toNat) () W.2).bind λX=>let G:=!X.1;let H:=(t.fld 1).asList;let J:=IntKind.wrap .i64 (m-1);cond (imp (!G) (aab J H.length)) (some (cond G true (((H.getD J.toNat .bad).fld 5).asStr==(X.2.fld 5).asStr))) none) none)) (cond (cond o true false) (some false) (let M:=(t.fld 1).asList;cond (decide (0<=(0:Int)/\(0:Int)<=m/\m<=(M.length:Int))) ((F333_c337 ((M.take m.toNat).drop (0:Int).toNat) () I).bind λY=>let O:=!Y.1;let U:=(t.fld 1).asList;let V:=IntKind.wrap .i64 (m-1);cond (imp (!O) (aab V U.length)) (some (cond O true (((U.getD V.toNat .bad).fld 5).asStr==(Y.2.fld 5).asStr))) none) none)))) none
def F246c:KT:=xj 246 f110 f0 (u2 F246) [F156c,F333_c336c,F333_c337c]
def F338(m:PV):Option Bool:=some (cond (cond (cond ((m.fld 0).asInt==0) ((m.fld 1).asInt==0) false) ((m.fld 2).asStr==([]:Bn)) false) ((IntKind.wrap .i64 ((IntKind.wrap .i64 ((IntKind.wrap .i64 (((m.fld 3).asList.length:Int)+((m.fld 4).asList.length:Int)))+((m.fld 5).asList.length:Int)))+((m.fld 6).asList.length:Int)))==0) false)
def F338c:KT:=xj 338 f15 f0 F338 []
def F396(m:Int):Option Bool:=some (cond (decide (m>=1)) (decide (m<=9)) false)
def F396c:KT:=xj 396 f5 f0 F396 []
def F420(m:Int):Option Bool:=some (cond (m==7) true (m==8))
def F420c:KT:=xj 420 f5 f0 F420 []
def F397(m:PV):Option Bool:=cond (decide ((IntKind.wrap .i64 ((IntKind.wrap .i64 ((IntKind.wrap .i64 (((m.fld 3).asList.length:Int)+((m.fld 4).asList.length:Int)))+((m.fld 5).asList.length:Int)))+((m.fld 6).asList.length:Int)))>0)) (some false) ((F420 (m.fld 0).asInt).bind λo=>cond o (some ((m.fld 1).asInt==0)) (some ((m.fld 2).asStr==([]:Bn))))
def F397c:KT:=xj 397 f15 f0 F397 [F420c]
def F398(o m:Int):Option Bool:=cond (o==1) (some (decide (m<=1))) (cond (o==2) (some (cond (decide ((IntKind.wrap .i64 m)>=(-2147483648:Int))) (decide ((IntKind.wrap .i64 m)<=2147483647)) false)) (cond (o==9) (some (decide (m<=2147483647))) (cond (o==4) (some (decide (m<=4294967295))) (some true))))
def F398c:KT:=xj 398 ⟨2,[],[.int .i64,.int .u64]⟩ f0 (u2 F398) []
def F411(m o:Bn):Option Bool:=let z:=decide ((m.length:Int)>=(o.length:Int));let t:=(o.length:Int);cond (imp z (decide (0<=(0:Int)/\(0:Int)<=t/\t<=(m.length:Int)))) (some (cond z (((m.take t.toNat).drop (0:Int).toNat)==o) false)) none
def F411c:KT:=xj 411 f53 f0 (u2 F411) []
def F366(m o:Bn):Option Bool:=(F411 m o).bind λt=>some t
def F366c:KT:=xj 366 f53 f0 (u2 F366) [F411c]
def F342(m:Bn)(o t:Int):Option Bool:=let x1:=t==65533;cond (imp x1 (decide (0<=o/\o<=(m.length:Int)/\(m.length:Int)<=(m.length:Int)))) ((cond x1 (F366 ((m.take (m.length:Int).toNat).drop o.toNat) ([239,191,189]:Bn)) (some false)).bind λz=>some (cond x1 (!z) false)) none
def F342c:KT:=xj 342 f92 f0 (u3 F342) [F366c]
def S248_3(t:Bn)(H:Unit)(o:Bn)(m:Int):Option (T54a⊕((Int×Bn×Int)⊕(Bn×Int))):=cond (decide (m.toNat<o.length)) (cond (decide (m.toNat<o.length)) (let z:=(m.toNat:Int);cond (decide (m.toNat<o.length)) ((F342 t z ((Utf8.decode ⟨o.toArray⟩ m.toNat).1:Int)).bind λG=>cond G (some (.inr (.inl (z,o,((cond (decide (m.toNat<o.length)) (m.toNat+(Utf8.decode ⟨o.toArray⟩ m.toNat).2) m.toNat:Nat):Int))))) (some (.inl (t,(),o,((cond (decide (m.toNat<o.length)) (m.toNat+(Utf8.decode ⟨o.toArray⟩ m.toNat).2) m.toNat:Nat):Int))))) none) none) (some (.inr (.inr (o,((cond (decide (m.toNat<o.length)) (m.toNat+(Utf8.decode ⟨o.toArray⟩ m.toNat).2) m.toNat:Nat):Int)))))
def F248(m:Bn):Option Int:=(aad 0 (Y4 S248_3) (m,(),m,((0:Nat):Int))).bind λz=>sumE (λt=>some t.1 ) (λo=>some (-1:Int) ) z
def S248_3l:LoopE:=⟨3,⟨[0,6],[.iter],.str::(.con (.iref 0))::sv5⟩,[(.ret,⟨[2],[.iter],(.int .i64)::sv5⟩),(.exit 0,⟨[],[.iter],sv5⟩)],(Y4 S248_3)⟩
def F248c:KT:=xf 248 f4 f5 F248 [F342c] [S248_3l] (L1 (xl S248_3l L0))
def F153(m:Bn):Option Bool:=(F248 m).bind λo=>some (decide (o<0))
def F153c:KT:=xj 153 f4 f0 F153 [F248c]
def F339(t:Int)(m:PV):Option Bool:=(F396 t).bind λJ=>let H:=cond (!J) true ((m.fld 0).asInt != t);(cond (!H) (F397 m) (some false)).bind λM=>let I:=cond H true (!M);(cond (!I) (F398 t (m.fld 1).asInt) (some false)).bind λz=>cond (cond (cond I true (!z)) true (decide (((m.fld 2).asStr.length:Int)>4096))) (some false) (let o:=t != 7;(cond (!o) (F153 (m.fld 2).asStr) (some false)).bind λG=>some (cond o true G))
def F339c:KT:=xj 339 f111 f0 (u2 F339) [F396c,F397c,F398c,F153c]
def F399(m:Int):Option Int:=let x1:=aen .and .u64 m (9218868437227405312:Int);let o:=aen .and .u64 m (4503599627370495:Int);cond (cond (x1==9218868437227405312) (o != 0) false) (some (0:Int)) (cond (x1==9218868437227405312) (some (1:Int)) (cond (cond (x1==0) (o==0) false) (some (2:Int)) (cond (x1==0) (some (3:Int)) (some (4:Int)))))
def F399c:KT:=xj 399 f23 f5 F399 []
def F340(m:PV):Option PV:=let o:=(m.fld 0).asInt==6;(cond o (F399 (m.fld 1).asInt) (some 0)).bind λt=>cond (cond o (t==0) false) (some (PV.agg [.int (m.fld 0).asInt,.int 9221120237041090560,.str (m.fld 2).asStr,.slice (m.fld 3).asList,.slice (m.fld 4).asList,.slice (m.fld 5).asList,.slice (m.fld 6).asList])) (some m)
def F340c:KT:=xj 340 f15 f15 F340 [F399c]
def F341(o:PV)(t:Unit)(m:PV):Option (Bool×PV):=some (((IntKind.wrap .u64 (o.fld 1).asInt)==(((m.fld 7).fld 1).asInt)),m)
def F341c:KT:=xj 341 ⟨2,bx43,(.data 124)::sv85⟩ f125 (u3 F341) []
def F343_c341g(e c:PV):Option (Bool×PV):=F341 e () c
def F343_c341c:KT:=ixK 343 124 (.fn 341 0 [(.ref 0 [] 69)]) [.box 69 .leaf] (.data 69) [] F343_c341g (F341c)
def F250_c341(m:List PV)(t:Unit)(o:PV):Option (Bool×PV):=cfF F343_c341g m o
def F250_c341c:KT:=cfK 250 124 (.fn 341 0 [(.ref 0 [] 69)]) [.box 69 .leaf] (.data 69) [] F343_c341g (F343_c341c)
def F247(M m:PV):Option Bool:=cond (!(m.fld 6).asBool) ((F338 (m.fld 7)).bind λO=>some O) (let J:=cond ((m.fld 2).asInt != 2) true (!((m.fld 5).asStr==([]:Bn)));(cond (!J) (F339 (((m.fld 4).fld 0).asInt) (m.fld 7)) (some false)).bind λG=>let t:=cond J true (!G);(cond (!t) (F340 (m.fld 7)) (some PV.bad)).bind λH=>cond (cond t true ((H.fld 1).asInt != (((m.fld 7).fld 1).asInt))) (some false) (cond ((((m.fld 4).fld 0).asInt) != 9) (some true) ((F335 M (((m.fld 4).fld 1).asStr)).bind λz=>let o:=z.2;cond o ((F250_c341 (z.1.fld 2).asList () m).bind λI=>some (cond o I.1 false)) (some (cond o false false)))))
def F247c:KT:=xj 247 f88 f0 (u2 F247) [F338c,F339c,F340c,F335c,F250_c341c]
def F362 :Option ((List (PV×PV))):=some (PV.mput (PV.mput (PV.mput (PV.mput (PV.mput (PV.mput (PV.mput (PV.mput (PV.mput (PV.mput (PV.mput (PV.mput (PV.mput [] (PV.str ([100,101,112,114,101,99,97,116,101,100]:Bn)) (PV.agg [.int 1,.int 126])) (PV.str ([100,111,99]:Bn)) (PV.agg [.int 7,.int 126])) (PV.str ([97,108,105,97,115]:Bn)) (PV.agg [.int 7,.int 84])) (PV.str ([115,105,110,99,101]:Bn)) (PV.agg [.int 4,.int 84])) (PV.str ([117,110,116,105,108]:Bn)) (PV.agg [.int 4,.int 84])) (PV.str ([109,105,110]:Bn)) (PV.agg [.int 3,.int 4])) (PV.str ([109,97,120]:Bn)) (PV.agg [.int 3,.int 4])) (PV.str ([108,101,110,103,116,104]:Bn)) (PV.agg [.int 4,.int 4])) (PV.str ([115,101,99,114,101,116]:Bn)) (PV.agg [.int 1,.int 4])) (PV.str ([105,100,101,109,112,111,116,101,110,116]:Bn)) (PV.agg [.int 1,.int 64])) (PV.str ([116,105,109,101,111,117,116]:Bn)) (PV.agg [.int 4,.int 64])) (PV.str ([114,111,117,116,101]:Bn)) (PV.agg [.int 7,.int 64])) (PV.str ([111,119,110,101,114]:Bn)) (PV.agg [.int 7,.int 34]))
def F362c:KT:=xj 362 ⟨0,[],[]⟩ ⟨1,[],[.map 9 332]⟩ (λx=>F362 ) []
def F407(m:Bn):Option Int:=F362.bind λt=>let o:=(PV.mget t (PV.str m)).getD (PV.agg [.int 0,.int 0]);some ((o.fld 0).asInt)
def F407c:KT:=xj 407 f4 f5 F407 [F362c]
def F363(m:PV):Option Bool:=(F407 (m.fld 0).asStr).bind λt=>let o:=t != 0;(cond o (F339 t (m.fld 1)) (some false)).bind λz=>some (cond o z false)
def F363c:KT:=xj 363 f106 f0 F363 [F407c,F339c]
def F283(m:PV)(o:Int)(z:Bn)(G:Bool):Option Int:=F362.bind λJ=>let H:=(m.fld 0).asStr;let M:=(PV.mget J (PV.str H)).getD (PV.agg [.int 0,.int 0]);cond (!(PV.mhas J (PV.str H))) (some (8:Int)) (let I:=cond (decide (o<1)) true (decide (o>6));cond (imp (!I) (decide (0<=o))) (cond (cond I true ((aen .and .i64 ((M.fld 1).asInt.fdiv (2^(min o.toNat (IntKind.bits .i64)))) (1:Int))==0)) (some (1:Int)) ((F363 m).bind λt=>cond (!t) (some (12:Int)) (cond (cond G (Op.bytesLess (m.fld 0).asStr z) false) (some (11:Int)) (cond (cond G ((m.fld 0).asStr==z) false) (some (9:Int)) (some (0:Int)))))) none)
def F283c:KT:=xj 283 ⟨4,[],[.data 66,.int .i64,.str,.bool]⟩ f5 (u4 F283) [F362c,F363c]
def S173_6(G:Int)(I:Bn)(z:List PV)(H m:Int):Option (T96a⊕T104a):=cond (decide (m<H)) (cond (aab m z.length) (let o:=z.getD m.toNat .bad;(F283 o G I (decide (m>0))).bind λt=>cond (t != 0) (some (.inr (.inl t))) (some (.inl (G,(o.fld 0).asStr,z,H,(IntKind.wrap .i64 (m+1)))))) none) (some (.inr (.inr ())))
def F173(m:List PV)(t:Int):Option Int:=cond (decide ((m.length:Int)>8)) (some (3:Int)) ((aad 0 (Y5 S173_6) (t,([]:Bn),m,(m.length:Int),(0:Int))).bind λz=>sumE (λo=>some o ) (λG=>some (0:Int) ) z)
def S173_6l:LoopE:=⟨6,⟨[1,5,12,13,14],[],(.int .i64)::.str::sv31⟩,[(.ret,f93),(.exit 0,f9)],(Y5 S173_6)⟩
def F173c:KT:=xf 173 ⟨2,[],sv32⟩ f5 (u2 F173) [F283c] [S173_6l] (L1 (xl S173_6l L0))
def F154(J:Unit)(t:List PV)(z:Int)(G:Bn)(H:Int)(I:List PV):Option (Bn×Int×(List PV)):=(F173 t z).bind λo=>(F94 () (o==0) o G H I).bind λm=>some (m.1,m.2.1,m.2.2)
def F154c:KT:=xj 154 ⟨3,bx38,(.con (.ref 0 [] 149))::(.slice 66)::sv80⟩ f98 (u6 F154) [F173c,F94c]
def F151(a0:Unit)(a1 O:PV)(U:Int)(a4:Bn)(a5:Int)(a6:List PV):Option (Bn×Int×(List PV)):=let x1:=(O.fld 1).asList;cond (aab U x1.length) (let m:=x1.getD U.toNat .bad;(F94 () (cond (decide (((m.fld 0).asInt)>=1)) (decide ((m.fld 0).asInt<=65535)) false) (6:Int) a4 (m.fld 0).asInt a6).bind λy9=>let V:=U==0;let W:=(O.fld 1).asList;let X:=IntKind.wrap .i64 (U-1);cond (imp (!V) (aab X W.length)) ((F94 () (cond V true (decide ((m.fld 0).asInt>((W.getD X.toNat .bad).fld 0).asInt))) (11:Int) y9.1 y9.2.1 y9.2.2).bind λo=>(F156 (m.fld 1).asStr).bind λab=>(F94 () ab (8:Int) o.1 o.2.1 o.2.2).bind λt=>(F242_c243 (O.fld 1).asList U ()).bind λad=>(F94 () (!ad) (9:Int) t.1 t.2.1 t.2.2).bind λz=>(F159 (O.fld 2).asList (m.fld 0).asInt).bind λae=>let Y:=!ae;(cond Y (F146 (O.fld 3).asList (m.fld 1).asStr) (some false)).bind λaf=>(F94 () (cond Y (!af) false) (21:Int) z.1 z.2.1 z.2.2).bind λG=>let Z:=cond (decide (((m.fld 2).asInt)>=1)) (decide ((m.fld 2).asInt<=5)) false;(cond Z (F244 (m.fld 2).asInt (m.fld 3).asInt) (some false)).bind λag=>(F94 () (cond Z ag false) (1:Int) G.1 G.2.1 G.2.2).bind λH=>(F245 a1 m).bind λah=>(F94 () ah (12:Int) H.1 H.2.1 H.2.2).bind λI=>(F246 O U).bind λai=>(F94 () ai (15:Int) I.1 I.2.1 I.2.2).bind λJ=>(F247 a1 m).bind λaj=>(F94 () aj (1:Int) J.1 J.2.1 J.2.2).bind λM=>(F154 () (m.fld 8).asList (2:Int) M.1 M.2.1 M.2.2).bind λaa=>some (aa.1,(-1:Int),aa.2.2)) none) none
def F151c:KT:=xj 151 ⟨4,bx38,(.con (.ref 0 [] 149))::(.data 42)::(.data 74)::sv80⟩ f98 (λx=>F151 x.1 x.2.1 x.2.2.1 x.2.2.2.1 x.2.2.2.2.1 x.2.2.2.2.2.1 x.2.2.2.2.2.2) [F94c,F156c,F242_c243c,F159c,F146c,F244c,F245c,F246c,F247c,F154c]
def S152_2(Y:Unit)(M:List PV)(U V:Int)(O:List PV)(W z:Int)(X:Bn)(G:Int)(H:List PV):Option (T46a⊕(Bn×Int×(List PV))):=cond (decide (z<W)) (cond (aab z O.length) (let m:=O.getD z.toNat .bad;(F94 () (cond (cond (decide (((m.fld 0).asInt)>=U)) (decide ((m.fld 1).asInt<=V)) false) (decide ((m.fld 0).asInt<=(m.fld 1).asInt)) false) (6:Int) X G H).bind λo=>let I:=z==0;let J:=IntKind.wrap .i64 (z-1);cond (imp (!I) (aab J M.length)) ((F94 () (cond I true (decide ((m.fld 0).asInt>((M.getD J.toNat .bad).fld 1).asInt))) (11:Int) o.1 o.2.1 o.2.2).bind λt=>some (.inl ((),M,U,V,O,W,(IntKind.wrap .i64 (z+1)),t.1,t.2.1,t.2.2))) none) none) (some (.inr (X,G,H)))
def F152(J:Unit)(o:List PV)(t z:Int)(G:Bn)(H:Int)(I:List PV):Option (Bn×Int×(List PV)):=(aad 0 (Y10 S152_2) ((),o,t,z,o,(o.length:Int),(0:Int),G,H,I)).bind λm=>some (m.1,m.2.1,m.2.2)
def S152_2l:LoopE:=⟨2,⟨[0,1,2,3,10,11,12],bx38,(.con (.ref 0 [] 149))::(.slice 117)::(.int .i64)::(.int .i64)::(.slice 117)::(.int .i64)::sv80⟩,[(.exit 0,⟨[],bx38,sv81⟩)],(Y10 S152_2)⟩
def F152c:KT:=xf 152 ⟨4,bx38,(.con (.ref 0 [] 149))::(.slice 117)::(.int .i64)::sv80⟩ f98 (λx=>F152 x.1 x.2.1 x.2.2.1 x.2.2.2.1 x.2.2.2.2.1 x.2.2.2.2.2.1 x.2.2.2.2.2.2) [F94c] [S152_2l] (L1 (xl S152_2l L0))
def F249(m:Bn)(G H:Unit)(o:PV)(t:List (PV×PV)):Option (Bool×PV×(List (PV×PV))):=(F147 o m).bind λz=>some ((cond z.2 (!(((PV.mget t (PV.str m)).getD (PV.bool false)).asBool)) false),o,t)
def F249c:KT:=xj 249 ⟨3,[.box 42 .leaf,.box 155 .leaf],[.str,(.con (.ref 0 [] 42)),(.con (.ref 1 [] 155)),.data 42,.map 9 4]⟩ ⟨1,[.box 42 .leaf,.box 155 .leaf],[.bool,.data 42,.map 9 4]⟩ (u5 F249) [F147c]
def F238_c249g(e:PV)(c:PV×(List (PV×PV))):Option (Bool×PV×(List (PV×PV))):=F249 e.asStr () () c.1 c.2
def F238_c249c:KT:=ixK 238 9 (.fn 249 0 [(.ref 0 [] 42),(.ref 1 [] 155)]) [.box 42 .leaf,.box 155 .leaf] (.data 42) [.map 9 4] F238_c249g (F249c)
def F144_c249(m:List PV)(z:Unit)(o:PV)(t:List (PV×PV)):Option (Bool×PV×(List (PV×PV))):=cfF F238_c249g m (o,t)
def F144_c249c:KT:=cfK 144 9 (.fn 249 0 [(.ref 0 [] 42),(.ref 1 [] 155)]) [.box 42 .leaf,.box 155 .leaf] (.data 42) [.map 9 4] F238_c249g (F238_c249c)
def F155(m o:PV)(t:List (PV×PV)):Option Bool:=(F148 o).bind λz=>(F144_c249 z () m t).bind λG=>some G.1
def F155c:KT:=xj 155 f86 f0 (u3 F155) [F148c,F144_c249c]
def S98_6(G:List (PV×PV))(O U V:Unit)(H m:Int)(o t:PV)(I:Bn)(J:Int)(M:List PV):Option (T42a⊕T55a):=cond (decide (m<H)) ((F151 () o t m I J M).bind λz=>some (.inl (G,(),(),(),H,(IntKind.wrap .i64 (m+1)),o,t,z.1,z.2.1,z.2.2))) (some (.inr (G,(),(),(),o,t,I,J,M)))
def S98_12(z:List (PV×PV))(V W X:Unit)(o:List PV)(G m:Int)(H I:PV)(J:Bn)(M:Int)(O:List PV):Option (T31a⊕T55a):=cond (decide (m<G)) (cond (aab m o.length) ((F153 (o.getD m.toNat .bad).asStr).bind λU=>(F94 () U (7:Int) J M O).bind λt=>some (.inl (z,(),(),(),o,G,(IntKind.wrap .i64 (m+1)),H,I,t.1,t.2.1,t.2.2))) none) (some (.inr (z,(),(),(),H,I,J,M,O)))
def F98(W t:PV)(X:List (PV×PV)):Option ((List PV)):=(F150 (t.fld 0).asStr).bind λY=>(F94 () Y (8:Int) (t.fld 0).asStr (-1:Int) []).bind λM=>let V:=((t.fld 2).asList.length:Int);let I:=((t.fld 3).asList.length:Int);(F94 () (cond (decide (((t.fld 1).asList.length:Int)<=64)) (decide ((if I>V then I else V)<=16)) false) (3:Int) M.1 M.2.1 M.2.2).bind λz=>(aad 0 (Y11 S98_6) (X,(),(),(),((t.fld 1).asList.length:Int),(0:Int),W,t,z.1,z.2.1,z.2.2)).bind λm=>(F152 () (m.2.2.2.2.2.1.fld 2).asList (1:Int) (65535:Int) m.2.2.2.2.2.2.1 m.2.2.2.2.2.2.2.1 m.2.2.2.2.2.2.2.2).bind λG=>let J:=(m.2.2.2.2.2.1.fld 3).asList;(aad 0 (Y12 S98_12) (m.1,(),(),(),J,(J.length:Int),(0:Int),m.2.2.2.2.1,m.2.2.2.2.2.1,G.1,G.2.1,G.2.2)).bind λo=>(F154 () (o.2.2.2.2.2.1.fld 4).asList (1:Int) o.2.2.2.2.2.2.1 o.2.2.2.2.2.2.2.1 o.2.2.2.2.2.2.2.2).bind λH=>(F155 o.2.2.2.2.1 o.2.2.2.2.2.1 o.1).bind λO=>(F94 () (!O) (19:Int) H.1 H.2.1 H.2.2).bind λU=>some U.2.2
def S98_6l:LoopE:=⟨6,⟨[2,3,4,7,38,39],bx44,(.map 9 4)::(.con (.ref 0 [] 42))::(.con (.ref 1 [] 74))::(.con (.ref 2 [] 149))::(.int .i64)::(.int .i64)::sv87⟩,[(.exit 0,f22)],(Y11 S98_6)⟩
def S98_12l:LoopE:=⟨12,⟨[2,3,4,7,53,54,55],bx44,(.map 9 4)::(.con (.ref 0 [] 42))::(.con (.ref 1 [] 74))::(.con (.ref 2 [] 149))::(.slice 9)::(.int .i64)::(.int .i64)::sv87⟩,[(.exit 2,f22)],(Y12 S98_12)⟩
def F98c:KT:=xf 98 f86 f42 (u3 F98) [F150c,F94c,F151c,F152c,F153c,F154c,F155c] [S98_6l,S98_12l] (L2 (xl S98_6l L0) (xl S98_12l L0))
def F158(m:PV):Option Bn:=some ((m.fld 0).asStr)
def F158c:KT:=xj 158 f102 f4 F158 []
def F251(t:PV)(H I J M:Unit)(m:List PV)(o:Int):Option (Bool×Unit×(List PV)×Int):=(F158 t).bind λz=>cond (aab o m.length) ((F158 (m.getD o.toNat .bad)).bind λG=>some ((z==G),(),m,o)) none
def F251c:KT:=xj 251 ⟨4,bx45,[.data 124,(.con (.ref 0 [] 214)),(.con (.ref 1 [] 119)),(.con (.ref 2 [] 3)),(.con (.fn 158 0 [])),.slice 124,.int .i64]⟩ ⟨1,bx45,[.bool,(.con (.fn 158 0 [])),.slice 124,.int .i64]⟩ (λx=>F251 x.1 x.2.1 x.2.2.1 x.2.2.2.1 x.2.2.2.2.1 x.2.2.2.2.2.1 x.2.2.2.2.2.2) [F158c]
def F343_c251g(e:PV)(c:Unit×(List PV)×Int):Option (Bool×Unit×(List PV)×Int):=F251 e () () () c.1 c.2.1 c.2.2
def F343_c251c:KT:=ixK 343 124 (.fn 251 0 [(.ref 0 [] 214),(.ref 1 [] 119),(.ref 2 [] 3)]) [.box 214 .leaf,.box 119 .leaf,.box 3 .leaf] (.con (.fn 158 0 [])) [.slice 124,.int .i64] F343_c251g (F251c)
def F250_c251(m:List PV)(G o:Unit)(t:List PV)(z:Int):Option (Bool×Unit×(List PV)×Int):=cfF F343_c251g m (o,t,z)
def F250_c251c:KT:=cfK 250 124 (.fn 251 0 [(.ref 0 [] 214),(.ref 1 [] 119),(.ref 2 [] 3)]) [.box 214 .leaf,.box 119 .leaf,.box 3 .leaf] (.con (.fn 158 0 [])) [.slice 124,.int .i64] F343_c251g (F343_c251c)
def F157_c158(o:List PV)(m:Int)(z:Unit):Option Bool:=cond (decide (0<=(0:Int)/\(0:Int)<=m/\m<=(o.length:Int))) ((F250_c251 ((o.take m.toNat).drop (0:Int).toNat) () () o m).bind λt=>some t.1) none
def F157_c158c:KT:=xj 157 ⟨3,[],[.slice 124,.int .i64,(.con (.fn 158 0 []))]⟩ f0 (u3 F157_c158) [F250_c251c]
def S99_7(af ag:Unit)(z:List PV)(U m:Int)(t:PV)(V:Bn)(aa:Int)(W:List PV):Option (T62a⊕(Unit×Unit×PV×Bn×Int×(List PV))):=cond (decide (m<U)) (cond (aab m z.length) (let o:=z.getD m.toNat .bad;(F94 () (cond (decide (((o.fld 1).asInt)>=0)) (decide ((o.fld 1).asInt<=2147483647)) false) (6:Int) V (o.fld 1).asInt W).bind λG=>let X:=m==0;let Y:=(t.fld 2).asList;let Z:=IntKind.wrap .i64 (m-1);cond (imp (!X) (aab Z Y.length)) ((F94 () (cond X true (decide ((o.fld 1).asInt>((Y.getD Z.toNat .bad).fld 1).asInt))) (11:Int) G.1 G.2.1 G.2.2).bind λH=>(F156 (o.fld 0).asStr).bind λab=>(F94 () ab (8:Int) H.1 H.2.1 H.2.2).bind λI=>(F157_c158 (t.fld 2).asList m ()).bind λad=>(F94 () (!ad) (9:Int) I.1 I.2.1 I.2.2).bind λJ=>(F159 (t.fld 3).asList (o.fld 1).asInt).bind λae=>(F94 () (!ae) (21:Int) J.1 J.2.1 J.2.2).bind λM=>(F154 () (o.fld 2).asList (4:Int) M.1 M.2.1 M.2.2).bind λO=>some (.inl ((),(),z,U,(IntKind.wrap .i64 (m+1)),t,O.1,O.2.1,O.2.2))) none) none) (some (.inr ((),(),t,V,aa,W)))
def F99(m:PV):Option ((List PV)):=(F150 (m.fld 0).asStr).bind λU=>(F94 () U (8:Int) (m.fld 0).asStr (-1:Int) []).bind λM=>(F94 () (cond (cond (decide (((m.fld 2).asList.length:Int)>=1)) (decide (((m.fld 2).asList.length:Int)<=64)) false) (decide (((m.fld 3).asList.length:Int)<=16)) false) (3:Int) M.1 M.2.1 M.2.2).bind λt=>let H:=((m.fld 2).asList.length:Int)==0;let I:=(m.fld 2).asList;cond (imp (!H) (aab (0:Int) I.length)) ((F94 () (cond H true (((I.getD (0:Int).toNat .bad).fld 1).asInt==(0:Int))) (14:Int) t.1 t.2.1 t.2.2).bind λz=>let J:=(m.fld 2).asList;(aad 0 (Y9 S99_7) ((),(),J,(J.length:Int),(0:Int),m,z.1,z.2.1,z.2.2)).bind λo=>(F152 () (o.2.2.1.fld 3).asList (0:Int) (2147483647:Int) o.2.2.2.1 (-1:Int) o.2.2.2.2.2).bind λG=>(F154 () (o.2.2.1.fld 4).asList (3:Int) G.1 G.2.1 G.2.2).bind λO=>some O.2.2) none
def S99_7l:LoopE:=⟨7,⟨[1,3,48,49,50],bx46,[(.con (.ref 0 [] 121)),(.con (.ref 1 [] 149)),.slice 124,.int .i64,.int .i64,.data 121,.str,.int .i64,.acc 2 205]⟩,[(.exit 0,⟨[1,3],bx46,[(.con (.ref 0 [] 121)),(.con (.ref 1 [] 149)),.data 121,.str,.int .i64,.acc 2 205]⟩)],(Y9 S99_7)⟩
def F99c:KT:=xf 99 f44 f42 F99 [F150c,F94c,F156c,F157_c158c,F159c,F154c,F152c] [S99_7l] (L1 (xl S99_7l L0))
def S100_6(ah ai aj:Unit)(z:List PV)(U m:Int)(t G:PV)(V:Bn)(ad:Int)(W:List PV):Option (T47a⊕(Unit×Unit×PV×PV×Bn×Int×(List PV))):=cond (decide (m<U)) (cond (aab m z.length) (let o:=z.getD m.toNat .bad;(F156 (o.fld 0).asStr).bind λae=>(F94 () ae (8:Int) V m W).bind λH=>let X:=m==0;let Y:=(o.fld 0).asStr;let Z:=(G.fld 1).asList;let aa:=IntKind.wrap .i64 (m-1);cond (imp (!X) (aab aa Z.length)) (let ab:=((Z.getD aa.toNat .bad).fld 0).asStr;(F94 () (cond X true (!(Op.bytesLess Y ab||Y==ab))) (11:Int) H.1 H.2.1 H.2.2).bind λI=>(F147 t (o.fld 1).asStr).bind λaf=>(F147 t (o.fld 2).asStr).bind λag=>(F94 () (cond af.2 ag.2 false) (12:Int) I.1 I.2.1 I.2.2).bind λJ=>(F94 () (cond (decide (((o.fld 3).asInt)>=1)) (decide ((o.fld 3).asInt<=4)) false) (1:Int) J.1 J.2.1 J.2.2).bind λM=>(F154 () (o.fld 4).asList (6:Int) M.1 M.2.1 M.2.2).bind λO=>some (.inl ((),(),(),z,U,(IntKind.wrap .i64 (m+1)),t,G,O.1,O.2.1,O.2.2))) none) none) (some (.inr ((),(),t,G,V,ad,W)))
def F100(I o:PV):Option ((List PV)):=(F150 (o.fld 0).asStr).bind λJ=>(F94 () J (8:Int) (o.fld 0).asStr (-1:Int) []).bind λt=>(F94 () (decide (((o.fld 1).asList.length:Int)<=64)) (3:Int) t.1 t.2.1 t.2.2).bind λG=>let H:=(o.fld 1).asList;(aad 0 (Y11 S100_6) ((),(),(),H,(H.length:Int),(0:Int),I,o,G.1,G.2.1,G.2.2)).bind λm=>(F154 () (m.2.2.2.1.fld 2).asList (5:Int) m.2.2.2.2.1 (-1:Int) m.2.2.2.2.2.2).bind λz=>some z.2.2
def S100_6l:LoopE:=⟨6,⟨[2,3,5,28,29,30],bx47,(.con (.ref 0 [] 42))::(.con (.ref 1 [] 127))::(.con (.ref 2 [] 149))::(.slice 130)::(.int .i64)::(.int .i64)::(.data 42)::(.data 127)::sv88⟩,[(.exit 0,⟨[3,5],bx47,(.con (.ref 1 [] 127))::(.con (.ref 2 [] 149))::(.data 42)::(.data 127)::sv88⟩)],(Y11 S100_6)⟩
def F100c:KT:=xf 100 f112 f42 (u2 F100) [F150c,F94c,F156c,F147c,F154c] [S100_6l] (L1 (xl S100_6l L0))
def S66_5(V W X:Unit)(J:PV)(H:Int)(M:PV)(O:Bn)(U:Int)(t:List PV)(z:PV):Option (T65a⊕(Unit×Unit×Unit×PV×Bn×Int×(List PV)×PV)):=cond (decide (H<3)) (cond (aab H 3) (let G:=(J.fld H.toNat).asList;(F94 () (decide ((G.length:Int)<=64)) (3:Int) O U t).bind λm=>(F95 G).bind λI=>(F94 () I (11:Int) m.1 m.2.1 m.2.2).bind λo=>some (.inl ((),(),(),J,(IntKind.wrap .i64 (H+1)),M,o.1,o.2.1,o.2.2,z))) none) (some (.inr ((),(),(),M,O,U,t,z)))
def S66_13(U V:Unit)(G:List (PV×PV))(o:List PV)(H m:Int)(t:PV)(I:Bn)(J:Int)(z:List PV)(M:PV):Option (T38a⊕T85a):=cond (decide (m<H)) (cond (aab m o.length) ((F98 t (o.getD m.toNat .bad) G).bind λO=>cond (decide (z.length+O.length<=accMax)) (some (.inl ((),(),G,o,H,(IntKind.wrap .i64 (m+1)),t,I,J,(z++O),M))) none) none) (some (.inr ((),(),t,I,J,z,M)))
def S66_18(O U:Unit)(o:List PV)(z m:Int)(G:PV)(H:Bn)(I:Int)(t:List PV)(J:PV):Option (T15a⊕T85a):=cond (decide (m<z)) (cond (aab m o.length) ((F99 (o.getD m.toNat .bad)).bind λM=>cond (decide (t.length+M.length<=accMax)) (some (.inl ((),(),o,z,(IntKind.wrap .i64 (m+1)),G,H,I,(t++M),J))) none) none) (some (.inr ((),(),G,H,I,t,J)))
def S66_23(O U:Unit)(o:List PV)(G m:Int)(t:PV)(H:Bn)(I:Int)(z:List PV)(J:PV):Option (T15a⊕(Unit×PV×Bn×Int×(List PV)×PV)):=cond (decide (m<G)) (cond (aab m o.length) ((F100 t (o.getD m.toNat .bad)).bind λM=>cond (decide (z.length+M.length<=accMax)) (some (.inl ((),(),o,G,(IntKind.wrap .i64 (m+1)),t,H,I,(z++M),J))) none) none) (some (.inr ((),t,H,I,z,J)))
def F66(U:PV):Option ((List PV)):=(F93 U).bind λV=>(aad 0 (Y10 S66_5) ((),(),(),V,(0:Int),U,([]:Bn),(-1:Int),[],V)).bind λm=>(F96 m.2.2.2.2.2.2.2).bind λJ=>(F94 () J (9:Int) m.2.2.2.2.1 m.2.2.2.2.2.1 m.2.2.2.2.2.2.1).bind λz=>(F97 m.2.2.2.1).bind λM=>let G:=(m.2.2.2.1.fld 0).asList;(aad 0 (Y11 S66_13) ((),(),M,G,(G.length:Int),(0:Int),m.2.2.2.1,z.1,z.2.1,z.2.2,m.2.2.2.2.2.2.2)).bind λo=>let H:=(o.2.2.1.fld 1).asList;(aad 0 (Y10 S66_18) ((),(),H,(H.length:Int),(0:Int),o.2.2.1,o.2.2.2.1,o.2.2.2.2.1,o.2.2.2.2.2.1,o.2.2.2.2.2.2)).bind λt=>let I:=(t.2.2.1.fld 2).asList;(aad 0 (Y10 S66_23) ((),(),I,(I.length:Int),(0:Int),t.2.2.1,t.2.2.2.1,t.2.2.2.2.1,t.2.2.2.2.2.1,t.2.2.2.2.2.2)).bind λO=>some O.2.2.2.2.1
def S66_5l:LoopE:=⟨5,⟨[1,3,4,18,19],bx48,(.con (.ref 0 [] 42))::(.con (.ref 1 [] 149))::(.con (.ref 2 [] 150))::(.data 150)::sv89⟩,[(.exit 0,⟨[1,3,4],bx48,(.con (.ref 0 [] 42))::(.con (.ref 1 [] 149))::(.con (.ref 2 [] 150))::sv90⟩)],(Y10 S66_5)⟩
def S66_13l:LoopE:=⟨13,⟨[1,3,7,39,40,41],bx48,(.con (.ref 0 [] 42))::(.con (.ref 1 [] 149))::(.map 9 4)::(.slice 74)::sv91⟩,[(.exit 2,f79)],(Y11 S66_13)⟩
def S66_18l:LoopE:=⟨18,⟨[1,3,59,60,61],bx48,(.con (.ref 0 [] 42))::(.con (.ref 1 [] 149))::(.slice 121)::sv91⟩,[(.exit 4,f79)],(Y10 S66_18)⟩
def S66_23l:LoopE:=⟨23,⟨[1,3,77,78,79],bx48,(.con (.ref 0 [] 42))::(.con (.ref 1 [] 149))::(.slice 127)::sv91⟩,[(.exit 6,⟨[3],bx48,sv92⟩)],(Y10 S66_23)⟩
def F66c:KT:=xf 66 f8 f42 F66 [F93c,F94c,F95c,F96c,F97c,F98c,F99c,F100c] [S66_5l,S66_13l,S66_18l,S66_23l] (L4 (xl S66_5l L0) (xl S66_13l L0) (xl S66_18l L0) (xl S66_23l L0))
def F45(m:PV):Option Bool:=(F66 m).bind λo=>some ((o.length:Int)==0)
def F45c:KT:=xj 45 f8 f0 F45 [F66c]
def F109(m:Unit):Option Unit:=some ()
def F109c:KT:=xg 109 f20 f20 F109 [] [] true [] L0
def F109_v1(m:List PV):Option (Unit×(List PV)):=cond (decide (m.length<=accMax)) (some ((),m)) none
def F109_v1c:KT:=xg 109 ⟨1,[],[.sln 66]⟩ f46 F109_v1 [] [] true [] L0
def F109_v2(m:List PV):Option (Unit×(List PV)):=F109_v1 m
def F109_v2e:CallE:=⟨109,f40,f46,λx=>F109_v2 x,((),[])⟩
theorem F109_v2ok:F109_v2e.Ok Tryz.prog:=by
 intro x y h
 have h:F109_v1 x=some y:=h
 have m:=F109_v1c.ok x y h
 unfold F109_v1 at h
 obtain⟨o,rfl⟩:=aaz h
 exact ahi (λ_=>F109c.ok () () rfl) m
def F109_v2c:KC Tryz.prog:=⟨F109_v2e,F109_v2ok⟩
def F110(m:PV):Option Bool:=some (cond ((m.fld 0).asStr==([100,111,99]:Bn)) true ((m.fld 0).asStr==([111,119,110,101,114]:Bn)))
def F110c:KT:=xj 110 f106 f0 F110 []
def S168_c110_3(G H:Unit)(t m:Int)(o:List PV):Option (T66a⊕((Int×(List PV))⊕((List PV)))):=cond (decide (m<t)) (cond (aab m o.length) ((F110 (o.getD m.toNat .bad)).bind λz=>cond z (some (.inr (.inl (m,o)))) (some (.inl ((),(),t,(IntKind.wrap .i64 (m+1)),o)))) none) (some (.inr (.inr o)))
def F168_c110(G H:Unit)(t:List PV):Option (Int×(List PV)):=(aad 0 (Y5 S168_c110_3) ((),(),(t.length:Int),(0:Int),t)).bind λz=>sumE (λm=>some (m.1,m.2) ) (λo=>some ((-1:Int),o) ) z
def S168_c110_3l:LoopE:=⟨3,⟨[0,1,7,8],[.arr 66 0],(.con (.arr 0 0 66))::(.con (.fn 110 0 []))::(.int .i64)::sv93⟩,[(.ret,⟨[4],[.arr 66 0],sv93⟩),(.exit 0,⟨[],[.arr 66 0],[.slice 66]⟩)],(Y5 S168_c110_3)⟩
def F168_c110c:KT:=xf 168 f49 ⟨1,[.arr 66 0],[.int .i64,.slice 66]⟩ (u3 F168_c110) [F110c] [S168_c110_3l] (L1 (xl S168_c110_3l L0))
def S108_c110_6(H I:Unit)(o t:Int)(m:List PV):Option (T66a⊕(Unit×Int×(List PV))):=cond (decide (t<(m.length:Int))) (cond (aab t m.length) (let z:=m.getD t.toNat .bad;(F110 z).bind λG=>cond (!G) (cond (aab o m.length) (some (.inl ((),(),(IntKind.wrap .i64 (o+1)),(IntKind.wrap .i64 (t+1)),(m.set o.toNat z)))) none) (some (.inl ((),(),o,(IntKind.wrap .i64 (t+1)),m)))) none) (some (.inr ((),o,m)))
def F108_c110(J M:Unit)(I:List PV):Option (Unit×(List PV)):=(F168_c110 () () I).bind λH=>let G:=H.1;cond (G==(-1:Int)) (some ((),H.2)) ((aad 0 (Y5 S108_c110_6) ((),(),G,(IntKind.wrap .i64 (G+1)),H.2)).bind λm=>let o:=m.2.1;cond (decide (0<=o/\o<(m.2.2.length:Int))) (cond (decide (o.toNat<m.2.2.length)) (let z:=m.2.2.take o.toNat++List.replicate (m.2.2.length-o.toNat) (PV.agg [.str ([]:Bn),.agg [.int 0,.int 0,.str ([]:Bn),.slice [],.slice [],.slice [],.slice []]]);let t:=m.2.1;cond (decide (0<=t/\t<=(z.length:Int))) (some ((),(z.take t.toNat))) none) none) none)
def S108_c110_6l:LoopE:=⟨6,⟨[0,1,5,6],[.arr 66 0],(.con (.arr 0 0 66))::(.con (.fn 110 0 []))::(.int .i64)::sv93⟩,[(.exit 0,⟨[0,5],[.arr 66 0],(.con (.arr 0 0 66))::sv93⟩)],(Y5 S108_c110_6)⟩
def F108_c110c:KT:=xg 108 f49 f46 (u3 F108_c110) [F168_c110c,F110c] [] true [S108_c110_6l] (L1 (xl S108_c110_6l L0))
def F68(m:List PV):Option ((List PV)):=(F109_v2 m).bind λo=>(F108_c110 () () o.2).bind λt=>some t.2
def F68c:KT:=xj 68 f40 f40 F68 [F109_v2c,F108_c110c]
def F69(m:Unit):Option Unit:=some ()
def F69c:KT:=xg 69 f20 f20 F69 [] [] true [] L0
def F69_v1(m:List PV):Option (Unit×(List PV)):=cond (decide (m.length<=accMax)) (some ((),m)) none
def F69_v1c:KT:=xg 69 ⟨1,[],[.sln 69]⟩ f66 F69_v1 [] [] true [] L0
def F69_v2(m:List PV):Option (Unit×(List PV)):=F69_v1 m
def F69_v2e:CallE:=⟨69,f101,f66,λx=>F69_v2 x,((),[])⟩
theorem F69_v2ok:F69_v2e.Ok Tryz.prog:=by
 intro x y h
 have h:F69_v1 x=some y:=h
 have m:=F69_v1c.ok x y h
 unfold F69_v1 at h
 obtain⟨o,rfl⟩:=aaz h
 exact ahi (λ_=>F69c.ok () () rfl) m
def F69_v2c:KC Tryz.prog:=⟨F69_v2e,F69_v2ok⟩
def F70(m:Unit):Option ((List PV)):=some []
def F70c:KT:=xj 70 f20 f61 F70 []
def F70_v1(m:List PV):Option ((List PV)):=cond (decide (m.length<=accMax)) (some m) none
def F70_v1c:KT:=xj 70 ⟨1,[],[.sln 117]⟩ f61 F70_v1 []
def F70_v2(m:List PV):Option ((List PV)):=F70_v1 m
def F70_v2e:CallE:=⟨70,f61,f61,λx=>F70_v2 x,[]⟩
theorem F70_v2ok:F70_v2e.Ok Tryz.prog:=by
 intro x y h
 have h:F70_v1 x=some y:=h
 have m:=F70_v1c.ok x y h
 unfold F70_v1 at h
 obtain⟨o,rfl⟩:=aaz h
 exact ans (λe=>by subst e;exact F70c.ok () [] rfl) m
def F70_v2c:KC Tryz.prog:=⟨F70_v2e,F70_v2ok⟩
def F71(m:Unit):Option ((List PV)):=some []
def F71c:KT:=xj 71 f20 f18 F71 []
def F71_v1(m:List PV):Option ((List PV)):=cond (decide (m.length<=accMax)) (some m) none
def F71_v1c:KT:=xj 71 ⟨1,[],[.sln 9]⟩ f18 F71_v1 []
def F71_v2(m:List PV):Option ((List PV)):=F71_v1 m
def F71_v2e:CallE:=⟨71,f18,f18,λx=>F71_v2 x,[]⟩
theorem F71_v2ok:F71_v2e.Ok Tryz.prog:=by
 intro x y h
 have h:F71_v1 x=some y:=h
 have m:=F71_v1c.ok x y h
 unfold F71_v1 at h
 obtain⟨o,rfl⟩:=aaz h
 exact ans (λe=>by subst e;exact F71c.ok () [] rfl) m
def F71_v2c:KC Tryz.prog:=⟨F71_v2e,F71_v2ok⟩
def F72(m:Unit):Option Unit:=some ()
def F72c:KT:=xg 72 f20 f20 F72 [] [] true [] L0
def F72_v1(m:List PV):Option (Unit×(List PV)):=cond (decide (m.length<=accMax)) (some ((),m)) none
def F72_v1c:KT:=xg 72 ⟨1,[],[.sln 124]⟩ f63 F72_v1 [] [] true [] L0
def F72_v2(m:List PV):Option (Unit×(List PV)):=F72_v1 m
def F72_v2e:CallE:=⟨72,⟨1,[],[.slice 124]⟩,f63,λx=>F72_v2 x,((),[])⟩
theorem F72_v2ok:F72_v2e.Ok Tryz.prog:=by
 intro x y h
 have h:F72_v1 x=some y:=h
 have m:=F72_v1c.ok x y h
 unfold F72_v1 at h
 obtain⟨o,rfl⟩:=aaz h
 exact ahi (λ_=>F72c.ok () () rfl) m
def F72_v2c:KC Tryz.prog:=⟨F72_v2e,F72_v2ok⟩
def F73(m:Unit):Option Unit:=some ()
def F73c:KT:=xg 73 f20 f20 F73 [] [] true [] L0
def F73_v1(m:List PV):Option (Unit×(List PV)):=cond (decide (m.length<=accMax)) (some ((),m)) none
def F73_v1c:KT:=xg 73 ⟨1,[],[.sln 130]⟩ f64 F73_v1 [] [] true [] L0
def F73_v2(m:List PV):Option (Unit×(List PV)):=F73_v1 m
def F73_v2e:CallE:=⟨73,⟨1,[],[.slice 130]⟩,f64,λx=>F73_v2 x,((),[])⟩
theorem F73_v2ok:F73_v2e.Ok Tryz.prog:=by
 intro x y h
 have h:F73_v1 x=some y:=h
 have m:=F73_v1c.ok x y h
 unfold F73_v1 at h
 obtain⟨o,rfl⟩:=aaz h
 exact ahi (λ_=>F73c.ok () () rfl) m
def F73_v2c:KC Tryz.prog:=⟨F73_v2e,F73_v2ok⟩
def S47_11(J M O U:Unit)(o:List PV)(t z G m:Int)(s:PV×PV×(List PV)×(List PV)×(List PV)×Bn×Unit×(List PV)×(List PV)×(List PV)×(List PV)):Option (T11a⊕(Unit×Unit×Unit×Unit×(List PV)×Int×Int×PV×PV×(List PV)×(List PV)×(List PV)×Bn×Unit×(List PV)×(List PV)×(List PV)×(List PV))):=cond (decide (m<G)) (cond (aab m s.2.2.2.2.2.2.2.2.2.2.length) ((F68 (((s.2.2.2.2.2.2.2.2.2.2.getD m.toNat .bad).fld 8).asList)).bind λI=>cond (aab m s.2.2.2.2.2.2.2.2.2.2.length) (let H:=s.2.2.2.2.2.2.2.2.2.2.set m.toNat (PV.agg [.int (((s.2.2.2.2.2.2.2.2.2.2.getD m.toNat .bad).fld 0).asInt),.str (((s.2.2.2.2.2.2.2.2.2.2.getD m.toNat .bad).fld 1).asStr),.int (((s.2.2.2.2.2.2.2.2.2.2.getD m.toNat .bad).fld 2).asInt),.int (((s.2.2.2.2.2.2.2.2.2.2.getD m.toNat .bad).fld 3).asInt),(s.2.2.2.2.2.2.2.2.2.2.getD m.toNat .bad).fld 4,.str (((s.2.2.2.2.2.2.2.2.2.2.getD m.toNat .bad).fld 5).asStr),.bool (((s.2.2.2.2.2.2.2.2.2.2.getD m.toNat .bad).fld 6).asBool),(s.2.2.2.2.2.2.2.2.2.2.getD m.toNat .bad).fld 7,.slice I]);some (.inl ((),(),(),(),o,t,z,G,(IntKind.wrap .i64 (m+1)),s.1,s.2.1,s.2.2.1,s.2.2.2.1,s.2.2.2.2.1,s.2.2.2.2.2.1,(),s.2.2.2.2.2.2.2.1,s.2.2.2.2.2.2.2.2.1,s.2.2.2.2.2.2.2.2.2.1,H))) none) none) (some (.inr ((),(),(),(),o,t,z,s)))
def S47_6(a5 a6 a7:Unit)(U:List PV)(Z t:Int)(z G:PV)(H I J:List PV):Option (T0a⊕T8a):=cond (decide (t<Z)) (cond (aab t U.length) (let o:=U.getD t.toNat .bad;(F68 (o.fld 4).asList).bind λW=>(F69_v2 (o.fld 1).asList).bind λO=>(F70_v2 (o.fld 2).asList).bind λX=>(F71_v2 (o.fld 3).asList).bind λY=>(aad 0 (Y10 S47_11) ((),(),(),(),U,Z,t,(O.2.length:Int),(0:Int),z,G,H,I,J,(o.fld 0).asStr,(),X,Y,W,O.2)).bind λm=>let M:=m.2.2.2.2.2.2.2.2.2.1;cond (decide (M.length+[(PV.agg [.str m.2.2.2.2.2.2.2.2.2.2.2.2.1,.slice m.2.2.2.2.2.2.2.2.2.2.2.2.2.2.2.2.2,.slice m.2.2.2.2.2.2.2.2.2.2.2.2.2.2.1,.slice m.2.2.2.2.2.2.2.2.2.2.2.2.2.2.2.1,.slice m.2.2.2.2.2.2.2.2.2.2.2.2.2.2.2.2.1])].length<=accMax)) (let V:=M++[(PV.agg [.str m.2.2.2.2.2.2.2.2.2.2.2.2.1,.slice m.2.2.2.2.2.2.2.2.2.2.2.2.2.2.2.2.2,.slice m.2.2.2.2.2.2.2.2.2.2.2.2.2.2.1,.slice m.2.2.2.2.2.2.2.2.2.2.2.2.2.2.2.1,.slice m.2.2.2.2.2.2.2.2.2.2.2.2.2.2.2.2.1])];some (.inl ((),(),(),m.2.2.2.2.1,m.2.2.2.2.2.1,(IntKind.wrap .i64 (m.2.2.2.2.2.2.1+1)),m.2.2.2.2.2.2.2.1,m.2.2.2.2.2.2.2.2.1,V,m.2.2.2.2.2.2.2.2.2.2.1,m.2.2.2.2.2.2.2.2.2.2.2.1))) none) none) (some (.inr ((),(),(),z,G,H,I,J)))
def S47_22(J M O U:Unit)(o:List PV)(t z G m:Int)(s:PV×PV×(List PV)×(List PV)×(List PV)×Bn×Bool×Unit×(List PV)×(List PV)×(List PV)):Option (T13a⊕(Unit×Unit×Unit×Unit×(List PV)×Int×Int×PV×PV×(List PV)×(List PV)×(List PV)×Bn×Bool×Unit×(List PV)×(List PV)×(List PV))):=cond (decide (m<G)) (cond (aab m s.2.2.2.2.2.2.2.2.2.2.length) ((F68 (((s.2.2.2.2.2.2.2.2.2.2.getD m.toNat .bad).fld 2).asList)).bind λI=>cond (aab m s.2.2.2.2.2.2.2.2.2.2.length) (let H:=s.2.2.2.2.2.2.2.2.2.2.set m.toNat (PV.agg [.str (((s.2.2.2.2.2.2.2.2.2.2.getD m.toNat .bad).fld 0).asStr),.int (((s.2.2.2.2.2.2.2.2.2.2.getD m.toNat .bad).fld 1).asInt),.slice I]);some (.inl ((),(),(),(),o,t,z,G,(IntKind.wrap .i64 (m+1)),s.1,s.2.1,s.2.2.1,s.2.2.2.1,s.2.2.2.2.1,s.2.2.2.2.2.1,s.2.2.2.2.2.2.1,(),s.2.2.2.2.2.2.2.2.1,s.2.2.2.2.2.2.2.2.2.1,H))) none) none) (some (.inr ((),(),(),(),o,t,z,s)))
def S47_18(Z aa ab:Unit)(z:List PV)(G t:Int)(H I:PV)(J M O:List PV):Option (T0a⊕T8a):=cond (decide (t<G)) (cond (aab t z.length) (let o:=z.getD t.toNat .bad;(F68 (o.fld 4).asList).bind λX=>(F72_v2 (o.fld 2).asList).bind λV=>(F70_v2 (o.fld 3).asList).bind λY=>(aad 0 (Y10 S47_22) ((),(),(),(),z,G,t,(V.2.length:Int),(0:Int),H,I,J,M,O,(o.fld 0).asStr,(o.fld 1).asBool,(),Y,X,V.2)).bind λm=>let U:=m.2.2.2.2.2.2.2.2.2.2.1;cond (decide (U.length+[(PV.agg [.str m.2.2.2.2.2.2.2.2.2.2.2.2.1,.bool m.2.2.2.2.2.2.2.2.2.2.2.2.2.1,.slice m.2.2.2.2.2.2.2.2.2.2.2.2.2.2.2.2.2,.slice m.2.2.2.2.2.2.2.2.2.2.2.2.2.2.2.1,.slice m.2.2.2.2.2.2.2.2.2.2.2.2.2.2.2.2.1])].length<=accMax)) (let W:=U++[(PV.agg [.str m.2.2.2.2.2.2.2.2.2.2.2.2.1,.bool m.2.2.2.2.2.2.2.2.2.2.2.2.2.1,.slice m.2.2.2.2.2.2.2.2.2.2.2.2.2.2.2.2.2,.slice m.2.2.2.2.2.2.2.2.2.2.2.2.2.2.2.1,.slice m.2.2.2.2.2.2.2.2.2.2.2.2.2.2.2.2.1])];some (.inl ((),(),(),m.2.2.2.2.1,m.2.2.2.2.2.1,(IntKind.wrap .i64 (m.2.2.2.2.2.2.1+1)),m.2.2.2.2.2.2.2.1,m.2.2.2.2.2.2.2.2.1,m.2.2.2.2.2.2.2.2.2.1,W,m.2.2.2.2.2.2.2.2.2.2.2.1))) none) none) (some (.inr ((),(),(),H,I,J,M,O)))
def S47_33(J M O:Unit)(o:List PV)(t z G m:Int)(s:PV×PV×(List PV)×(List PV)×(List PV)×Bn×Unit×(List PV)×(List PV)):Option (T20a⊕(Unit×Unit×Unit×(List PV)×Int×Int×PV×PV×(List PV)×(List PV)×(List PV)×Bn×Unit×(List PV)×(List PV))):=cond (decide (m<G)) (cond (aab m s.2.2.2.2.2.2.2.2.length) ((F68 (((s.2.2.2.2.2.2.2.2.getD m.toNat .bad).fld 4).asList)).bind λI=>cond (aab m s.2.2.2.2.2.2.2.2.length) (let H:=s.2.2.2.2.2.2.2.2.set m.toNat (PV.agg [.str (((s.2.2.2.2.2.2.2.2.getD m.toNat .bad).fld 0).asStr),.str (((s.2.2.2.2.2.2.2.2.getD m.toNat .bad).fld 1).asStr),.str (((s.2.2.2.2.2.2.2.2.getD m.toNat .bad).fld 2).asStr),.int (((s.2.2.2.2.2.2.2.2.getD m.toNat .bad).fld 3).asInt),.slice I]);some (.inl ((),(),(),o,t,z,G,(IntKind.wrap .i64 (m+1)),s.1,s.2.1,s.2.2.1,s.2.2.2.1,s.2.2.2.2.1,s.2.2.2.2.2.1,(),s.2.2.2.2.2.2.2.1,H))) none) none) (some (.inr ((),(),(),o,t,z,s)))
def S47_29(Y Z:Unit)(H:List PV)(I t:Int)(J M:PV)(O U V:List PV):Option (T14a⊕T45a):=cond (decide (t<I)) (cond (aab t H.length) (let o:=H.getD t.toNat .bad;(F68 (o.fld 2).asList).bind λX=>(F73_v2 (o.fld 1).asList).bind λG=>(aad 0 (Y9 S47_33) ((),(),(),H,I,t,(G.2.length:Int),(0:Int),J,M,O,U,V,(o.fld 0).asStr,(),X,G.2)).bind λm=>let z:=m.2.2.2.2.2.2.2.2.2.2.1;cond (decide (z.length+[(PV.agg [.str m.2.2.2.2.2.2.2.2.2.2.2.1,.slice m.2.2.2.2.2.2.2.2.2.2.2.2.2.2,.slice m.2.2.2.2.2.2.2.2.2.2.2.2.2.1])].length<=accMax)) (let W:=z++[(PV.agg [.str m.2.2.2.2.2.2.2.2.2.2.2.1,.slice m.2.2.2.2.2.2.2.2.2.2.2.2.2.2,.slice m.2.2.2.2.2.2.2.2.2.2.2.2.2.1])];some (.inl ((),(),m.2.2.2.1,m.2.2.2.2.1,(IntKind.wrap .i64 (m.2.2.2.2.2.1+1)),m.2.2.2.2.2.2.1,m.2.2.2.2.2.2.2.1,m.2.2.2.2.2.2.2.2.1,m.2.2.2.2.2.2.2.2.2.1,W))) none) none) (some (.inr ((),(),J,M,O,U,V)))
def F47(H:PV):Option PV:=(F45 H).bind λJ=>cond (!J) (some H) (let I:=(H.fld 0).asList;(aad 0 (Y11 S47_6) ((),(),(),I,(I.length:Int),(0:Int),H,(PV.agg [.slice [],.slice [],.slice []]),[],[],[])).bind λm=>let z:=(m.2.2.2.1.fld 1).asList;(aad 0 (Y11 S47_18) ((),(),(),z,(z.length:Int),(0:Int),m.2.2.2.1,m.2.2.2.2.1,m.2.2.2.2.2.1,m.2.2.2.2.2.2.1,m.2.2.2.2.2.2.2)).bind λo=>let G:=(o.2.2.2.1.fld 2).asList;(aad 0 (Y10 S47_29) ((),(),G,(G.length:Int),(0:Int),o.2.2.2.1,o.2.2.2.2.1,o.2.2.2.2.2.1,o.2.2.2.2.2.2.1,o.2.2.2.2.2.2.2)).bind λt=>some (PV.agg [.slice t.2.2.2.2.1,.slice t.2.2.2.2.2.1,.slice t.2.2.2.2.2.2]))
def S47_11l:LoopE:=⟨11,⟨[1,2,3,5,18,19,20,42,43],bx49,(.con (.ref 0 [] 42))::(.con (.ref 1 [] 42))::(.con (.ref 2 [] 42))::(.con (.ref 6 [] 74))::(.slice 74)::(.int .i64)::(.int .i64)::(.int .i64)::(.int .i64)::(.data 42)::(.data 42)::(.acc 3 74)::(.acc 4 121)::(.acc 5 127)::.str::(.con (.arr 7 0 69))::sv94⟩,[(.exit 2,⟨[1,2,3,5,18,19,20],bx49,(.con (.ref 0 [] 42))::(.con (.ref 1 [] 42))::(.con (.ref 2 [] 42))::(.con (.ref 6 [] 74))::(.slice 74)::(.int .i64)::(.int .i64)::(.data 42)::(.data 42)::(.acc 3 74)::(.acc 4 121)::(.acc 5 127)::.str::(.con (.arr 7 0 69))::sv94⟩)],(Y10 S47_11)⟩
def S47_6l:LoopE:=⟨6,⟨[1,2,3,18,19,20],bx20,(.con (.ref 0 [] 42))::(.con (.ref 1 [] 42))::(.con (.ref 2 [] 42))::(.slice 74)::sv95⟩,[(.exit 0,f70)],(Y11 S47_6)⟩
def S47_22l:LoopE:=⟨22,⟨[1,2,3,8,67,68,69,87,88],bx50,[(.con (.ref 0 [] 42)),(.con (.ref 1 [] 42)),(.con (.ref 2 [] 42)),(.con (.ref 6 [] 121)),.slice 121,.int .i64,.int .i64,.int .i64,.int .i64,.data 42,.data 42,.acc 3 74,.acc 4 121,.acc 5 127,.str,.bool,(.con (.arr 7 0 124)),.slice 117,.slice 66,.slice 124]⟩,[(.exit 6,⟨[1,2,3,8,67,68,69],bx50,[(.con (.ref 0 [] 42)),(.con (.ref 1 [] 42)),(.con (.ref 2 [] 42)),(.con (.ref 6 [] 121)),.slice 121,.int .i64,.int .i64,.data 42,.data 42,.acc 3 74,.acc 4 121,.acc 5 127,.str,.bool,(.con (.arr 7 0 124)),.slice 117,.slice 66,.slice 124]⟩)],(Y10 S47_22)⟩
def S47_18l:LoopE:=⟨18,⟨[1,2,3,67,68,69],bx20,(.con (.ref 0 [] 42))::(.con (.ref 1 [] 42))::(.con (.ref 2 [] 42))::(.slice 121)::sv95⟩,[(.exit 4,f70)],(Y11 S47_18)⟩
def S47_33l:LoopE:=⟨33,⟨[2,3,11,112,113,114,128,129],bx51,(.con (.ref 1 [] 42))::(.con (.ref 2 [] 42))::(.con (.ref 6 [] 127))::(.slice 127)::(.int .i64)::(.int .i64)::(.int .i64)::(.int .i64)::(.data 42)::(.data 42)::(.acc 3 74)::(.acc 4 121)::(.acc 5 127)::.str::(.con (.arr 7 0 130))::sv96⟩,[(.exit 10,⟨[2,3,11,112,113,114],bx51,(.con (.ref 1 [] 42))::(.con (.ref 2 [] 42))::(.con (.ref 6 [] 127))::(.slice 127)::(.int .i64)::(.int .i64)::(.data 42)::(.data 42)::(.acc 3 74)::(.acc 4 121)::(.acc 5 127)::.str::(.con (.arr 7 0 130))::sv96⟩)],(Y9 S47_33)⟩
def S47_29l:LoopE:=⟨29,⟨[2,3,112,113,114],bx20,(.con (.ref 1 [] 42))::(.con (.ref 2 [] 42))::(.slice 127)::sv95⟩,[(.exit 8,⟨[2,3],bx20,sv43⟩)],(Y10 S47_29)⟩
def F47c:KT:=xf 47 f8 f8 F47 [F45c,F68c,F69_v2c,F70_v2c,F71_v2c,F72_v2c,F73_v2c] [S47_11l,S47_6l,S47_22l,S47_18l,S47_33l,S47_29l] (L3 (xl S47_6l (L1 (xl S47_11l L0))) (xl S47_18l (L1 (xl S47_22l L0))) (xl S47_29l (L1 (xl S47_33l L0))))
def S184_6(t:Bn)(z:Int)(V:Unit)(I:List PV)(J M:Int)(G:List PV)(O m:Int)(H o:PV):Option (T49a⊕((Bn×PV×PV)⊕(Bn×Int×(List PV)×Int×Int×PV×PV))):=cond (decide (m<O)) (cond (aab m G.length) (let U:=G.getD m.toNat .bad;cond (cond ((o.fld 0).asStr==t) ((IntKind.wrap .u64 (U.fld 1).asInt)==z) false) (some (.inr (.inl ((U.fld 0).asStr,H,o)))) (some (.inl (t,z,(),I,J,M,G,O,(IntKind.wrap .i64 (m+1)),H,o)))) none) (some (.inr (.inr (t,z,I,J,M,H,o))))
def S184_3(O:Bn)(U:Int)(I:List PV)(J H:Int)(M:PV):Option (T39a⊕T111a):=cond (decide (H<J)) (cond (aab H I.length) (let o:=I.getD H.toNat .bad;let t:=(o.fld 2).asList;(aad 0 (Y11 S184_6) (O,U,(),I,J,H,t,(t.length:Int),(0:Int),M,o)).bind λz=>sumE (λG=>some (.inr (.inl (G.1,G.2.1))) ) (λm=>some (.inl (m.1,m.2.1,m.2.2.1,m.2.2.2.1,(IntKind.wrap .i64 (m.2.2.2.2.1+1)),m.2.2.2.2.2.1)) ) z) none) (some (.inr (.inr M)))
def F184(o:PV)(t:Bn)(G:Int):Option Bn:=let x1:=(o.fld 1).asList;(aad 0 (Y6 S184_3) (t,G,x1,(x1.length:Int),(0:Int),o)).bind λz=>sumE (λm=>some m.1 ) (λH=>some ([]:Bn) ) z
def S184_6l:LoopE:=⟨6,⟨[1,2,8,12,13,14,19,20,21],bx52,.str::(.int .u64)::(.con (.ref 1 [] 121))::(.slice 121)::(.int .i64)::(.int .i64)::(.slice 124)::(.int .i64)::(.int .i64)::sv97⟩,[(.ret,⟨[6],bx52,.str::sv97⟩),(.exit 2,⟨[1,2,12,13,14],bx52,.str::(.int .u64)::(.slice 121)::(.int .i64)::(.int .i64)::sv97⟩)],(Y11 S184_6)⟩
def S184_3l:LoopE:=⟨3,⟨[1,2,12,13,14],bx6,.str::(.int .u64)::(.slice 121)::(.int .i64)::sv19⟩,[(.ret,f123),(.exit 0,f69)],(Y6 S184_3)⟩
def F184c:KT:=xf 184 f94 f4 (u3 F184) [] [S184_6l,S184_3l] (L1 (xl S184_3l (L1 (xl S184_6l L0))))
def F185(m:List PV):Option Bn:=(amc 0 m ([]:Bn)).bind λo=>some o
def F185c:KT:=xj 185 f18 f4 F185 [⟨avx 0,ate 0⟩]
def F114(m:Bn):Option Bn:=(F185 [(PV.str ([46]:Bn)),(PV.str m)]).bind λo=>some o
def F114c:KT:=xj 114 f4 f4 F114 [F185c]
def F113(G m:PV):Option PV:=cond (cond ((m.fld 6).asBool) ((((m.fld 4).fld 0).asInt)==9) false) ((F184 G (((m.fld 4).fld 1).asStr) (((m.fld 7).fld 1).asInt)).bind λz=>cond (cond ((((m.fld 4).fld 0).asInt)==10) true ((((m.fld 4).fld 0).asInt)==9)) ((F114 (((m.fld 4).fld 1).asStr)).bind λo=>some (PV.agg [.int (m.fld 0).asInt,.str (m.fld 1).asStr,.int (m.fld 2).asInt,.int (m.fld 3).asInt,.agg [.int 0,.str o],.str (m.fld 5).asStr,.bool (m.fld 6).asBool,.agg [.int 9,.int 0,.str z,.slice [],.slice [],.slice [],.slice []],.slice (m.fld 8).asList])) (some (PV.agg [.int (m.fld 0).asInt,.str (m.fld 1).asStr,.int (m.fld 2).asInt,.int (m.fld 3).asInt,m.fld 4,.str (m.fld 5).asStr,.bool (m.fld 6).asBool,.agg [.int 9,.int 0,.str z,.slice [],.slice [],.slice [],.slice []],.slice (m.fld 8).asList]))) (cond (cond ((((m.fld 4).fld 0).asInt)==10) true ((((m.fld 4).fld 0).asInt)==9)) ((F114 (((m.fld 4).fld 1).asStr)).bind λt=>some (PV.agg [.int (m.fld 0).asInt,.str (m.fld 1).asStr,.int (m.fld 2).asInt,.int (m.fld 3).asInt,.agg [.int 0,.str t],.str (m.fld 5).asStr,.bool (m.fld 6).asBool,m.fld 7,.slice (m.fld 8).asList])) (some m))
def F113c:KT:=xj 113 f88 f19 (u2 F113) [F184c,F114c]
def S75_8(I J M O:Unit)(o:List PV)(t z:Int)(U:Unit)(G m:Int)(s:PV×PV×Bn×Bn×(List PV)×(List PV)×(List PV)×(List PV)×Bn×Unit×(List PV)×(List PV)×(List PV)×(List PV)):Option (T3a⊕(Unit×Unit×Unit×Unit×(List PV)×Int×Int×PV×PV×Bn×Bn×(List PV)×(List PV)×(List PV)×(List PV)×Bn×Unit×(List PV)×(List PV)×(List PV)×(List PV))):=cond (decide (m<G)) (cond (aab m s.2.2.2.2.2.2.2.2.2.2.2.2.2.length) ((F113 s.1 (s.2.2.2.2.2.2.2.2.2.2.2.2.2.getD m.toNat .bad)).bind λH=>cond (aab m s.2.2.2.2.2.2.2.2.2.2.2.2.2.length) (some (.inl ((),(),(),(),o,t,z,(),G,(IntKind.wrap .i64 (m+1)),s.1,s.2.1,s.2.2.1,s.2.2.2.1,s.2.2.2.2.1,s.2.2.2.2.2.1,s.2.2.2.2.2.2.1,s.2.2.2.2.2.2.2.1,s.2.2.2.2.2.2.2.2.1,(),s.2.2.2.2.2.2.2.2.2.2.1,s.2.2.2.2.2.2.2.2.2.2.2.1,s.2.2.2.2.2.2.2.2.2.2.2.2.1,(s.2.2.2.2.2.2.2.2.2.2.2.2.2.set m.toNat H)))) none) none) (some (.inr ((),(),(),(),o,t,z,s)))
def S75_4(M O U:Unit)(H:List PV)(J G:Int)(s:PV×PV×Bn×Bn×(List PV)×(List PV)×(List PV)×(List PV)):Option (T23a⊕T28a):=cond (decide (G<J)) (cond (aab G H.length) (let o:=H.getD G.toNat .bad;(F69_v2 (o.fld 1).asList).bind λz=>(aad 0 (Y11 S75_8) ((),(),(),(),H,J,G,(),(z.2.length:Int),(0:Int),s.1,s.2.1,s.2.2.1,s.2.2.2.1,s.2.2.2.2.1,s.2.2.2.2.2.1,s.2.2.2.2.2.2.1,s.2.2.2.2.2.2.2,(o.fld 0).asStr,(),(o.fld 2).asList,(o.fld 3).asList,(o.fld 4).asList,z.2)).bind λm=>let t:=m.2.2.2.2.2.2.2.2.2.2.2.2.1;cond (decide (t.length+[(PV.agg [.str m.2.2.2.2.2.2.2.2.2.2.2.2.2.2.2.1,.slice m.2.2.2.2.2.2.2.2.2.2.2.2.2.2.2.2.2.2.2.2,.slice m.2.2.2.2.2.2.2.2.2.2.2.2.2.2.2.2.2.1,.slice m.2.2.2.2.2.2.2.2.2.2.2.2.2.2.2.2.2.2.1,.slice m.2.2.2.2.2.2.2.2.2.2.2.2.2.2.2.2.2.2.2.1])].length<=accMax)) (let I:=t++[(PV.agg [.str m.2.2.2.2.2.2.2.2.2.2.2.2.2.2.2.1,.slice m.2.2.2.2.2.2.2.2.2.2.2.2.2.2.2.2.2.2.2.2,.slice m.2.2.2.2.2.2.2.2.2.2.2.2.2.2.2.2.2.1,.slice m.2.2.2.2.2.2.2.2.2.2.2.2.2.2.2.2.2.2.1,.slice m.2.2.2.2.2.2.2.2.2.2.2.2.2.2.2.2.2.2.2.1])];some (.inl ((),(),(),m.2.2.2.2.1,m.2.2.2.2.2.1,(IntKind.wrap .i64 (m.2.2.2.2.2.2.1+1)),m.2.2.2.2.2.2.2.1,m.2.2.2.2.2.2.2.2.1,m.2.2.2.2.2.2.2.2.2.1,m.2.2.2.2.2.2.2.2.2.2.1,m.2.2.2.2.2.2.2.2.2.2.2.1,I,m.2.2.2.2.2.2.2.2.2.2.2.2.2.1,m.2.2.2.2.2.2.2.2.2.2.2.2.2.2.1))) none) none) (some (.inr ((),(),(),s)))
def S75_19(O U V:Unit)(t:List PV)(z G H m:Int)(s:PV×PV×Bn×Bn×(List PV)×(List PV)×(List PV)×(List PV)×Bn×Unit×(List PV)×(List PV)):Option (T9a⊕(Unit×Unit×Unit×(List PV)×Int×Int×PV×PV×Bn×Bn×(List PV)×(List PV)×(List PV)×(List PV)×Bn×Unit×(List PV)×(List PV))):=cond (decide (m<H)) (cond (aab m s.2.2.2.2.2.2.2.2.2.2.2.length) ((F114 (((s.2.2.2.2.2.2.2.2.2.2.2.getD m.toNat .bad).fld 1).asStr)).bind λJ=>(F114 (((s.2.2.2.2.2.2.2.2.2.2.2.getD m.toNat .bad).fld 2).asStr)).bind λM=>let o:=s.2.2.2.2.2.2.2.2.2.2.2.set m.toNat (PV.agg [.str (((s.2.2.2.2.2.2.2.2.2.2.2.getD m.toNat .bad).fld 0).asStr),.str J,.str (((s.2.2.2.2.2.2.2.2.2.2.2.getD m.toNat .bad).fld 2).asStr),.int (((s.2.2.2.2.2.2.2.2.2.2.2.getD m.toNat .bad).fld 3).asInt),.slice (((s.2.2.2.2.2.2.2.2.2.2.2.getD m.toNat .bad).fld 4).asList)]);let I:=o.set m.toNat (PV.agg [.str (((o.getD m.toNat .bad).fld 0).asStr),.str (((o.getD m.toNat .bad).fld 1).asStr),.str M,.int (((o.getD m.toNat .bad).fld 3).asInt),.slice (((o.getD m.toNat .bad).fld 4).asList)]);some (.inl ((),(),(),t,z,G,H,(IntKind.wrap .i64 (m+1)),s.1,s.2.1,s.2.2.1,s.2.2.2.1,s.2.2.2.2.1,s.2.2.2.2.2.1,s.2.2.2.2.2.2.1,s.2.2.2.2.2.2.2.1,s.2.2.2.2.2.2.2.2.1,(),s.2.2.2.2.2.2.2.2.2.2.1,I))) none) (some (.inr ((),(),(),t,z,G,s)))
def S75_15(M O:Unit)(t:List PV)(G o:Int)(s:PV×PV×Bn×Bn×(List PV)×(List PV)×(List PV)×(List PV)):Option (T24a⊕T35a):=cond (decide (o<G)) (cond (aab o t.length) (let z:=t.getD o.toNat .bad;(F73_v2 (z.fld 1).asList).bind λI=>(aad 0 (Y9 S75_19) ((),(),(),t,G,o,(I.2.length:Int),(0:Int),s.1,s.2.1,s.2.2.1,s.2.2.2.1,s.2.2.2.2.1,s.2.2.2.2.2.1,s.2.2.2.2.2.2.1,s.2.2.2.2.2.2.2,(z.fld 0).asStr,(),(z.fld 2).asList,I.2)).bind λm=>let H:=m.2.2.2.2.2.2.2.2.2.2.2.2.2.1;cond (decide (H.length+[(PV.agg [.str m.2.2.2.2.2.2.2.2.2.2.2.2.2.2.1,.slice m.2.2.2.2.2.2.2.2.2.2.2.2.2.2.2.2.2,.slice m.2.2.2.2.2.2.2.2.2.2.2.2.2.2.2.2.1])].length<=accMax)) (let J:=H++[(PV.agg [.str m.2.2.2.2.2.2.2.2.2.2.2.2.2.2.1,.slice m.2.2.2.2.2.2.2.2.2.2.2.2.2.2.2.2.2,.slice m.2.2.2.2.2.2.2.2.2.2.2.2.2.2.2.2.1])];some (.inl ((),(),m.2.2.2.1,m.2.2.2.2.1,(IntKind.wrap .i64 (m.2.2.2.2.2.1+1)),m.2.2.2.2.2.2.1,m.2.2.2.2.2.2.2.1,m.2.2.2.2.2.2.2.2.1,m.2.2.2.2.2.2.2.2.2.1,m.2.2.2.2.2.2.2.2.2.2.1,m.2.2.2.2.2.2.2.2.2.2.2.1,m.2.2.2.2.2.2.2.2.2.2.2.2.1,J))) none) none) (some (.inr ((),(),s)))
def F75(z:PV):Option PV:=let G:=(z.fld 0).asList;(aad 0 (Y7 S75_4) ((),(),(),G,(G.length:Int),(0:Int),z,(PV.agg [.str ([]:Bn),.str ([]:Bn),.slice [],.slice [],.slice [],.slice []]),([]:Bn),([]:Bn),[],[],(z.fld 1).asList,[])).bind λt=>let o:=(t.2.2.2.1.fld 2).asList;(aad 0 (Y6 S75_15) ((),(),o,(o.length:Int),(0:Int),t.2.2.2)).bind λm=>some (PV.agg [.str m.2.2.2.2.1,.str m.2.2.2.2.2.1,.slice m.2.2.2.2.2.2.1,.slice m.2.2.2.2.2.2.2.1,.slice m.2.2.2.2.2.2.2.2.1,.slice m.2.2.2.2.2.2.2.2.2])
def S75_8l:LoopE:=⟨8,⟨[1,2,3,5,16,17,18,27,28,29],bx53,(.con (.ref 0 [] 42))::(.con (.ref 1 [] 112))::(.con (.ref 2 [] 112))::(.con (.ref 5 [] 74))::(.slice 74)::(.int .i64)::(.int .i64)::(.con (.arr 6 0 69))::(.int .i64)::(.int .i64)::(.data 42)::(.data 112)::.str::.str::(.slice 9)::(.acc 3 74)::(.slice 121)::(.acc 4 127)::.str::(.con (.arr 6 0 69))::sv94⟩,[(.exit 2,⟨[1,2,3,5,16,17,18],bx53,(.con (.ref 0 [] 42))::(.con (.ref 1 [] 112))::(.con (.ref 2 [] 112))::(.con (.ref 5 [] 74))::(.slice 74)::(.int .i64)::(.int .i64)::(.data 42)::(.data 112)::.str::.str::(.slice 9)::(.acc 3 74)::(.slice 121)::(.acc 4 127)::.str::(.con (.arr 6 0 69))::sv94⟩)],(Y11 S75_8)⟩
def S75_4l:LoopE:=⟨4,⟨[1,2,3,16,17,18],bx22,(.con (.ref 0 [] 42))::(.con (.ref 1 [] 112))::(.con (.ref 2 [] 112))::(.slice 74)::(.int .i64)::sv45⟩,[(.exit 0,f71)],(Y7 S75_4)⟩
def S75_19l:LoopE:=⟨19,⟨[2,3,9,50,51,52,62,63],bx54,(.con (.ref 1 [] 112))::(.con (.ref 2 [] 112))::(.con (.ref 5 [] 127))::(.slice 127)::(.int .i64)::(.int .i64)::(.int .i64)::(.int .i64)::(.data 42)::(.data 112)::.str::.str::(.slice 9)::(.acc 3 74)::(.slice 121)::(.acc 4 127)::.str::(.con (.arr 6 0 130))::sv96⟩,[(.exit 6,⟨[2,3,9,50,51,52],bx54,(.con (.ref 1 [] 112))::(.con (.ref 2 [] 112))::(.con (.ref 5 [] 127))::(.slice 127)::(.int .i64)::(.int .i64)::(.data 42)::(.data 112)::.str::.str::(.slice 9)::(.acc 3 74)::(.slice 121)::(.acc 4 127)::.str::(.con (.arr 6 0 130))::sv96⟩)],(Y9 S75_19)⟩
def S75_15l:LoopE:=⟨15,⟨[2,3,50,51,52],bx22,(.con (.ref 1 [] 112))::(.con (.ref 2 [] 112))::(.slice 127)::(.int .i64)::sv45⟩,[(.exit 4,⟨[2,3],bx22,sv46⟩)],(Y6 S75_15)⟩
def F75c:KT:=xf 75 f8 f7 F75 [F69_v2c,F113c,F73_v2c,F114c] [S75_8l,S75_4l,S75_19l,S75_15l] (L2 (xl S75_4l (L1 (xl S75_8l L0))) (xl S75_15l (L1 (xl S75_19l L0))))
def F257(o:Bn):Option Bool:=(F37 o).bind λm=>(cond m (ana 0 o ([46]:Bn)) (some [])).bind λt=>(cond m (F144_c241 t ()) (some false)).bind λz=>some (cond m (!z) false)
def F257c:KT:=xj 257 f4 f0 F257 [F37c,⟨atg 0,ath 0⟩,F144_c241c]
def F262(m:Bn):Option Bool:=(F61 m).bind λo=>(cond o (F241 m) (some false)).bind λt=>some (cond o (!t) false)
def F262c:KT:=xj 262 f4 f0 F262 [F61c,F241c]
def F347(m:Int):Option Bool:=some (cond (decide (m>=1)) (decide (m<=8)) false)
def F347c:KT:=xj 347 f5 f0 F347 []
def F403(m t:Bn):Option Bn:=(F411 m t).bind λz=>cond z (let o:=(t.length:Int);cond (decide (0<=o/\o<=(m.length:Int)/\(m.length:Int)<=(m.length:Int))) (some ((m.take (m.length:Int).toNat).drop o.toNat)) none) (some m)
def F403c:KT:=xj 403 f53 f4 (u2 F403) [F411c]
def F356(m o:Bn):Option Bn:=(F403 m o).bind λt=>some t
def F356c:KT:=xj 356 f53 f4 (u2 F356) [F403c]
def F272(m:Bn):Option Bool:=(F356 m ([46]:Bn)).bind λo=>(F37 o).bind λt=>some t
def F272c:KT:=xj 272 f4 f0 F272 [F356c,F37c]
def F400 :Option PV:=let x1:=(PV.agg [.str ([98,111,111,108]:Bn),.str ([105,51,50]:Bn),.str ([105,54,52]:Bn),.str ([117,51,50]:Bn),.str ([117,54,52]:Bn),.str ([100,111,117,98,108,101]:Bn),.str ([116,101,120,116]:Bn),.str ([98,121,116,101,115]:Bn)]);some x1
def F400c:KT:=xj 400 ⟨0,[],[]⟩ ⟨1,[],[.data 360]⟩ (λx=>F400 ) []
def S348_3(o:Bn)(t:PV)(m:Int):Option ((Bn×PV×Int)⊕T104a):=cond (decide (m<8)) (cond (aab m 8) (cond ((t.fld m.toNat).asStr==o) (some (.inr (.inl (IntKind.wrap .i64 (m+1))))) (some (.inl (o,t,(IntKind.wrap .i64 (m+1)))))) none) (some (.inr (.inr ())))
def F348(o:Bn):Option Int:=F400.bind λt=>(aad 0 (Y3 S348_3) (o,t,(0:Int))).bind λz=>sumE (λm=>some m ) (λG=>some (0:Int) ) z
def S348_3l:LoopE:=⟨3,⟨[0,5,6],[],[.str,.data 360,.int .i64]⟩,[(.ret,⟨[2],[],[.int .i64]⟩),(.exit 0,f9)],(Y3 S348_3)⟩
def F348c:KT:=xf 348 f4 f5 F348 [F400c] [S348_3l] (L1 (xl S348_3l L0))
def F263(m:PV):Option Bool:=(F347 (m.fld 0).asInt).bind λt=>cond t (some ((m.fld 1).asStr==([]:Bn))) ((F272 (m.fld 1).asStr).bind λo=>(cond o (F348 (m.fld 1).asStr) (some 0)).bind λz=>some (cond o (z==0) false))
def F263c:KT:=xj 263 f84 f0 F263 [F347c,F272c,F348c]
def F261(m:PV):Option Bool:=(F262 (m.fld 1).asStr).bind λG=>let t:=(m.fld 5).asStr==([]:Bn);(cond (cond (!t) G false) (F262 (m.fld 5).asStr) (some false)).bind λH=>let z:=cond G (cond t true H) false;(cond z (F263 (m.fld 4)) (some false)).bind λo=>some (cond z o false)
def F261c:KT:=xj 261 f19 f0 F261 [F262c,F263c]
def F346(m:PV)(t z:Unit):Option (Bool×Unit):=(F261 m).bind λo=>some ((!o),())
def F346c:KT:=xj 346 ⟨2,bx55,[.data 69,(.con (.ref 0 [] 177)),(.con (.fn 261 0 []))]⟩ ⟨1,bx55,[.bool,(.con (.fn 261 0 []))]⟩ (u3 F346) [F261c]
def F393_c346g(e:PV)(c:Unit):Option (Bool×Unit):=F346 e () c
def F393_c346c:KT:=ixK 393 69 (.fn 346 0 [(.ref 0 [] 177)]) [.box 177 .leaf] (.con (.fn 261 0 [])) [] F393_c346g (F346c)
def F333_c346(m:List PV)(t o:Unit):Option (Bool×Unit):=cfF F393_c346g m o
def F333_c346c:KT:=cfK 333 69 (.fn 346 0 [(.ref 0 [] 177)]) [.box 177 .leaf] (.con (.fn 261 0 [])) [] F393_c346g (F393_c346c)
def F260_c261(m:List PV)(t:Unit):Option Bool:=(F333_c346 m () ()).bind λo=>some (!o.1)
def F260_c261c:KT:=xj 260 ⟨2,[],[.slice 69,(.con (.fn 261 0 []))]⟩ f0 (u2 F260_c261) [F333_c346c]
def F259(m:PV):Option Bool:=(F257 (m.fld 0).asStr).bind λo=>(cond o (F260_c261 (m.fld 1).asList ()) (some false)).bind λt=>some (cond o t false)
def F259c:KT:=xj 259 f45 f0 F259 [F257c,F260_c261c]
def F345(m:PV)(t z:Unit):Option (Bool×Unit):=(F259 m).bind λo=>some ((!o),())
def F345c:KT:=xj 345 ⟨2,bx56,[.data 74,(.con (.ref 0 [] 106)),(.con (.fn 259 0 []))]⟩ ⟨1,bx56,[.bool,(.con (.fn 259 0 []))]⟩ (u3 F345) [F259c]
def F92_c345g(e:PV)(c:Unit):Option (Bool×Unit):=F345 e () c
def F92_c345c:KT:=ixK 92 74 (.fn 345 0 [(.ref 0 [] 106)]) [.box 106 .leaf] (.con (.fn 259 0 [])) [] F92_c345g (F345c)
def F63_c345(m:List PV)(t o:Unit):Option (Bool×Unit):=cfF F92_c345g m o
def F63_c345c:KT:=cfK 63 74 (.fn 345 0 [(.ref 0 [] 106)]) [.box 106 .leaf] (.con (.fn 259 0 [])) [] F92_c345g (F92_c345c)
def F258_c259(m:List PV)(t:Unit):Option Bool:=(F63_c345 m () ()).bind λo=>some (!o.1)
def F258_c259c:KT:=xj 258 ⟨2,[],[.slice 74,(.con (.fn 259 0 []))]⟩ f0 (u2 F258_c259) [F63_c345c]
def F267(m:PV):Option Bool:=(F262 (m.fld 0).asStr).bind λo=>some o
def F267c:KT:=xj 267 f102 f0 F267 [F262c]
def F351(m:PV)(t z:Unit):Option (Bool×Unit):=(F267 m).bind λo=>some ((!o),())
def F351c:KT:=xj 351 ⟨2,bx57,[.data 124,(.con (.ref 0 [] 283)),(.con (.fn 267 0 []))]⟩ ⟨1,bx57,[.bool,(.con (.fn 267 0 []))]⟩ (u3 F351) [F267c]
def F343_c351g(e:PV)(c:Unit):Option (Bool×Unit):=F351 e () c
def F343_c351c:KT:=ixK 343 124 (.fn 351 0 [(.ref 0 [] 283)]) [.box 283 .leaf] (.con (.fn 267 0 [])) [] F343_c351g (F351c)
def F250_c351(m:List PV)(t o:Unit):Option (Bool×Unit):=cfF F343_c351g m o
def F250_c351c:KT:=cfK 250 124 (.fn 351 0 [(.ref 0 [] 283)]) [.box 283 .leaf] (.con (.fn 267 0 [])) [] F343_c351g (F343_c351c)
def F266_c267(m:List PV)(t:Unit):Option Bool:=(F250_c351 m () ()).bind λo=>some (!o.1)
def F266_c267c:KT:=xj 266 ⟨2,[],[.slice 124,(.con (.fn 267 0 []))]⟩ f0 (u2 F266_c267) [F250_c351c]
def F265(m:PV):Option Bool:=(F257 (m.fld 0).asStr).bind λo=>(cond o (F266_c267 (m.fld 2).asList ()) (some false)).bind λt=>some (cond o t false)
def F265c:KT:=xj 265 f44 f0 F265 [F257c,F266_c267c]
def F350(m:PV)(t z:Unit):Option (Bool×Unit):=(F265 m).bind λo=>some ((!o),())
def F350c:KT:=xj 350 ⟨2,bx58,[.data 121,(.con (.ref 0 [] 292)),(.con (.fn 265 0 []))]⟩ ⟨1,bx58,[.bool,(.con (.fn 265 0 []))]⟩ (u3 F350) [F265c]
def F394_c350g(e:PV)(c:Unit):Option (Bool×Unit):=F350 e () c
def F394_c350c:KT:=ixK 394 121 (.fn 350 0 [(.ref 0 [] 292)]) [.box 292 .leaf] (.con (.fn 265 0 [])) [] F394_c350g (F350c)
def F349_c350(m:List PV)(t o:Unit):Option (Bool×Unit):=cfF F394_c350g m o
def F349_c350c:KT:=cfK 349 121 (.fn 350 0 [(.ref 0 [] 292)]) [.box 292 .leaf] (.con (.fn 265 0 [])) [] F394_c350g (F394_c350c)
def F264_c265(m:List PV)(t:Unit):Option Bool:=(F349_c350 m () ()).bind λo=>some (!o.1)
def F264_c265c:KT:=xj 264 ⟨2,[],[.slice 121,(.con (.fn 265 0 []))]⟩ f0 (u2 F264_c265) [F349_c350c]
def F271(m:PV):Option Bool:=(F262 (m.fld 0).asStr).bind λt=>(cond t (F272 (m.fld 1).asStr) (some false)).bind λz=>let o:=cond t z false;(cond o (F272 (m.fld 2).asStr) (some false)).bind λG=>some (cond (cond (cond o G false) (!((m.fld 1).asStr==([115,116,114,101,97,109]:Bn))) false) (!((m.fld 2).asStr==([115,116,114,101,97,109]:Bn))) false)
def F271c:KT:=xj 271 ⟨1,[],[.data 130]⟩ f0 F271 [F262c,F272c]
def F355(m:PV)(t z:Unit):Option (Bool×Unit):=(F271 m).bind λo=>some ((!o),())
def F355c:KT:=xj 355 ⟨2,bx59,[.data 130,(.con (.ref 0 [] 295)),(.con (.fn 271 0 []))]⟩ ⟨1,bx59,[.bool,(.con (.fn 271 0 []))]⟩ (u3 F355) [F271c]
def F402_c355g(e:PV)(c:Unit):Option (Bool×Unit):=F355 e () c
def F402_c355c:KT:=ixK 402 130 (.fn 355 0 [(.ref 0 [] 295)]) [.box 295 .leaf] (.con (.fn 271 0 [])) [] F402_c355g (F355c)
def F354_c355(m:List PV)(t o:Unit):Option (Bool×Unit):=cfF F402_c355g m o
def F354_c355c:KT:=cfK 354 130 (.fn 355 0 [(.ref 0 [] 295)]) [.box 295 .leaf] (.con (.fn 271 0 [])) [] F402_c355g (F402_c355c)
def F270_c271(m:List PV)(t:Unit):Option Bool:=(F354_c355 m () ()).bind λo=>some (!o.1)
def F270_c271c:KT:=xj 270 ⟨2,[],[.slice 130,(.con (.fn 271 0 []))]⟩ f0 (u2 F270_c271) [F354_c355c]
def F269(m:PV):Option Bool:=(F257 (m.fld 0).asStr).bind λo=>(cond o (F270_c271 (m.fld 1).asList ()) (some false)).bind λt=>some (cond o t false)
def F269c:KT:=xj 269 f54 f0 F269 [F257c,F270_c271c]
def F353(m:PV)(t z:Unit):Option (Bool×Unit):=(F269 m).bind λo=>some ((!o),())
def F353c:KT:=xj 353 ⟨2,bx60,[.data 127,(.con (.ref 0 [] 296)),(.con (.fn 269 0 []))]⟩ ⟨1,bx60,[.bool,(.con (.fn 269 0 []))]⟩ (u3 F353) [F269c]
def F401_c353g(e:PV)(c:Unit):Option (Bool×Unit):=F353 e () c
def F401_c353c:KT:=ixK 401 127 (.fn 353 0 [(.ref 0 [] 296)]) [.box 296 .leaf] (.con (.fn 269 0 [])) [] F401_c353g (F353c)
def F352_c353(m:List PV)(t o:Unit):Option (Bool×Unit):=cfF F401_c353g m o
def F352_c353c:KT:=cfK 352 127 (.fn 353 0 [(.ref 0 [] 296)]) [.box 296 .leaf] (.con (.fn 269 0 [])) [] F401_c353g (F401_c353c)
def F268_c269(m:List PV)(t:Unit):Option Bool:=(F352_c353 m () ()).bind λo=>some (!o.1)
def F268_c269c:KT:=xj 268 ⟨2,[],[.slice 127,(.con (.fn 269 0 []))]⟩ f0 (u2 F268_c269) [F352_c353c]
def F169(m:PV):Option Bool:=let G:=!((m.fld 1).asStr==([]:Bn));(cond G (F257 (m.fld 1).asStr) (some false)).bind λI=>cond (cond G (!I) false) (some false) ((F258_c259 (m.fld 3).asList ()).bind λH=>(cond H (F264_c265 (m.fld 4).asList ()) (some false)).bind λt=>let o:=cond H t false;(cond o (F268_c269 (m.fld 5).asList ()) (some false)).bind λz=>some (cond o z false))
def F169c:KT:=xj 169 f7 f0 F169 [F257c,F258_c259c,F264_c265c,F268_c269c]
def F357(o m:Int):Option Bool:=cond (o != 5) (some (m==0)) (some (cond (cond (decide (m>=1)) (decide (m<=7)) false) (m != 6) false))
def F357c:KT:=xj 357 ⟨2,[],sv54⟩ f0 (u2 F357) []
def F404(m:PV):Option Bool:=some (cond (cond (cond ((m.fld 0).asInt==0) ((m.fld 1).asInt==0) false) ((m.fld 2).asStr==([]:Bn)) false) ((IntKind.wrap .i64 ((IntKind.wrap .i64 ((IntKind.wrap .i64 (((m.fld 3).asList.length:Int)+((m.fld 4).asList.length:Int)))+((m.fld 5).asList.length:Int)))+((m.fld 6).asList.length:Int)))==0) false)
def F404c:KT:=xj 404 f15 f0 F404 []
def F405(m:PV):Option Bool:=let o:=(m.fld 0).asInt==9;(cond o (F262 (m.fld 2).asStr) (some false)).bind λt=>some (cond (cond (cond o t false) ((m.fld 1).asInt==0) false) ((IntKind.wrap .i64 ((IntKind.wrap .i64 ((IntKind.wrap .i64 (((m.fld 3).asList.length:Int)+((m.fld 4).asList.length:Int)))+((m.fld 5).asList.length:Int)))+((m.fld 6).asList.length:Int)))==0) false)
def F405c:KT:=xj 405 f15 f0 F405 [F262c]
def F358(m:PV):Option Bool:=cond (!(m.fld 6).asBool) ((F404 (m.fld 7)).bind λG=>some G) (cond ((m.fld 2).asInt==5) (some false) (cond ((((m.fld 4).fld 0).asInt)==0) ((F405 (m.fld 7)).bind λo=>some o) ((F340 (m.fld 7)).bind λt=>(F339 (((m.fld 4).fld 0).asInt) (m.fld 7)).bind λz=>some (cond z ((t.fld 1).asInt==(((m.fld 7).fld 1).asInt)) false))))
def F358c:KT:=xj 358 f19 f0 F358 [F404c,F405c,F340c,F339c]
def F274(m:PV):Option Bool:=let o:=cond (cond (cond (decide (((m.fld 0).asInt)>=0)) (decide ((m.fld 0).asInt<=65535)) false) (decide (((m.fld 2).asInt)>=1)) false) (decide ((m.fld 2).asInt<=5)) false;(cond o (F357 (m.fld 2).asInt (m.fld 3).asInt) (some false)).bind λH=>let t:=cond o H false;let z:=(((m.fld 4).fld 0).asInt)==0;(cond (cond (!z) t false) (F347 (((m.fld 4).fld 0).asInt)) (some false)).bind λI=>let G:=cond (cond t (cond z true I) false) (cond ((m.fld 5).asStr==([]:Bn)) true (cond ((m.fld 2).asInt==2) (!(m.fld 6).asBool) false)) false;(cond G (F358 m) (some false)).bind λJ=>some (cond G J false)
def F274c:KT:=xj 274 f19 f0 F274 [F357c,F347c,F358c]
def F346_v1(m:PV)(t z:Unit):Option (Bool×Unit):=(F274 m).bind λo=>some ((!o),())
def F346_v1c:KT:=xj 346 ⟨2,bx55,[.data 69,(.con (.ref 0 [] 177)),(.con (.fn 274 0 []))]⟩ ⟨1,bx55,[.bool,(.con (.fn 274 0 []))]⟩ (u3 F346_v1) [F274c]
def F393_c346_v1g(e:PV)(c:Unit):Option (Bool×Unit):=F346_v1 e () c
def F393_c346_v1c:KT:=ixK 393 69 (.fn 346 0 [(.ref 0 [] 177)]) [.box 177 .leaf] (.con (.fn 274 0 [])) [] F393_c346_v1g (F346_v1c)
def F333_c346_v1(m:List PV)(t o:Unit):Option (Bool×Unit):=cfF F393_c346_v1g m o
def F333_c346_v1c:KT:=cfK 333 69 (.fn 346 0 [(.ref 0 [] 177)]) [.box 177 .leaf] (.con (.fn 274 0 [])) [] F393_c346_v1g (F393_c346_v1c)
def F260_c274(m:List PV)(t:Unit):Option Bool:=(F333_c346_v1 m () ()).bind λo=>some (!o.1)
def F260_c274c:KT:=xj 260 ⟨2,[],[.slice 69,(.con (.fn 274 0 []))]⟩ f0 (u2 F260_c274) [F333_c346_v1c]
def S275_6(m:List PV)(t J M G o:Int):Option (T99a⊕((Bool)⊕((List PV)×Int×Int))):=cond (decide (o<G)) (cond (aab o m.length) (cond (aab t m.length) (let H:=((m.getD o.toNat .bad).fld 5).asStr==((m.getD t.toNat .bad).fld 5).asStr;cond (imp H (aab t m.length)) (let z:=cond H (!(((m.getD t.toNat .bad).fld 5).asStr==([]:Bn))) false;let I:=IntKind.wrap .i64 (t-1);cond (imp z (aab I m.length)) (cond (imp z (aab t m.length)) (cond (cond z (!(((m.getD I.toNat .bad).fld 5).asStr==((m.getD t.toNat .bad).fld 5).asStr)) false) (some (.inr (.inl false))) (some (.inl (m,t,J,M,G,(IntKind.wrap .i64 (o+1)))))) none) none) none) none) none) (some (.inr (.inr (m,J,M))))
def S275_3(H:List PV)(G o:Int):Option (T29a⊕T21a):=cond (decide (o<G)) ((aad 0 (Y6 S275_6) (H,o,G,o,o,(0:Int))).bind λz=>sumE (λt=>some (.inr (.inl t)) ) (λm=>some (.inl (m.1,m.2.1,(IntKind.wrap .i64 (m.2.2+1)))) ) z) (some (.inr (.inr ())))
def F275(o:List PV):Option Bool:=(aad 0 (Y3 S275_3) (o,(o.length:Int),(0:Int))).bind λz=>sumE (λm=>some m ) (λt=>some true ) z
def S275_6l:LoopE:=⟨6,⟨[0,3,6,7,10,11],[],(.slice 69)::(.int .i64)::(.int .i64)::sv28⟩,[(.ret,f16),(.exit 2,⟨[0,6,7],[],sv52⟩)],(Y6 S275_6)⟩
def S275_3l:LoopE:=⟨3,⟨[0,6,7],[],sv52⟩,[(.ret,f16),(.exit 0,f9)],(Y3 S275_3)⟩
def F275c:KT:=xf 275 f101 f0 F275 [] [S275_6l,S275_3l] (L1 (xl S275_3l (L1 (xl S275_6l L0))))
def F360(m:PV)(H:Unit)(o:Int):Option (Bool×Int):=let x1:=(m.fld 0).asInt;let t:=(m.fld 1).asInt;let z:=(m.fld 0).asInt;let G:=(m.fld 1).asInt;some ((cond (decide ((if t<x1 then t else x1)>=0)) (decide ((if G>z then G else z)<=o)) false),o)
def F360c:KT:=xj 360 f55 f58 (u3 F360) []
def F406(o:PV)(z G:Unit)(t:Int):Option (Bool×Unit×Int):=(F360 o () t).bind λm=>some ((!m.1),(),m.2)
def F406c:KT:=xj 406 ⟨2,[.box 285 .leaf,.box 3 .leaf],[.data 117,(.con (.ref 0 [] 285)),(.con (.fn 360 0 [(.ref 1 [] 3)])),.int .i64]⟩ ⟨1,[.box 285 .leaf,.box 3 .leaf],[.bool,(.con (.fn 360 0 [(.ref 1 [] 3)])),.int .i64]⟩ (u4 F406) [F360c]
def F344_c406g(e:PV)(c:Unit×Int):Option (Bool×Unit×Int):=F406 e () c.1 c.2
def F344_c406c:KT:=ixK 344 117 (.fn 406 0 [(.ref 0 [] 285)]) [.box 285 .leaf,.box 3 .leaf] (.con (.fn 360 0 [(.ref 1 [] 3)])) [.int .i64] F344_c406g (F406c)
def F252_c406(m:List PV)(z o:Unit)(t:Int):Option (Bool×Unit×Int):=cfF F344_c406g m (o,t)
def F252_c406c:KT:=cfK 252 117 (.fn 406 0 [(.ref 0 [] 285)]) [.box 285 .leaf,.box 3 .leaf] (.con (.fn 360 0 [(.ref 1 [] 3)])) [.int .i64] F344_c406g (F344_c406c)
def F359_c360(o:List PV)(z:Unit)(t:Int):Option (Bool×Int):=(F252_c406 o () () t).bind λm=>some ((!m.1),m.2.2)
def F359_c360c:KT:=xj 359 ⟨2,[.box 3 .leaf],[.slice 117,(.con (.fn 360 0 [(.ref 0 [] 3)])),.int .i64]⟩ f58 (u3 F359_c360) [F252_c406c]
def F276(m:List PV)(o:Int):Option Bool:=(F359_c360 m () o).bind λt=>some t.1
def F276c:KT:=xj 276 f114 f0 (u2 F276) [F359_c360c]
def F273(m:PV):Option Bool:=(F260_c274 (m.fld 1).asList ()).bind λt=>(cond t (F275 (m.fld 1).asList) (some false)).bind λz=>let o:=cond t z false;(cond o (F276 (m.fld 2).asList (65535:Int)) (some false)).bind λG=>some (cond o G false)
def F273c:KT:=xj 273 f45 f0 F273 [F260_c274c,F275c,F276c]
def F345_v1(m:PV)(t z:Unit):Option (Bool×Unit):=(F273 m).bind λo=>some ((!o),())
def F345_v1c:KT:=xj 345 ⟨2,bx56,[.data 74,(.con (.ref 0 [] 106)),(.con (.fn 273 0 []))]⟩ ⟨1,bx56,[.bool,(.con (.fn 273 0 []))]⟩ (u3 F345_v1) [F273c]
def F92_c345_v1g(e:PV)(c:Unit):Option (Bool×Unit):=F345_v1 e () c
def F92_c345_v1c:KT:=ixK 92 74 (.fn 345 0 [(.ref 0 [] 106)]) [.box 106 .leaf] (.con (.fn 273 0 [])) [] F92_c345_v1g (F345_v1c)
def F63_c345_v1(m:List PV)(t o:Unit):Option (Bool×Unit):=cfF F92_c345_v1g m o
def F63_c345_v1c:KT:=cfK 63 74 (.fn 345 0 [(.ref 0 [] 106)]) [.box 106 .leaf] (.con (.fn 273 0 [])) [] F92_c345_v1g (F92_c345_v1c)
def F258_c273(m:List PV)(t:Unit):Option Bool:=(F63_c345_v1 m () ()).bind λo=>some (!o.1)
def F258_c273c:KT:=xj 258 ⟨2,[],[.slice 74,(.con (.fn 273 0 []))]⟩ f0 (u2 F258_c273) [F63_c345_v1c]
def F278(m:PV):Option Bool:=some (cond (decide (((m.fld 1).asInt)>=0)) (decide ((m.fld 1).asInt<=2147483647)) false)
def F278c:KT:=xj 278 f102 f0 F278 []
def F351_v1(m:PV)(t z:Unit):Option (Bool×Unit):=(F278 m).bind λo=>some ((!o),())
def F351_v1c:KT:=xj 351 ⟨2,bx57,[.data 124,(.con (.ref 0 [] 283)),(.con (.fn 278 0 []))]⟩ ⟨1,bx57,[.bool,(.con (.fn 278 0 []))]⟩ (u3 F351_v1) [F278c]
def F343_c351_v1g(e:PV)(c:Unit):Option (Bool×Unit):=F351_v1 e () c
def F343_c351_v1c:KT:=ixK 343 124 (.fn 351 0 [(.ref 0 [] 283)]) [.box 283 .leaf] (.con (.fn 278 0 [])) [] F343_c351_v1g (F351_v1c)
def F250_c351_v1(m:List PV)(t o:Unit):Option (Bool×Unit):=cfF F343_c351_v1g m o
def F250_c351_v1c:KT:=cfK 250 124 (.fn 351 0 [(.ref 0 [] 283)]) [.box 283 .leaf] (.con (.fn 278 0 [])) [] F343_c351_v1g (F343_c351_v1c)
def F266_c278(m:List PV)(t:Unit):Option Bool:=(F250_c351_v1 m () ()).bind λo=>some (!o.1)
def F266_c278c:KT:=xj 266 ⟨2,[],[.slice 124,(.con (.fn 278 0 []))]⟩ f0 (u2 F266_c278) [F250_c351_v1c]
def F277(m:PV):Option Bool:=(F276 (m.fld 3).asList (2147483647:Int)).bind λo=>(cond o (F266_c278 (m.fld 2).asList ()) (some false)).bind λt=>some (cond o t false)
def F277c:KT:=xj 277 f44 f0 F277 [F276c,F266_c278c]
def F350_v1(m:PV)(t z:Unit):Option (Bool×Unit):=(F277 m).bind λo=>some ((!o),())
def F350_v1c:KT:=xj 350 ⟨2,bx58,[.data 121,(.con (.ref 0 [] 292)),(.con (.fn 277 0 []))]⟩ ⟨1,bx58,[.bool,(.con (.fn 277 0 []))]⟩ (u3 F350_v1) [F277c]
def F394_c350_v1g(e:PV)(c:Unit):Option (Bool×Unit):=F350_v1 e () c
def F394_c350_v1c:KT:=ixK 394 121 (.fn 350 0 [(.ref 0 [] 292)]) [.box 292 .leaf] (.con (.fn 277 0 [])) [] F394_c350_v1g (F350_v1c)
def F349_c350_v1(m:List PV)(t o:Unit):Option (Bool×Unit):=cfF F394_c350_v1g m o
def F349_c350_v1c:KT:=cfK 349 121 (.fn 350 0 [(.ref 0 [] 292)]) [.box 292 .leaf] (.con (.fn 277 0 [])) [] F394_c350_v1g (F394_c350_v1c)
def F264_c277(m:List PV)(t:Unit):Option Bool:=(F349_c350_v1 m () ()).bind λo=>some (!o.1)
def F264_c277c:KT:=xj 264 ⟨2,[],[.slice 121,(.con (.fn 277 0 []))]⟩ f0 (u2 F264_c277) [F349_c350_v1c]
def F280(m:PV):Option Bool:=some (cond (decide (((m.fld 3).asInt)>=1)) (decide ((m.fld 3).asInt<=4)) false)
def F280c:KT:=xj 280 ⟨1,[],[.data 130]⟩ f0 F280 []
def F355_v1(m:PV)(t z:Unit):Option (Bool×Unit):=(F280 m).bind λo=>some ((!o),())
def F355_v1c:KT:=xj 355 ⟨2,bx59,[.data 130,(.con (.ref 0 [] 295)),(.con (.fn 280 0 []))]⟩ ⟨1,bx59,[.bool,(.con (.fn 280 0 []))]⟩ (u3 F355_v1) [F280c]
def F402_c355_v1g(e:PV)(c:Unit):Option (Bool×Unit):=F355_v1 e () c
def F402_c355_v1c:KT:=ixK 402 130 (.fn 355 0 [(.ref 0 [] 295)]) [.box 295 .leaf] (.con (.fn 280 0 [])) [] F402_c355_v1g (F355_v1c)
def F354_c355_v1(m:List PV)(t o:Unit):Option (Bool×Unit):=cfF F402_c355_v1g m o
def F354_c355_v1c:KT:=cfK 354 130 (.fn 355 0 [(.ref 0 [] 295)]) [.box 295 .leaf] (.con (.fn 280 0 [])) [] F402_c355_v1g (F402_c355_v1c)
def F270_c280(m:List PV)(t:Unit):Option Bool:=(F354_c355_v1 m () ()).bind λo=>some (!o.1)
def F270_c280c:KT:=xj 270 ⟨2,[],[.slice 130,(.con (.fn 280 0 []))]⟩ f0 (u2 F270_c280) [F354_c355_v1c]
def F279(m:PV):Option Bool:=(F270_c280 (m.fld 1).asList ()).bind λo=>some o
def F279c:KT:=xj 279 f54 f0 F279 [F270_c280c]
def F353_v1(m:PV)(t z:Unit):Option (Bool×Unit):=(F279 m).bind λo=>some ((!o),())
def F353_v1c:KT:=xj 353 ⟨2,bx60,[.data 127,(.con (.ref 0 [] 296)),(.con (.fn 279 0 []))]⟩ ⟨1,bx60,[.bool,(.con (.fn 279 0 []))]⟩ (u3 F353_v1) [F279c]
def F401_c353_v1g(e:PV)(c:Unit):Option (Bool×Unit):=F353_v1 e () c
def F401_c353_v1c:KT:=ixK 401 127 (.fn 353 0 [(.ref 0 [] 296)]) [.box 296 .leaf] (.con (.fn 279 0 [])) [] F401_c353_v1g (F353_v1c)
def F352_c353_v1(m:List PV)(t o:Unit):Option (Bool×Unit):=cfF F401_c353_v1g m o
def F352_c353_v1c:KT:=cfK 352 127 (.fn 353 0 [(.ref 0 [] 296)]) [.box 296 .leaf] (.con (.fn 279 0 [])) [] F401_c353_v1g (F401_c353_v1c)
def F268_c279(m:List PV)(t:Unit):Option Bool:=(F352_c353_v1 m () ()).bind λo=>some (!o.1)
def F268_c279c:KT:=xj 268 ⟨2,[],[.slice 127,(.con (.fn 279 0 []))]⟩ f0 (u2 F268_c279) [F352_c353_v1c]
def F170(m:PV):Option Bool:=(F258_c273 (m.fld 3).asList ()).bind λt=>(cond t (F264_c277 (m.fld 4).asList ()) (some false)).bind λz=>let o:=cond t z false;(cond o (F268_c279 (m.fld 5).asList ()) (some false)).bind λG=>some (cond o G false)
def F170c:KT:=xj 170 f7 f0 F170 [F258_c273c,F264_c277c,F268_c279c]
def F361(m:Bn)(t z:Unit):Option (Bool×Unit):=(F153 m).bind λo=>some ((!o),())
def F361c:KT:=xj 361 ⟨2,[.box 46 .leaf],[.str,(.con (.ref 0 [] 46)),(.con (.fn 153 0 []))]⟩ ⟨1,[.box 46 .leaf],[.bool,(.con (.fn 153 0 []))]⟩ (u3 F361) [F153c]
def F238_c361g(e:PV)(c:Unit):Option (Bool×Unit):=F361 e.asStr () c
def F238_c361c:KT:=ixK 238 9 (.fn 361 0 [(.ref 0 [] 46)]) [.box 46 .leaf] (.con (.fn 153 0 [])) [] F238_c361g (F361c)
def F144_c361(m:List PV)(t o:Unit):Option (Bool×Unit):=cfF F238_c361g m o
def F144_c361c:KT:=cfK 144 9 (.fn 361 0 [(.ref 0 [] 46)]) [.box 46 .leaf] (.con (.fn 153 0 [])) [] F238_c361g (F238_c361c)
def F281_c153(m:List PV)(t:Unit):Option Bool:=(F144_c361 m () ()).bind λo=>some (!o.1)
def F281_c153c:KT:=xj 281 ⟨2,[],[.slice 9,(.con (.fn 153 0 []))]⟩ f0 (u2 F281_c153) [F144_c361c]
def F282(m:PV):Option Bool:=(F281_c153 (m.fld 3).asList ()).bind λo=>some o
def F282c:KT:=xj 282 f45 f0 F282 [F281_c153c]
def F345_v2(m:PV)(t z:Unit):Option (Bool×Unit):=(F282 m).bind λo=>some ((!o),())
def F345_v2c:KT:=xj 345 ⟨2,bx56,[.data 74,(.con (.ref 0 [] 106)),(.con (.fn 282 0 []))]⟩ ⟨1,bx56,[.bool,(.con (.fn 282 0 []))]⟩ (u3 F345_v2) [F282c]
def F92_c345_v2g(e:PV)(c:Unit):Option (Bool×Unit):=F345_v2 e () c
def F92_c345_v2c:KT:=ixK 92 74 (.fn 345 0 [(.ref 0 [] 106)]) [.box 106 .leaf] (.con (.fn 282 0 [])) [] F92_c345_v2g (F345_v2c)
def F63_c345_v2(m:List PV)(t o:Unit):Option (Bool×Unit):=cfF F92_c345_v2g m o
def F63_c345_v2c:KT:=cfK 63 74 (.fn 345 0 [(.ref 0 [] 106)]) [.box 106 .leaf] (.con (.fn 282 0 [])) [] F92_c345_v2g (F92_c345_v2c)
def F258_c282(m:List PV)(t:Unit):Option Bool:=(F63_c345_v2 m () ()).bind λo=>some (!o.1)
def F258_c282c:KT:=xj 258 ⟨2,[],[.slice 74,(.con (.fn 282 0 []))]⟩ f0 (u2 F258_c282) [F63_c345_v2c]
def F171(m:PV):Option Bool:=(F281_c153 (m.fld 2).asList ()).bind λo=>(cond o (F258_c282 (m.fld 3).asList ()) (some false)).bind λt=>some (cond o t false)
def F171c:KT:=xj 171 f7 f0 F171 [F281_c153c,F258_c282c]
def S172_8(U:Unit)(o z:List PV)(G H:Int)(t:List PV)(I m:Int)(J M:PV):Option (T18a⊕T87a):=cond (decide (m<I)) (cond (aab m t.length) (let O:=((t.getD m.toNat .bad).fld 8).asList;cond (decide (o.length+[(PV.agg [.slice O,.int 2])].length<=accMax)) (some (.inl ((),(o++[(PV.agg [.slice O,.int 2])]),z,G,H,t,I,(IntKind.wrap .i64 (m+1)),J,M))) none) none) (some (.inr ((),o,z,G,H,J,M)))
def S172_4(O:Unit)(H I:List PV)(J G:Int)(M:PV):Option (T43a⊕(Unit×(List PV)×PV)):=cond (decide (G<J)) (cond (aab G I.length) (let o:=I.getD G.toNat .bad;let t:=(o.fld 4).asList;cond (decide (H.length+[(PV.agg [.slice t,.int 1])].length<=accMax)) (let z:=(o.fld 1).asList;(aad 0 (Y10 S172_8) ((),(H++[(PV.agg [.slice t,.int 1])]),I,J,G,z,(z.length:Int),(0:Int),M,o)).bind λm=>some (.inl ((),m.2.1,m.2.2.1,m.2.2.2.1,(IntKind.wrap .i64 (m.2.2.2.2.1+1)),m.2.2.2.2.2.1))) none) none) (some (.inr ((),H,M)))
def S172_18(U:Unit)(o z:List PV)(G H:Int)(t:List PV)(I m:Int)(J M:PV):Option (T18a⊕T87a):=cond (decide (m<I)) (cond (aab m t.length) (let O:=((t.getD m.toNat .bad).fld 2).asList;cond (decide (o.length+[(PV.agg [.slice O,.int 4])].length<=accMax)) (some (.inl ((),(o++[(PV.agg [.slice O,.int 4])]),z,G,H,t,I,(IntKind.wrap .i64 (m+1)),J,M))) none) none) (some (.inr ((),o,z,G,H,J,M)))
def S172_14(O:Unit)(t z:List PV)(H o:Int)(I:PV):Option (T43a⊕(Unit×(List PV)×PV)):=cond (decide (o<H)) (cond (aab o z.length) (let G:=z.getD o.toNat .bad;let J:=(G.fld 4).asList;cond (decide (t.length+[(PV.agg [.slice J,.int 3])].length<=accMax)) (let M:=(G.fld 2).asList;(aad 0 (Y10 S172_18) ((),(t++[(PV.agg [.slice J,.int 3])]),z,H,o,M,(M.length:Int),(0:Int),I,G)).bind λm=>some (.inl ((),m.2.1,m.2.2.1,m.2.2.2.1,(IntKind.wrap .i64 (m.2.2.2.2.1+1)),m.2.2.2.2.2.1))) none) none) (some (.inr ((),t,I)))
def S172_28(o z:List PV)(G H:Int)(t:List PV)(I m:Int)(J M:PV):Option (T68a⊕((List PV)×(List PV)×Int×Int×PV×PV)):=cond (decide (m<I)) (cond (aab m t.length) (let O:=((t.getD m.toNat .bad).fld 4).asList;cond (decide (o.length+[(PV.agg [.slice O,.int 6])].length<=accMax)) (some (.inl ((o++[(PV.agg [.slice O,.int 6])]),z,G,H,t,I,(IntKind.wrap .i64 (m+1)),J,M))) none) none) (some (.inr (o,z,G,H,J,M)))
def S172_24(t z:List PV)(H o:Int)(I:PV):Option (T57a⊕T116a):=cond (decide (o<H)) (cond (aab o z.length) (let G:=z.getD o.toNat .bad;let J:=(G.fld 2).asList;cond (decide (t.length+[(PV.agg [.slice J,.int 5])].length<=accMax)) (let M:=(G.fld 1).asList;(aad 0 (Y9 S172_28) ((t++[(PV.agg [.slice J,.int 5])]),z,H,o,M,(M.length:Int),(0:Int),I,G)).bind λm=>some (.inl (m.1,m.2.1,m.2.2.1,(IntKind.wrap .i64 (m.2.2.2.1+1)),m.2.2.2.2.1))) none) none) (some (.inr (t,I)))
def F172(H:PV):Option ((List PV)):=let x1:=(H.fld 3).asList;(aad 0 (Y6 S172_4) ((),[],x1,(x1.length:Int),(0:Int),H)).bind λm=>let t:=(m.2.2.fld 4).asList;(aad 0 (Y6 S172_14) ((),m.2.1,t,(t.length:Int),(0:Int),m.2.2)).bind λo=>let z:=(o.2.2.fld 5).asList;(aad 0 (Y5 S172_24) (o.2.1,z,(z.length:Int),(0:Int),o.2.2)).bind λG=>some G.1
def S172_8l:LoopE:=⟨8,⟨[1,3,17,18,19,30,31,32],[.box 112 .leaf,.acc,.box 74 .leaf],(.con (.ref 0 [] 112))::(.acc 1 229)::(.slice 74)::(.int .i64)::(.int .i64)::(.slice 69)::(.int .i64)::sv47⟩,[(.exit 2,⟨[1,3,17,18,19],[.box 112 .leaf,.acc,.box 74 .leaf],(.con (.ref 0 [] 112))::(.acc 1 229)::(.slice 74)::(.int .i64)::sv47⟩)],(Y10 S172_8)⟩
def S172_4l:LoopE:=⟨4,⟨[1,3,17,18,19],bx61,(.con (.ref 0 [] 112))::(.acc 1 229)::(.slice 74)::sv98⟩,[(.exit 0,f78)],(Y6 S172_4)⟩
def S172_18l:LoopE:=⟨18,⟨[1,3,45,46,47,58,59,60],[.box 112 .leaf,.acc,.box 121 .leaf],[(.con (.ref 0 [] 112)),.acc 1 229,.slice 121,.int .i64,.int .i64,.slice 124,.int .i64,.int .i64,.data 112,.data 121]⟩,[(.exit 6,⟨[1,3,45,46,47],[.box 112 .leaf,.acc,.box 121 .leaf],[(.con (.ref 0 [] 112)),.acc 1 229,.slice 121,.int .i64,.int .i64,.data 112,.data 121]⟩)],(Y10 S172_18)⟩
def S172_14l:LoopE:=⟨14,⟨[1,3,45,46,47],bx61,(.con (.ref 0 [] 112))::(.acc 1 229)::(.slice 121)::sv98⟩,[(.exit 4,f78)],(Y6 S172_14)⟩
def S172_28l:LoopE:=⟨28,⟨[3,73,74,75,86,87,88],[.box 112 .leaf,.acc,.box 127 .leaf],[.acc 1 229,.slice 127,.int .i64,.int .i64,.slice 130,.int .i64,.int .i64,.data 112,.data 127]⟩,[(.exit 10,⟨[3,73,74,75],[.box 112 .leaf,.acc,.box 127 .leaf],[.acc 1 229,.slice 127,.int .i64,.int .i64,.data 112,.data 127]⟩)],(Y9 S172_28)⟩
def S172_24l:LoopE:=⟨24,⟨[3,73,74,75],bx61,(.acc 1 229)::(.slice 127)::sv98⟩,[(.exit 8,⟨[3],bx61,sv99⟩)],(Y5 S172_24)⟩
def F172c:KT:=xf 172 f7 ⟨1,[],[.slice 229]⟩ F172 [] [S172_8l,S172_4l,S172_18l,S172_14l,S172_28l,S172_24l] (L3 (xl S172_4l (L1 (xl S172_8l L0))) (xl S172_14l (L1 (xl S172_18l L0))) (xl S172_24l (L1 (xl S172_28l L0))))
def F284(m:PV):Option Bool:=let o:=((m.fld 2).asList.length:Int);let t:=((m.fld 3).asList.length:Int);some (cond (decide (((m.fld 1).asList.length:Int)<=64)) (decide ((if t>o then t else o)<=16)) false)
def F284c:KT:=xj 284 f45 f0 F284 []
def F345_v3(m:PV)(t z:Unit):Option (Bool×Unit):=(F284 m).bind λo=>some ((!o),())
def F345_v3c:KT:=xj 345 ⟨2,bx56,[.data 74,(.con (.ref 0 [] 106)),(.con (.fn 284 0 []))]⟩ ⟨1,bx56,[.bool,(.con (.fn 284 0 []))]⟩ (u3 F345_v3) [F284c]
def F92_c345_v3g(e:PV)(c:Unit):Option (Bool×Unit):=F345_v3 e () c
def F92_c345_v3c:KT:=ixK 92 74 (.fn 345 0 [(.ref 0 [] 106)]) [.box 106 .leaf] (.con (.fn 284 0 [])) [] F92_c345_v3g (F345_v3c)
def F63_c345_v3(m:List PV)(t o:Unit):Option (Bool×Unit):=cfF F92_c345_v3g m o
def F63_c345_v3c:KT:=cfK 63 74 (.fn 345 0 [(.ref 0 [] 106)]) [.box 106 .leaf] (.con (.fn 284 0 [])) [] F92_c345_v3g (F92_c345_v3c)
def F258_c284(m:List PV)(t:Unit):Option Bool:=(F63_c345_v3 m () ()).bind λo=>some (!o.1)
def F258_c284c:KT:=xj 258 ⟨2,[],[.slice 74,(.con (.fn 284 0 []))]⟩ f0 (u2 F258_c284) [F63_c345_v3c]
def F285(m:PV):Option Bool:=some (cond (decide (((m.fld 2).asList.length:Int)<=64)) (decide (((m.fld 3).asList.length:Int)<=16)) false)
def F285c:KT:=xj 285 f44 f0 F285 []
def F350_v2(m:PV)(t z:Unit):Option (Bool×Unit):=(F285 m).bind λo=>some ((!o),())
def F350_v2c:KT:=xj 350 ⟨2,bx58,[.data 121,(.con (.ref 0 [] 292)),(.con (.fn 285 0 []))]⟩ ⟨1,bx58,[.bool,(.con (.fn 285 0 []))]⟩ (u3 F350_v2) [F285c]
def F394_c350_v2g(e:PV)(c:Unit):Option (Bool×Unit):=F350_v2 e () c
def F394_c350_v2c:KT:=ixK 394 121 (.fn 350 0 [(.ref 0 [] 292)]) [.box 292 .leaf] (.con (.fn 285 0 [])) [] F394_c350_v2g (F350_v2c)
def F349_c350_v2(m:List PV)(t o:Unit):Option (Bool×Unit):=cfF F394_c350_v2g m o
def F349_c350_v2c:KT:=cfK 349 121 (.fn 350 0 [(.ref 0 [] 292)]) [.box 292 .leaf] (.con (.fn 285 0 [])) [] F394_c350_v2g (F394_c350_v2c)
def F264_c285(m:List PV)(t:Unit):Option Bool:=(F349_c350_v2 m () ()).bind λo=>some (!o.1)
def F264_c285c:KT:=xj 264 ⟨2,[],[.slice 121,(.con (.fn 285 0 []))]⟩ f0 (u2 F264_c285) [F349_c350_v2c]
def F286(m:PV):Option Bool:=some (decide (((m.fld 1).asList.length:Int)<=64))
def F286c:KT:=xj 286 f54 f0 F286 []
def F353_v2(m:PV)(t z:Unit):Option (Bool×Unit):=(F286 m).bind λo=>some ((!o),())
def F353_v2c:KT:=xj 353 ⟨2,bx60,[.data 127,(.con (.ref 0 [] 296)),(.con (.fn 286 0 []))]⟩ ⟨1,bx60,[.bool,(.con (.fn 286 0 []))]⟩ (u3 F353_v2) [F286c]
def F401_c353_v2g(e:PV)(c:Unit):Option (Bool×Unit):=F353_v2 e () c
def F401_c353_v2c:KT:=ixK 401 127 (.fn 353 0 [(.ref 0 [] 296)]) [.box 296 .leaf] (.con (.fn 286 0 [])) [] F401_c353_v2g (F353_v2c)
def F352_c353_v2(m:List PV)(t o:Unit):Option (Bool×Unit):=cfF F401_c353_v2g m o
def F352_c353_v2c:KT:=cfK 352 127 (.fn 353 0 [(.ref 0 [] 296)]) [.box 296 .leaf] (.con (.fn 286 0 [])) [] F401_c353_v2g (F401_c353_v2c)
def F268_c286(m:List PV)(t:Unit):Option Bool:=(F352_c353_v2 m () ()).bind λo=>some (!o.1)
def F268_c286c:KT:=xj 268 ⟨2,[],[.slice 127,(.con (.fn 286 0 []))]⟩ f0 (u2 F268_c286) [F352_c353_v2c]
def F174(m:PV):Option Bool:=let z:=((m.fld 3).asList.length:Int);let G:=((m.fld 4).asList.length:Int);let M:=((m.fld 5).asList.length:Int);let H:=if M>(if G>z then G else z)then M else(if G>z then G else z);cond (cond (decide (((m.fld 2).asList.length:Int)>16)) true (decide (H>64))) (some false) ((F258_c284 (m.fld 3).asList ()).bind λt=>(cond t (F264_c285 (m.fld 4).asList ()) (some false)).bind λI=>let o:=cond t I false;(cond o (F268_c286 (m.fld 5).asList ()) (some false)).bind λJ=>some (cond o J false))
def F174c:KT:=xj 174 f7 f0 F174 [F258_c284c,F264_c285c,F268_c286c]
def F175(I:Unit)(z:Int)(m G:Bn):Option Bn:=(ah1 0 ([32,32]:Bn) z).bind λt=>cond (decide (t.length+m.length<=aac)) (let o:=t++m;cond (decide (o.length+([10]:Bn).length<=aac)) ((aa2 0 (o++([10]:Bn)) G).bind λH=>some H.2.2) none) none
def F175c:KT:=xj 175 ⟨3,bx62,[(.con (.bref 0 237)),.int .i64,.str,.str]⟩ f68 (u4 F175) [⟨atf 0,avy 0⟩,⟨acd 0,acx 0⟩]
def F368(m:Int):Option Bn:=let x1:=m.fdiv (2^(min (4:Int).toNat (IntKind.bits .u8)));let o:=IntKind.wrap .u8 ((m.fdiv (2^(min (4:Int).toNat (IntKind.bits .u8))))+1);cond (decide (0<=x1/\x1<=o/\o<=(([48,49,50,51,52,53,54,55,56,57,97,98,99,100,101,102]:Bn).length:Int))) (let t:=(([48,49,50,51,52,53,54,55,56,57,97,98,99,100,101,102]:Bn).take o.toNat).drop x1.toNat;cond (decide (([92,120]:Bn).length+t.length<=aac)) (let z:=aen .and .u8 m (15:Int);let G:=IntKind.wrap .u8 ((aen .and .u8 m (15:Int))+1);cond (decide (0<=z/\z<=G/\G<=(([48,49,50,51,52,53,54,55,56,57,97,98,99,100,101,102]:Bn).length:Int))) (let H:=(([48,49,50,51,52,53,54,55,56,57,97,98,99,100,101,102]:Bn).take G.toNat).drop z.toNat;cond (decide ((([92,120]:Bn)++t).length+H.length<=aac)) (some ((([92,120]:Bn)++t)++H)) none) none) none) none
def F368c:KT:=xj 368 f82 f4 F368 []
def F289(o:Bn)(t m:Int):Option Bn:=cond (m==34) (some ([92,34]:Bn)) (cond (m==92) (some ([92,92]:Bn)) (cond (m==10) (some ([92,110]:Bn)) (cond (m==9) (some ([92,116]:Bn)) (cond (m==13) (some ([92,114]:Bn)) (let G:=cond (decide (m<32)) true (m==127);(cond (!G) (F342 o t m) (some false)).bind λH=>cond (cond G true H) (cond (aab t o.length) ((F368 ((o.getD t.toNat 0).toNat:Int)).bind λz=>some z) none) (some ((Utf8.encode m).data.toList)))))))
def F289c:KT:=xj 289 f92 f4 (u3 F289) [F342c,F368c]
def S176_5(G:Bn)(I J:Unit)(H o:Bn)(m:Int):Option (T72a⊕(Unit×Bn×Bn×Int)):=cond (decide (m.toNat<o.length)) (cond (decide (m.toNat<o.length)) (cond (decide (m.toNat<o.length)) ((F289 G (m.toNat:Int) ((Utf8.decode ⟨o.toArray⟩ m.toNat).1:Int)).bind λt=>(aa2 0 t H).bind λz=>some (.inl (G,(),(),z.2.2,o,((cond (decide (m.toNat<o.length)) (m.toNat+(Utf8.decode ⟨o.toArray⟩ m.toNat).2) m.toNat:Nat):Int)))) none) none) (some (.inr ((),H,o,((cond (decide (m.toNat<o.length)) (m.toNat+(Utf8.decode ⟨o.toArray⟩ m.toNat).2) m.toNat:Nat):Int))))
def F176(z:Bn):Option Bn:=(aa2 0 ([34]:Bn) []).bind λG=>(aad 0 (Y6 S176_5) (z,(),(),G.2.2,z,((0:Nat):Int))).bind λm=>(aa2 0 ([34]:Bn) m.2.1).bind λo=>(ah2 0 o.2.2).bind λt=>some t.1
def S176_5l:LoopE:=⟨5,⟨[0,3,8],[.bld 235,.iter],.str::(.con (.bref 0 235))::(.con (.iref 1))::sv6⟩,[(.exit 0,⟨[3],[.bld 235,.iter],(.con (.bref 0 235))::sv6⟩)],(Y6 S176_5)⟩
def F176c:KT:=xf 176 f4 f4 F176 [⟨af0 0,akx 0⟩,F289c,⟨anb 0,ati 0⟩] [S176_5l] (L1 (xl S176_5l L0))
def F430(m:Bool):Option Bn:=cond m (some ([116,114,117,101]:Bn)) (some ([102,97,108,115,101]:Bn))
def F430c:KT:=xj 430 f0 f4 F430 []
def F422(m:Bool):Option Bn:=(F430 m).bind λo=>some o
def F422c:KT:=xj 422 f0 f4 F422 [F430c]
def F425(m o:Int):Option Bn:=(Lfmt 0 m o).bind λt=>some t
def F425c:KT:=xj 425 ⟨2,[],sv0⟩ f4 (u2 F425) [⟨bib 0,bic 0⟩]
def F423(o:Int):Option Bn:=(F399 o).bind λt=>cond (t==0) (some ([110,97,110]:Bn)) (cond (cond (t==1) ((aen .and .u64 o (9223372036854775808:Int)) != 0) false) (some ([45,105,110,102]:Bn)) (cond (t==1) (some ([105,110,102]:Bn)) ((F425 o (16:Int)).bind λz=>(ah1 0 ([48]:Bn) (IntKind.wrap .i64 ((16:Int)-(z.length:Int)))).bind λm=>cond (decide (([48,120]:Bn).length+m.length<=aac)) (cond (decide ((([48,120]:Bn)++m).length+z.length<=aac)) (some ((([48,120]:Bn)++m)++z)) none) none)))
def F423c:KT:=xj 423 f23 f4 F423 [F399c,F425c,⟨atf 0,avy 0⟩]
def S424_4(o:Bn)(I:List PV)(J m:Int):Option (T64a⊕(List PV)):=cond (decide (m<J)) (cond (aab m o.length) (let t:=((o.getD m.toNat 0).toNat:Int).fdiv (2^(min (4:Int).toNat (IntKind.bits .u8)));cond (aab t (([48,49,50,51,52,53,54,55,56,57,97,98,99,100,101,102]:Bn).length)) (let z:=((([48,49,50,51,52,53,54,55,56,57,97,98,99,100,101,102]:Bn).getD t.toNat 0).toNat:Int);cond (aab m o.length) (let G:=aen .and .u8 ((o.getD m.toNat 0).toNat:Int) (15:Int);cond (aab G (([48,49,50,51,52,53,54,55,56,57,97,98,99,100,101,102]:Bn).length)) (let H:=((([48,49,50,51,52,53,54,55,56,57,97,98,99,100,101,102]:Bn).getD G.toNat 0).toNat:Int);cond (decide (I.length+[(PV.int z),(PV.int H)].length<=accMax)) (some (.inl (o,(I++[(PV.int z),(PV.int H)]),J,(IntKind.wrap .i64 (m+1))))) none) none) none) none) none) (some (.inr I))
def F424(m:Bn):Option Bn:=let t:=IntKind.wrap .i64 ((2:Int)*(m.length:Int));cond (decide (0<=t/\t<=accMax)) ((aad 0 (Y4 S424_4) (m,[],(m.length:Int),(0:Int))).bind λo=>some (o.map aa4)) none
def S424_4l:LoopE:=⟨4,⟨[0,3,10,11],[.acc],.str::(.acc 0 5)::sv54⟩,[(.exit 0,⟨[3],[.acc],[.acc 0 5]⟩)],(Y4 S424_4)⟩
def F424c:KT:=xf 424 f4 f4 F424 [] [S424_4l] (L1 (xl S424_4l L0))
def F413(m:PV):Option Bn:=(F339 (m.fld 0).asInt m).bind λO=>cond (!O) (some ([]:Bn)) (let o:=(m.fld 0).asInt;cond (o==1) ((F422 ((m.fld 1).asInt==1)).bind λU=>some U) (cond (o==2) ((akw 0 (IntKind.wrap .i64 (m.fld 1).asInt)).bind λz=>some z) (cond (o==3) ((akw 0 (IntKind.wrap .i64 (m.fld 1).asInt)).bind λG=>some G) (cond (o==6) ((F423 (m.fld 1).asInt).bind λH=>some H) (cond (o==7) ((F176 (m.fld 2).asStr).bind λI=>some I) (cond (o==8) ((F424 (m.fld 2).asStr).bind λJ=>(F176 J).bind λt=>cond (decide (([120]:Bn).length+t.length<=aac)) (some (([120]:Bn)++t)) none) ((F425 (m.fld 1).asInt (10:Int)).bind λM=>some M)))))))
def F413c:KT:=xj 413 f15 f4 F413 [F339c,F422c,⟨avv 0,atd 0⟩,F423c,F176c,F424c,F425c]
def S369_4(H I:List PV)(M G:Int):Option (T34a⊕((Bn)⊕((List PV)))):=cond (decide (G<M)) (cond (aab G I.length) (let J:=I.getD G.toNat .bad;(F363 J).bind λO=>cond (!O) (some (.inr (.inl ([]:Bn)))) (let m:=(J.fld 0).asStr;cond (decide (m.length+([32,61,32]:Bn).length<=aac)) (let o:=m++([32,61,32]:Bn);(F413 (J.fld 1)).bind λz=>cond (decide (o.length+z.length<=aac)) (let t:=o++z;cond (decide (H.length+[(PV.str t)].length<=accMax)) (some (.inl ((H++[(PV.str t)]),I,M,(IntKind.wrap .i64 (G+1))))) none) none) none)) none) (some (.inr (.inr H)))
def F369(G:List PV):Option Bn:=(aad 0 (Y4 S369_4) ([],G,(G.length:Int),(0:Int))).bind λz=>sumE (λt=>some t ) (λo=>cond ((o.length:Int)==0) (some ([]:Bn)) ((amc 0 o ([44,32]:Bn)).bind λm=>cond (decide (([91]:Bn).length+m.length<=aac)) (cond (decide ((([91]:Bn)++m).length+([93]:Bn).length<=aac)) (some ((([91]:Bn)++m)++([93]:Bn))) none) none) ) z
def S369_4l:LoopE:=⟨4,⟨[3,6,7,8],[.acc],(.acc 0 9)::sv31⟩,[(.ret,⟨[2],[.acc],[.str]⟩),(.exit 0,⟨[3],[.acc],[.acc 0 9]⟩)],(Y4 S369_4)⟩
def F369c:KT:=xf 369 f40 f4 F369 [F363c,F413c,⟨avx 0,ate 0⟩] [S369_4l] (L1 (xl S369_4l L0))
def F291(m:List PV):Option Bn:=cond ((m.length:Int)==0) (some ([]:Bn)) ((F369 m).bind λo=>cond (decide (([32]:Bn).length+o.length<=aac)) (some (([32]:Bn)++o)) none)
def F291c:KT:=xj 291 f40 f4 F291 [F369c]
def F371(m:Int):Option Bn:=cond (cond (decide (m<1)) true (decide (m>8))) (some ([]:Bn)) (F400.bind λt=>let o:=IntKind.wrap .i64 (m-1);cond (aab o 8) (some (t.fld o.toNat).asStr) none)
def F371c:KT:=xj 371 f5 f4 F371 [F400c]
def F370(m:PV):Option Bn:=(F347 (m.fld 0).asInt).bind λz=>cond (cond z ((m.fld 1).asStr==([]:Bn)) false) ((F371 (m.fld 0).asInt).bind λG=>some G) (let o:=cond (cond ((m.fld 0).asInt==0) true ((m.fld 0).asInt==9)) true ((m.fld 0).asInt==10);(cond o (F272 (m.fld 1).asStr) (some false)).bind λt=>cond (cond o t false) (some (m.fld 1).asStr) (some ([]:Bn)))
def F370c:KT:=xj 370 f84 f4 F370 [F347c,F371c,F272c]
def F372(m:PV):Option Bn:=(F405 m).bind λG=>cond G (some (m.fld 2).asStr) ((F339 (m.fld 0).asInt m).bind λH=>cond (!H) (some ([]:Bn)) (cond (cond ((m.fld 0).asInt==6) true ((m.fld 0).asInt==8)) ((F413 m).bind λo=>(F176 o).bind λt=>some t) ((F413 m).bind λz=>some z)))
def F372c:KT:=xj 372 f15 f4 F372 [F405c,F339c,F413c,F176c]
def F292(m:PV):Option Bn:=(F370 (m.fld 4)).bind λU=>cond ((m.fld 2).asInt==5) ((F371 (m.fld 3).asInt).bind λy6=>cond (decide (([109,97,112,60]:Bn).length+y6.length<=aac)) (cond (decide ((([109,97,112,60]:Bn)++y6).length+([44,32]:Bn).length<=aac)) (let x7:=(([109,97,112,60]:Bn)++y6)++([44,32]:Bn);cond (decide (x7.length+U.length<=aac)) (let x8:=x7++U;cond (decide (x8.length+([62]:Bn).length<=aac)) (let x9:=x8++([62]:Bn);let G:=(m.fld 1).asStr;cond (decide (([32]:Bn).length+G.length<=aac)) (cond (decide ((([32]:Bn)++G).length+([32,61,32]:Bn).length<=aac)) (let V:=(([32]:Bn)++G)++([32,61,32]:Bn);(akw 0 (m.fld 0).asInt).bind λao=>cond (decide (V.length+ao.length<=aac)) (let W:=V++ao;cond (decide (x9.length+W.length<=aac)) (let o:=x9++W;cond ((m.fld 6).asBool) ((F372 (m.fld 7)).bind λJ=>cond (decide (([32,100,101,102,97,117,108,116,32]:Bn).length+J.length<=aac)) (cond (decide (o.length+(([32,100,101,102,97,117,108,116,32]:Bn)++J).length<=aac)) (let X:=o++(([32,100,101,102,97,117,108,116,32]:Bn)++J);(F291 (m.fld 8).asList).bind λap=>cond (decide (X.length+ap.length<=aac)) (let Y:=X++ap;cond (decide (Y.length+([59]:Bn).length<=aac)) (some (Y++([59]:Bn))) none) none) none) none) ((F291 (m.fld 8).asList).bind λaq=>cond (decide (o.length+aq.length<=aac)) (let Z:=o++aq;cond (decide (Z.length+([59]:Bn).length<=aac)) (some (Z++([59]:Bn))) none) none)) none) none) none) none) none) none) none) none) (cond ((m.fld 5).asStr==([]:Bn)) (let az:=(PV.agg [.str ([]:Bn),.str ([114,101,113,117,105,114,101,100,32]:Bn),.str ([111,112,116,105,111,110,97,108,32]:Bn),.str ([112,108,97,105,110,32]:Bn),.str ([108,105,115,116,32]:Bn)]);let aa:=(m.fld 2).asInt;cond (aab aa 5) (let ab:=(az.fld aa.toNat).asStr;cond (decide (ab.length+U.length<=aac)) (let ad:=ab++U;let H:=(m.fld 1).asStr;cond (decide (([32]:Bn).length+H.length<=aac)) (cond (decide ((([32]:Bn)++H).length+([32,61,32]:Bn).length<=aac)) (let ae:=(([32]:Bn)++H)++([32,61,32]:Bn);(akw 0 (m.fld 0).asInt).bind λar=>cond (decide (ae.length+ar.length<=aac)) (let af:=ae++ar;cond (decide (ad.length+af.length<=aac)) (let t:=ad++af;cond ((m.fld 6).asBool) ((F372 (m.fld 7)).bind λM=>cond (decide (([32,100,101,102,97,117,108,116,32]:Bn).length+M.length<=aac)) (cond (decide (t.length+(([32,100,101,102,97,117,108,116,32]:Bn)++M).length<=aac)) (let ag:=t++(([32,100,101,102,97,117,108,116,32]:Bn)++M);(F291 (m.fld 8).asList).bind λau=>cond (decide (ag.length+au.length<=aac)) (let ah:=ag++au;cond (decide (ah.length+([59]:Bn).length<=aac)) (some (ah++([59]:Bn))) none) none) none) none) ((F291 (m.fld 8).asList).bind λav=>cond (decide (t.length+av.length<=aac)) (let ai:=t++av;cond (decide (ai.length+([59]:Bn).length<=aac)) (some (ai++([59]:Bn))) none) none)) none) none) none) none) none) none) (let I:=(m.fld 1).asStr;cond (decide (([32]:Bn).length+I.length<=aac)) (cond (decide ((([32]:Bn)++I).length+([32,61,32]:Bn).length<=aac)) (let aj:=(([32]:Bn)++I)++([32,61,32]:Bn);(akw 0 (m.fld 0).asInt).bind λaw=>cond (decide (aj.length+aw.length<=aac)) (let ak:=aj++aw;cond (decide (U.length+ak.length<=aac)) (let z:=U++ak;cond ((m.fld 6).asBool) ((F372 (m.fld 7)).bind λO=>cond (decide (([32,100,101,102,97,117,108,116,32]:Bn).length+O.length<=aac)) (cond (decide (z.length+(([32,100,101,102,97,117,108,116,32]:Bn)++O).length<=aac)) (let al:=z++(([32,100,101,102,97,117,108,116,32]:Bn)++O);(F291 (m.fld 8).asList).bind λax=>cond (decide (al.length+ax.length<=aac)) (let am:=al++ax;cond (decide (am.length+([59]:Bn).length<=aac)) (some (am++([59]:Bn))) none) none) none) none) ((F291 (m.fld 8).asList).bind λay=>cond (decide (z.length+ay.length<=aac)) (let an:=z++ay;cond (decide (an.length+([59]:Bn).length<=aac)) (some (an++([59]:Bn))) none) none)) none) none) none) none))
def F292c:KT:=xj 292 f19 f4 F292 [F370c,F371c,⟨avv 0,atd 0⟩,F372c,F291c]
def S293_3(O:Unit)(t H:List PV)(J z:Int)(M:Bn):Option (T82a⊕(Unit×(List PV)×Bn)):=cond (decide (z<J)) (cond (aab z H.length) (let I:=H.getD z.toNat .bad;(akw 0 (I.fld 0).asInt).bind λm=>cond ((I.fld 0).asInt != (I.fld 1).asInt) ((akw 0 (I.fld 1).asInt).bind λo=>cond (decide (([32,45,32]:Bn).length+o.length<=aac)) (cond (decide (m.length+(([32,45,32]:Bn)++o).length<=aac)) (let G:=m++(([32,45,32]:Bn)++o);cond (decide (t.length+[(PV.str G)].length<=accMax)) (some (.inl ((),(t++[(PV.str G)]),H,J,(IntKind.wrap .i64 (z+1)),M))) none) none) none) (cond (decide (t.length+[(PV.str m)].length<=accMax)) (some (.inl ((),(t++[(PV.str m)]),H,J,(IntKind.wrap .i64 (z+1)),M))) none)) none) (some (.inr ((),t,M)))
def F293(I:Unit)(G:List PV)(H:Bn):Option Bn:=(aad 0 (Y6 S293_3) ((),[],G,(G.length:Int),(0:Int),H)).bind λm=>cond (decide ((m.2.1.length:Int)>0)) ((amc 0 m.2.1 ([44,32]:Bn)).bind λo=>cond (decide (([114,101,115,101,114,118,101,100,32]:Bn).length+o.length<=aac)) (cond (decide ((([114,101,115,101,114,118,101,100,32]:Bn)++o).length+([59]:Bn).length<=aac)) (let t:=(([114,101,115,101,114,118,101,100,32]:Bn)++o)++([59]:Bn);(F175 () (1:Int) t m.2.2).bind λz=>some z) none) none) (some m.2.2)
def S293_3l:LoopE:=⟨3,⟨[0,4,8,9,10],[.bld 237,.acc],(.con (.bref 0 237))::(.acc 1 9)::(.slice 117)::sv100⟩,[(.exit 0,⟨[0,4],[.bld 237,.acc],[(.con (.bref 0 237)),.acc 1 9,.str]⟩)],(Y6 S293_3)⟩
def F293c:KT:=xf 293 ⟨2,bx62,[(.con (.bref 0 237)),.slice 117,.str]⟩ f68 (u3 F293) [⟨avv 0,atd 0⟩,⟨avx 0,ate 0⟩,F175c] [S293_3l] (L1 (xl S293_3l L0))
def S178_5(a9 av:Unit)(H:Bn)(t:List PV)(z o:Int)(I:Bn)(G:PV):Option (T67a⊕(Unit×Unit×Bn×Bn×PV)):=cond (decide (o<z)) (cond (aab o t.length) (let m:=t.getD o.toNat .bad;cond (cond (!(H==([]:Bn))) (!((m.fld 5).asStr==H)) false) ((F175 () (1:Int) ([125]:Bn) I).bind λX=>cond (cond (!((m.fld 5).asStr==([]:Bn))) (!((m.fld 5).asStr==H)) false) (let J:=(m.fld 5).asStr;cond (decide (([117,110,105,111,110,32]:Bn).length+J.length<=aac)) (cond (decide ((([117,110,105,111,110,32]:Bn)++J).length+([32,123]:Bn).length<=aac)) (let aa:=(([117,110,105,111,110,32]:Bn)++J)++([32,123]:Bn);(F175 () (1:Int) aa X).bind λY=>let M:=(m.fld 5).asStr;cond (M==([]:Bn)) ((F292 m).bind λad=>(F175 () (1:Int) ad Y).bind λae=>some (.inl ((),(),M,t,z,(IntKind.wrap .i64 (o+1)),ae,G))) ((F292 m).bind λaf=>(F175 () (2:Int) af Y).bind λag=>some (.inl ((),(),M,t,z,(IntKind.wrap .i64 (o+1)),ag,G)))) none) none) (let O:=(m.fld 5).asStr;cond (O==([]:Bn)) ((F292 m).bind λah=>(F175 () (1:Int) ah X).bind λai=>some (.inl ((),(),O,t,z,(IntKind.wrap .i64 (o+1)),ai,G))) ((F292 m).bind λaj=>(F175 () (2:Int) aj X).bind λak=>some (.inl ((),(),O,t,z,(IntKind.wrap .i64 (o+1)),ak,G))))) (cond (cond (!((m.fld 5).asStr==([]:Bn))) (!((m.fld 5).asStr==H)) false) (let U:=(m.fld 5).asStr;cond (decide (([117,110,105,111,110,32]:Bn).length+U.length<=aac)) (cond (decide ((([117,110,105,111,110,32]:Bn)++U).length+([32,123]:Bn).length<=aac)) (let ab:=(([117,110,105,111,110,32]:Bn)++U)++([32,123]:Bn);(F175 () (1:Int) ab I).bind λZ=>let V:=(m.fld 5).asStr;cond (V==([]:Bn)) ((F292 m).bind λal=>(F175 () (1:Int) al Z).bind λam=>some (.inl ((),(),V,t,z,(IntKind.wrap .i64 (o+1)),am,G))) ((F292 m).bind λan=>(F175 () (2:Int) an Z).bind λao=>some (.inl ((),(),V,t,z,(IntKind.wrap .i64 (o+1)),ao,G)))) none) none) (let W:=(m.fld 5).asStr;cond (W==([]:Bn)) ((F292 m).bind λap=>(F175 () (1:Int) ap I).bind λaq=>some (.inl ((),(),W,t,z,(IntKind.wrap .i64 (o+1)),aq,G))) ((F292 m).bind λar=>(F175 () (2:Int) ar I).bind λau=>some (.inl ((),(),W,t,z,(IntKind.wrap .i64 (o+1)),au,G)))))) none) (some (.inr ((),(),H,I,G)))
def S178_21(J:Unit)(o t:List PV)(z m:Int)(G:Bn)(H:PV):Option (T79a⊕(Unit×(List PV)×Bn×PV)):=cond (decide (m<z)) (cond (aab m t.length) ((F176 (t.getD m.toNat .bad).asStr).bind λI=>cond (decide (o.length+[(PV.str I)].length<=accMax)) (some (.inl ((),(o++[(PV.str I)]),t,z,(IntKind.wrap .i64 (m+1)),G,H))) none) none) (some (.inr ((),o,G,H)))
def F178(a0:Unit)(Z:PV)(a2:Bn):Option Bn:=let x1:=(Z.fld 0).asStr;cond (decide (([109,101,115,115,97,103,101,32]:Bn).length+x1.length<=aac)) ((F291 (Z.fld 4).asList).bind λy3=>cond (decide ((([109,101,115,115,97,103,101,32]:Bn)++x1).length+y3.length<=aac)) (let x4:=(([109,101,115,115,97,103,101,32]:Bn)++x1)++y3;cond (decide (x4.length+([32,123]:Bn).length<=aac)) ((F175 () (0:Int) (x4++([32,123]:Bn)) a2).bind λy6=>let x7:=(Z.fld 1).asList;(aad 0 (Y8 S178_5) ((),(),([]:Bn),x7,(x7.length:Int),(0:Int),y6,Z)).bind λm=>cond (!(m.2.2.1==([]:Bn))) ((F175 () (1:Int) ([125]:Bn) m.2.2.2.1).bind λab=>(F293 () (m.2.2.2.2.fld 2).asList ab).bind λad=>let J:=(m.2.2.2.2.fld 3).asList;(aad 0 (Y7 S178_21) ((),[],J,(J.length:Int),(0:Int),ad,m.2.2.2.2)).bind λz=>cond (decide ((z.2.1.length:Int)>0)) ((amc 0 z.2.1 ([44,32]:Bn)).bind λH=>cond (decide (([114,101,115,101,114,118,101,100,32]:Bn).length+H.length<=aac)) (cond (decide ((([114,101,115,101,114,118,101,100,32]:Bn)++H).length+([59]:Bn).length<=aac)) (let aa:=(([114,101,115,101,114,118,101,100,32]:Bn)++H)++([59]:Bn);(F175 () (1:Int) aa z.2.2.1).bind λM=>(F175 () (0:Int) ([125]:Bn) M).bind λO=>some O) none) none) ((F175 () (0:Int) ([125]:Bn) z.2.2.1).bind λU=>some U)) ((F293 () (m.2.2.2.2.fld 2).asList m.2.2.2.1).bind λV=>let G:=(m.2.2.2.2.fld 3).asList;(aad 0 (Y7 S178_21) ((),[],G,(G.length:Int),(0:Int),V,m.2.2.2.2)).bind λo=>cond (decide ((o.2.1.length:Int)>0)) ((amc 0 o.2.1 ([44,32]:Bn)).bind λt=>cond (decide (([114,101,115,101,114,118,101,100,32]:Bn).length+t.length<=aac)) (cond (decide ((([114,101,115,101,114,118,101,100,32]:Bn)++t).length+([59]:Bn).length<=aac)) (let I:=(([114,101,115,101,114,118,101,100,32]:Bn)++t)++([59]:Bn);(F175 () (1:Int) I o.2.2.1).bind λW=>(F175 () (0:Int) ([125]:Bn) W).bind λX=>some X) none) none) ((F175 () (0:Int) ([125]:Bn) o.2.2.1).bind λY=>some Y))) none) none) none
def S178_5l:LoopE:=⟨5,⟨[0,3,4,21,22,23],[.bld 237,.box 74 .leaf],(.con (.bref 0 237))::(.con (.ref 1 [] 74))::.str::(.slice 69)::(.int .i64)::(.int .i64)::sv58⟩,[(.exit 0,⟨[0,3,4],[.bld 237,.box 74 .leaf],(.con (.bref 0 237))::(.con (.ref 1 [] 74))::.str::sv58⟩)],(Y8 S178_5)⟩
def S178_21l:LoopE:=⟨21,⟨[0,7,74,75,76],[.bld 237,.box 74 .leaf,.acc],(.con (.bref 0 237))::(.acc 2 9)::(.slice 9)::(.int .i64)::(.int .i64)::sv58⟩,[(.exit 2,⟨[0,7],[.bld 237,.box 74 .leaf,.acc],(.con (.bref 0 237))::(.acc 2 9)::sv58⟩)],(Y7 S178_21)⟩
def F178c:KT:=xf 178 ⟨2,bx62,[(.con (.bref 0 237)),.data 74,.str]⟩ f68 (u3 F178) [F291c,F175c,F292c,F293c,F176c,⟨avx 0,ate 0⟩] [S178_5l,S178_21l] (L2 (xl S178_5l L0) (xl S178_21l L0))
def S177_c178_2(O U:Unit)(t:List PV)(z o:Int)(J:Bn):Option (T17a⊕T86a):=cond (decide (o<z)) (cond (aab o t.length) (let M:=t.getD o.toNat .bad;(ayg 0 J).bind λm=>cond (decide (m.1>0)) ((aa2 0 ([10]:Bn) m.2).bind λG=>(F178 () M G.2.2).bind λH=>some (.inl ((),(),t,z,(IntKind.wrap .i64 (o+1)),H))) ((F178 () M m.2).bind λI=>some (.inl ((),(),t,z,(IntKind.wrap .i64 (o+1)),I)))) none) (some (.inr J))
def F177_c178(z:Unit)(o:List PV)(G:Unit)(t:Bn):Option Bn:=(aad 0 (Y6 S177_c178_2) ((),(),o,(o.length:Int),(0:Int),t)).bind λm=>some m
def S177_c178_2l:LoopE:=⟨2,⟨[0,2,8,9,10],bx62,(.con (.bref 0 237))::(.con (.fn 178 1 [.bref 0 237]))::(.slice 74)::sv100⟩,[(.exit 0,f117)],(Y6 S177_c178_2)⟩
def F177_c178c:KT:=xf 177 ⟨3,[.bld 237],[(.con (.bref 0 237)),.slice 74,(.con (.fn 178 1 [.bref 0 237])),.str]⟩ f91 (u4 F177_c178) [⟨aiy 0,aj7 0⟩,⟨acd 0,acx 0⟩,F178c] [S177_c178_2l] (L1 (xl S177_c178_2l L0))
def S180_7(X Y:Unit)(o:List PV)(z m:Int)(G:Bn)(H:PV):Option (T83a⊕(Unit×Unit×Bn×PV)):=cond (decide (m<z)) (cond (aab m o.length) (let t:=o.getD m.toNat .bad;let I:=(t.fld 0).asStr;cond (decide (I.length+([32,61,32]:Bn).length<=aac)) (let J:=I++([32,61,32]:Bn);(akw 0 (t.fld 1).asInt).bind λU=>cond (decide (J.length+U.length<=aac)) (let M:=J++U;(F291 (t.fld 2).asList).bind λV=>cond (decide (M.length+V.length<=aac)) (let O:=M++V;cond (decide (O.length+([59]:Bn).length<=aac)) ((F175 () (1:Int) (O++([59]:Bn)) G).bind λW=>some (.inl ((),(),o,z,(IntKind.wrap .i64 (m+1)),W,H))) none) none) none) none) none) (some (.inr ((),(),G,H)))
def F180(a0:Unit)(m:PV)(X:Bn):Option Bn:=cond ((m.fld 1).asBool) (cond (decide (([111,112,101,110,32]:Bn).length+([101,110,117,109,32]:Bn).length<=aac)) (let Y:=(m.fld 0).asStr;cond (decide ((([111,112,101,110,32]:Bn)++([101,110,117,109,32]:Bn)).length+Y.length<=aac)) (let Z:=(([111,112,101,110,32]:Bn)++([101,110,117,109,32]:Bn))++Y;(F291 (m.fld 4).asList).bind λy5=>cond (decide (Z.length+y5.length<=aac)) (let x6:=Z++y5;cond (decide (x6.length+([32,123]:Bn).length<=aac)) ((F175 () (0:Int) (x6++([32,123]:Bn)) X).bind λy8=>let x9:=(m.fld 2).asList;(aad 0 (Y7 S180_7) ((),(),x9,(x9.length:Int),(0:Int),y8,m)).bind λH=>(F293 () (H.2.2.2.fld 3).asList H.2.2.1).bind λM=>(F175 () (0:Int) ([125]:Bn) M).bind λO=>some O) none) none) none) none) (cond (decide (([]:Bn).length+([101,110,117,109,32]:Bn).length<=aac)) (let o:=(m.fld 0).asStr;cond (decide ((([]:Bn)++([101,110,117,109,32]:Bn)).length+o.length<=aac)) (let t:=(([]:Bn)++([101,110,117,109,32]:Bn))++o;(F291 (m.fld 4).asList).bind λI=>cond (decide (t.length+I.length<=aac)) (let z:=t++I;cond (decide (z.length+([32,123]:Bn).length<=aac)) ((F175 () (0:Int) (z++([32,123]:Bn)) X).bind λU=>let G:=(m.fld 2).asList;(aad 0 (Y7 S180_7) ((),(),G,(G.length:Int),(0:Int),U,m)).bind λJ=>(F293 () (J.2.2.2.fld 3).asList J.2.2.1).bind λV=>(F175 () (0:Int) ([125]:Bn) V).bind λW=>some W) none) none) none) none)
def S180_7l:LoopE:=⟨7,⟨[0,3,22,23,24],[.bld 237,.box 121 .leaf],(.con (.bref 0 237))::(.con (.ref 1 [] 121))::(.slice 124)::(.int .i64)::(.int .i64)::sv59⟩,[(.exit 0,⟨[0,3],[.bld 237,.box 121 .leaf],(.con (.bref 0 237))::(.con (.ref 1 [] 121))::sv59⟩)],(Y7 S180_7)⟩
def F180c:KT:=xf 180 ⟨2,bx62,[(.con (.bref 0 237)),.data 121,.str]⟩ f68 (u3 F180) [F291c,F175c,⟨avv 0,atd 0⟩,F293c] [S180_7l] (L1 (xl S180_7l L0))
def S179_c180_2(O U:Unit)(t:List PV)(z o:Int)(J:Bn):Option (T17a⊕T86a):=cond (decide (o<z)) (cond (aab o t.length) (let M:=t.getD o.toNat .bad;(ayg 0 J).bind λm=>cond (decide (m.1>0)) ((aa2 0 ([10]:Bn) m.2).bind λG=>(F180 () M G.2.2).bind λH=>some (.inl ((),(),t,z,(IntKind.wrap .i64 (o+1)),H))) ((F180 () M m.2).bind λI=>some (.inl ((),(),t,z,(IntKind.wrap .i64 (o+1)),I)))) none) (some (.inr J))
def F179_c180(z:Unit)(o:List PV)(G:Unit)(t:Bn):Option Bn:=(aad 0 (Y6 S179_c180_2) ((),(),o,(o.length:Int),(0:Int),t)).bind λm=>some m
def S179_c180_2l:LoopE:=⟨2,⟨[0,2,8,9,10],bx62,(.con (.bref 0 237))::(.con (.fn 180 1 [.bref 0 237]))::(.slice 121)::sv100⟩,[(.exit 0,f117)],(Y6 S179_c180_2)⟩
def F179_c180c:KT:=xf 179 ⟨3,[.bld 237],[(.con (.bref 0 237)),.slice 121,(.con (.fn 180 1 [.bref 0 237])),.str]⟩ f91 (u4 F179_c180) [⟨aiy 0,aj7 0⟩,⟨acd 0,acx 0⟩,F180c] [S179_c180_2l] (L1 (xl S179_c180_2l L0))
def S182_4(a9:Unit)(G:List PV)(H z:Int)(I:Bn)(J:PV):Option (T88a⊕T80a):=cond (decide (z<H)) (cond (aab z G.length) (let m:=G.getD z.toNat .bad;let t:=(m.fld 1).asStr;let o:=(m.fld 2).asStr;cond (cond ((m.fld 3).asInt==3) true ((m.fld 3).asInt==4)) (cond (decide (([115,116,114,101,97,109,32]:Bn).length+t.length<=aac)) (cond (cond ((m.fld 3).asInt==2) true ((m.fld 3).asInt==4)) (cond (decide (([115,116,114,101,97,109,32]:Bn).length+o.length<=aac)) (let M:=(m.fld 0).asStr;cond (decide (([114,112,99,32]:Bn).length+M.length<=aac)) (cond (decide ((([114,112,99,32]:Bn)++M).length+([40]:Bn).length<=aac)) (let W:=(([114,112,99,32]:Bn)++M)++([40]:Bn);cond (decide (W.length+(([115,116,114,101,97,109,32]:Bn)++t).length<=aac)) (let X:=W++(([115,116,114,101,97,109,32]:Bn)++t);cond (decide (X.length+([41,32,114,101,116,117,114,110,115,32,40]:Bn).length<=aac)) (let Y:=X++([41,32,114,101,116,117,114,110,115,32,40]:Bn);cond (decide (Y.length+(([115,116,114,101,97,109,32]:Bn)++o).length<=aac)) (let Z:=Y++(([115,116,114,101,97,109,32]:Bn)++o);cond (decide (Z.length+([41]:Bn).length<=aac)) (let aa:=Z++([41]:Bn);(F291 (m.fld 4).asList).bind λax=>cond (decide (aa.length+ax.length<=aac)) (let ab:=aa++ax;cond (decide (ab.length+([59]:Bn).length<=aac)) ((F175 () (1:Int) (ab++([59]:Bn)) I).bind λaB=>some (.inl ((),G,H,(IntKind.wrap .i64 (z+1)),aB,J))) none) none) none) none) none) none) none) none) none) (let O:=(m.fld 0).asStr;cond (decide (([114,112,99,32]:Bn).length+O.length<=aac)) (cond (decide ((([114,112,99,32]:Bn)++O).length+([40]:Bn).length<=aac)) (let ad:=(([114,112,99,32]:Bn)++O)++([40]:Bn);cond (decide (ad.length+(([115,116,114,101,97,109,32]:Bn)++t).length<=aac)) (let ae:=ad++(([115,116,114,101,97,109,32]:Bn)++t);cond (decide (ae.length+([41,32,114,101,116,117,114,110,115,32,40]:Bn).length<=aac)) (let af:=ae++([41,32,114,101,116,117,114,110,115,32,40]:Bn);cond (decide (af.length+o.length<=aac)) (let ag:=af++o;cond (decide (ag.length+([41]:Bn).length<=aac)) (let ah:=ag++([41]:Bn);(F291 (m.fld 4).asList).bind λay=>cond (decide (ah.length+ay.length<=aac)) (let ai:=ah++ay;cond (decide (ai.length+([59]:Bn).length<=aac)) ((F175 () (1:Int) (ai++([59]:Bn)) I).bind λaC=>some (.inl ((),G,H,(IntKind.wrap .i64 (z+1)),aC,J))) none) none) none) none) none) none) none) none)) none) (cond (cond ((m.fld 3).asInt==2) true ((m.fld 3).asInt==4)) (cond (decide (([115,116,114,101,97,109,32]:Bn).length+o.length<=aac)) (let U:=(m.fld 0).asStr;cond (decide (([114,112,99,32]:Bn).length+U.length<=aac)) (cond (decide ((([114,112,99,32]:Bn)++U).length+([40]:Bn).length<=aac)) (let aj:=(([114,112,99,32]:Bn)++U)++([40]:Bn);cond (decide (aj.length+t.length<=aac)) (let ak:=aj++t;cond (decide (ak.length+([41,32,114,101,116,117,114,110,115,32,40]:Bn).length<=aac)) (let al:=ak++([41,32,114,101,116,117,114,110,115,32,40]:Bn);cond (decide (al.length+(([115,116,114,101,97,109,32]:Bn)++o).length<=aac)) (let am:=al++(([115,116,114,101,97,109,32]:Bn)++o);cond (decide (am.length+([41]:Bn).length<=aac)) (let an:=am++([41]:Bn);(F291 (m.fld 4).asList).bind λaz=>cond (decide (an.length+az.length<=aac)) (let ao:=an++az;cond (decide (ao.length+([59]:Bn).length<=aac)) ((F175 () (1:Int) (ao++([59]:Bn)) I).bind λaD=>some (.inl ((),G,H,(IntKind.wrap .i64 (z+1)),aD,J))) none) none) none) none) none) none) none) none) none) (let V:=(m.fld 0).asStr;cond (decide (([114,112,99,32]:Bn).length+V.length<=aac)) (cond (decide ((([114,112,99,32]:Bn)++V).length+([40]:Bn).length<=aac)) (let ap:=(([114,112,99,32]:Bn)++V)++([40]:Bn);cond (decide (ap.length+t.length<=aac)) (let aq:=ap++t;cond (decide (aq.length+([41,32,114,101,116,117,114,110,115,32,40]:Bn).length<=aac)) (let ar:=aq++([41,32,114,101,116,117,114,110,115,32,40]:Bn);cond (decide (ar.length+o.length<=aac)) (let au:=ar++o;cond (decide (au.length+([41]:Bn).length<=aac)) (let av:=au++([41]:Bn);(F291 (m.fld 4).asList).bind λaA=>cond (decide (av.length+aA.length<=aac)) (let aw:=av++aA;cond (decide (aw.length+([59]:Bn).length<=aac)) ((F175 () (1:Int) (aw++([59]:Bn)) I).bind λaE=>some (.inl ((),G,H,(IntKind.wrap .i64 (z+1)),aE,J))) none) none) none) none) none) none) none) none))) none) (some (.inr ((),I,J)))
def F182(M:Unit)(m:PV)(I:Bn):Option Bn:=let x1:=(m.fld 0).asStr;cond (decide (([115,101,114,118,105,99,101,32]:Bn).length+x1.length<=aac)) ((F291 (m.fld 2).asList).bind λH=>cond (decide ((([115,101,114,118,105,99,101,32]:Bn)++x1).length+H.length<=aac)) (let z:=(([115,101,114,118,105,99,101,32]:Bn)++x1)++H;cond (decide (z.length+([32,123]:Bn).length<=aac)) ((F175 () (0:Int) (z++([32,123]:Bn)) I).bind λJ=>let G:=(m.fld 1).asList;(aad 0 (Y6 S182_4) ((),G,(G.length:Int),(0:Int),J,m)).bind λo=>(F175 () (0:Int) ([125]:Bn) o.2.1).bind λt=>some t) none) none) none
def S182_4l:LoopE:=⟨4,⟨[0,19,20,21],[.bld 237,.box 127 .leaf],(.con (.bref 0 237))::(.slice 130)::(.int .i64)::(.int .i64)::sv60⟩,[(.exit 0,⟨[0],[.bld 237,.box 127 .leaf],(.con (.bref 0 237))::sv60⟩)],(Y6 S182_4)⟩
def F182c:KT:=xf 182 ⟨2,bx62,[(.con (.bref 0 237)),.data 127,.str]⟩ f68 (u3 F182) [F291c,F175c] [S182_4l] (L1 (xl S182_4l L0))
def S181_c182_2(O U:Unit)(t:List PV)(z o:Int)(J:Bn):Option (T17a⊕T86a):=cond (decide (o<z)) (cond (aab o t.length) (let M:=t.getD o.toNat .bad;(ayg 0 J).bind λm=>cond (decide (m.1>0)) ((aa2 0 ([10]:Bn) m.2).bind λG=>(F182 () M G.2.2).bind λH=>some (.inl ((),(),t,z,(IntKind.wrap .i64 (o+1)),H))) ((F182 () M m.2).bind λI=>some (.inl ((),(),t,z,(IntKind.wrap .i64 (o+1)),I)))) none) (some (.inr J))
def F181_c182(z:Unit)(o:List PV)(G:Unit)(t:Bn):Option Bn:=(aad 0 (Y6 S181_c182_2) ((),(),o,(o.length:Int),(0:Int),t)).bind λm=>some m
def S181_c182_2l:LoopE:=⟨2,⟨[0,2,8,9,10],bx62,(.con (.bref 0 237))::(.con (.fn 182 1 [.bref 0 237]))::(.slice 127)::sv100⟩,[(.exit 0,f117)],(Y6 S181_c182_2)⟩
def F181_c182c:KT:=xf 181 ⟨3,[.bld 237],[(.con (.bref 0 237)),.slice 127,(.con (.fn 182 1 [.bref 0 237])),.str]⟩ f91 (u4 F181_c182) [⟨aiy 0,aj7 0⟩,⟨acd 0,acx 0⟩,F182c] [S181_c182_2l] (L1 (xl S181_c182_2l L0))
def S112_6(M O:Unit)(o:List PV)(z m:Int)(G:PV)(H:Bn):Option (T84a⊕(Unit×Unit×PV×Bn)):=cond (decide (m<z)) (cond (aab m o.length) ((F176 (o.getD m.toNat .bad).asStr).bind λt=>cond (decide (([105,109,112,111,114,116,32]:Bn).length+t.length<=aac)) (cond (decide ((([105,109,112,111,114,116,32]:Bn)++t).length+([59]:Bn).length<=aac)) (let I:=(([105,109,112,111,114,116,32]:Bn)++t)++([59]:Bn);(F175 () (0:Int) I H).bind λJ=>some (.inl ((),(),o,z,(IntKind.wrap .i64 (m+1)),G,J))) none) none) none) (some (.inr ((),(),G,H)))
def F112(t:PV):Option Bn:=cond (!((t.fld 1).asStr==([]:Bn))) (let G:=(t.fld 1).asStr;cond (decide (([115,112,97,99,101,32]:Bn).length+G.length<=aac)) (cond (decide ((([115,112,97,99,101,32]:Bn)++G).length+([59]:Bn).length<=aac)) (let Y:=(([115,112,97,99,101,32]:Bn)++G)++([59]:Bn);(F175 () (0:Int) Y []).bind λZ=>let X:=(t.fld 2).asList;(aad 0 (Y7 S112_6) ((),(),X,(X.length:Int),(0:Int),t,Z)).bind λm=>(F177_c178 () (m.2.2.1.fld 3).asList () m.2.2.2).bind λH=>(F179_c180 () (m.2.2.1.fld 4).asList () H).bind λI=>(F181_c182 () (m.2.2.1.fld 5).asList () I).bind λJ=>(ah2 0 J).bind λM=>some M.1) none) none) (let z:=(t.fld 2).asList;(aad 0 (Y7 S112_6) ((),(),z,(z.length:Int),(0:Int),t,[])).bind λo=>(F177_c178 () (o.2.2.1.fld 3).asList () o.2.2.2).bind λO=>(F179_c180 () (o.2.2.1.fld 4).asList () O).bind λU=>(F181_c182 () (o.2.2.1.fld 5).asList () U).bind λV=>(ah2 0 V).bind λW=>some W.1)
def S112_6l:LoopE:=⟨6,⟨[1,3,18,19,20],[.box 112 .leaf,.bld 237],[(.con (.ref 0 [] 112)),(.con (.bref 1 237)),.slice 9,.int .i64,.int .i64,.data 112,.str]⟩,[(.exit 0,⟨[1,3],[.box 112 .leaf,.bld 237],[(.con (.ref 0 [] 112)),(.con (.bref 1 237)),.data 112,.str]⟩)],(Y7 S112_6)⟩
def F112c:KT:=xf 112 f7 f4 F112 [F175c,F176c,F177_c178c,F179_c180c,F181_c182c,⟨ane 0,atj 0⟩] [S112_6l] (L1 (xl S112_6l L0))
def S111_9(I:Unit)(o:List PV)(z m:Int)(t:PV):Option (T70a⊕T103a):=cond (decide (m<z)) (cond (aab m o.length) (let G:=o.getD m.toNat .bad;(F173 (G.fld 0).asList (G.fld 1).asInt).bind λH=>cond (H != 0) (some (.inr (.inl (H,t)))) (some (.inl ((),o,z,(IntKind.wrap .i64 (m+1)),t)))) none) (some (.inr (.inr ((),t))))
def F111(m:PV):Option Int:=(F169 m).bind λM=>cond (!M) (some (8:Int)) ((F170 m).bind λO=>cond (!O) (some (1:Int)) ((F171 m).bind λU=>cond (!U) (some (7:Int)) ((F172 m).bind λJ=>(aad 0 (Y5 S111_9) ((),J,(J.length:Int),(0:Int),m)).bind λz=>sumE (λG=>some G.1 ) (λt=>(F174 t.2).bind λH=>let o:=!H;(cond (!o) (F112 t.2) (some [])).bind λI=>cond (cond o true (decide ((I.length:Int)>16384))) (some (3:Int)) (some (0:Int)) ) z)))
def S111_9l:LoopE:=⟨9,⟨[1,19,20,21],bx25,(.con (.ref 0 [] 112))::(.slice 229)::sv98⟩,[(.ret,⟨[2],bx25,sv57⟩),(.exit 1,⟨[1],bx25,[(.con (.ref 0 [] 112)),.data 112]⟩)],(Y5 S111_9)⟩
def F111c:KT:=xf 111 f7 f5 F111 [F169c,F170c,F171c,F172c,F173c,F174c,F112c] [S111_9l] (L1 (xl S111_9l L0))
def F74(m:PV):Option Bn:=(F111 m).bind λo=>cond (o != 0) (some ([]:Bn)) ((F112 m).bind λt=>some t)
def F74c:KT:=xj 74 f7 f4 F74 [F111c,F112c]
def F48(m:PV):Option Bn:=(F45 m).bind λo=>cond (!o) (some ([]:Bn)) ((F47 m).bind λt=>(F75 t).bind λz=>(F74 z).bind λG=>some G)
def F48c:KT:=xj 48 f8 f4 F48 [F45c,F47c,F75c,F74c]
def S65_4(o:Bn)(t z m:Int):Option (T78a⊕(Int)):=cond (decide (m<z)) (cond (aab m o.length) (some (.inl (o,(IntKind.wrap .u64 ((aen .xor .u64 t (IntKind.wrap .u64 ((o.getD m.toNat 0).toNat:Int)))*1099511628211)),z,(IntKind.wrap .i64 (m+1))))) none) (some (.inr t))
def F65(o:Bn):Option Int:=(aad 0 (Y4 S65_4) (o,(14695981039346656037:Int),(o.length:Int),(0:Int))).bind λm=>some m
def S65_4l:LoopE:=⟨4,⟨[0,3,6,7],[],.str::(.int .u64)::sv54⟩,[(.exit 0,⟨[3],[],[.int .u64]⟩)],(Y4 S65_4)⟩
def F65c:KT:=xf 65 f4 f23 F65 [] [S65_4l] (L1 (xl S65_4l L0))
def F44(m:PV):Option Int:=(F48 m).bind λo=>(F65 o).bind λt=>some t
def F44c:KT:=xj 44 f8 f23 F44 [F48c,F65c]
def F27(t m:PV):Option Bool:=(F44 (m.fld 1)).bind λo=>some ((m.fld 2).asInt==o)
def F27c:KT:=xj 27 ⟨2,[],sv76⟩ f0 (u2 F27) [F44c]
def F42_v1(o:PV)(z G H:Unit)(m:PV):Option (Bool×Unit×PV):=(F27 m o).bind λt=>some ((!t),(),m)
def F42_v1c:KT:=xj 42 ⟨3,bx34,[.data 45,(.con (.ref 0 [] 56)),(.con (.ref 1 [] 37)),(.con (.fn 27 0 [])),.data 37]⟩ ⟨1,bx34,[.bool,(.con (.fn 27 0 [])),.data 37]⟩ (u5 F42_v1) [F27c]
def F62_c42_v1g(e:PV)(c:Unit×PV):Option (Bool×Unit×PV):=F42_v1 e () () c.1 c.2
def F62_c42_v1c:KT:=ixK 62 45 (.fn 42 0 [(.ref 0 [] 56),(.ref 1 [] 37)]) [.box 56 .leaf,.box 37 .leaf] (.con (.fn 27 0 [])) [.data 37] F62_c42_v1g (F42_v1c)
def F41_c42_v1(m:List PV)(z o:Unit)(t:PV):Option (Bool×Unit×PV):=cfF F62_c42_v1g m (o,t)
def F41_c42_v1c:KT:=cfK 41 45 (.fn 42 0 [(.ref 0 [] 56),(.ref 1 [] 37)]) [.box 56 .leaf,.box 37 .leaf] (.con (.fn 27 0 [])) [.data 37] F62_c42_v1g (F62_c42_v1c)
def F40_v1(m:PV)(t z:Unit):Option (Bool×Unit):=(F41_c42_v1 (m.fld 4).asList () () m).bind λo=>some ((!o.1),())
def F40_v1c:KT:=xj 40 ⟨2,bx35,(.data 37)::(.con (.ref 0 [] 56))::sv101⟩ ⟨1,bx35,.bool::sv101⟩ (u3 F40_v1) [F41_c42_v1c]
def F36_v5(m:PV)(t z G:Unit):Option (Bool×Unit×Unit):=(F40_v1 m () ()).bind λo=>some ((!o.1),(),())
def F36_v5c:KT:=xj 36 ⟨2,bx36,(.data 37)::(.con (.ref 0 [] 47))::(.con (.fn 40 0 [(.ref 1 [] 56)]))::sv101⟩ ⟨1,bx36,.bool::(.con (.fn 40 0 [(.ref 1 [] 56)]))::sv101⟩ (u4 F36_v5) [F40_v1c]
def F59_c36_v5g(e:PV)(c:Unit×Unit):Option (Bool×Unit×Unit):=F36_v5 e () c.1 c.2
def F59_c36_v5c:KT:=ixK 59 37 (.fn 36 0 [(.ref 0 [] 47)]) [.box 47 .leaf,.box 56 .leaf] (.con (.fn 40 0 [(.ref 1 [] 56)])) [(.con (.fn 27 0 []))] F59_c36_v5g (F36_v5c)
def F35_c36_v5(m:List PV)(z o t:Unit):Option (Bool×Unit×Unit):=cfF F59_c36_v5g m (o,t)
def F35_c36_v5c:KT:=cfK 35 37 (.fn 36 0 [(.ref 0 [] 47)]) [.box 47 .leaf,.box 56 .leaf] (.con (.fn 40 0 [(.ref 1 [] 56)])) [(.con (.fn 27 0 []))] F59_c36_v5g (F59_c36_v5c)
def F19_c40_v1(m:PV)(t z:Unit):Option (Bool×Unit):=(F35_c36_v5 (m.fld 1).asList () () ()).bind λo=>some ((!o.1),())
def F19_c40_v1c:KT:=xj 19 ⟨2,[.box 56 .leaf],[.data 24,(.con (.fn 40 0 [(.ref 0 [] 56)])),(.con (.fn 27 0 []))]⟩ ⟨1,[.box 56 .leaf],[.bool,(.con (.fn 27 0 []))]⟩ (u3 F19_c40_v1) [F35_c36_v5c]
def F25_c28(m:Unit):Option (Unit×Unit):=some ((),())
def F25_c28c:KT:=xj 25 ⟨1,[],[(.con (.fn 28 0 []))]⟩ ⟨1,[.box 56 .leaf],[(.con (.fn 40 0 [(.ref 0 [] 56)])),(.con (.fn 28 0 []))]⟩ F25_c28 []
def S101_5(o t:List PV)(z m:Int):Option (T34a⊕T21a):=cond (decide (m<z)) (cond (aab m o.length) (cond (aab m t.length) (cond (!((o.getD m.toNat .bad).asStr==(t.getD m.toNat .bad).asStr)) (some (.inr (.inl false))) (some (.inl (o,t,z,(IntKind.wrap .i64 (m+1)))))) none) none) (some (.inr (.inr ())))
def F101(m t:List PV):Option Bool:=cond ((m.length:Int) != (t.length:Int)) (some false) ((aad 0 (Y4 S101_5) (m,t,(m.length:Int),(0:Int))).bind λz=>sumE (λo=>some o ) (λG=>some true ) z)
def S101_5l:LoopE:=⟨5,⟨[0,1,12,13],[],(.slice 9)::(.slice 9)::sv54⟩,[(.ret,f43),(.exit 0,f9)],(Y4 S101_5)⟩
def F101c:KT:=xf 101 ⟨2,[],sv17⟩ f0 (u2 F101) [] [S101_5l] (L1 (xl S101_5l L0))
def F254(m o:PV):Option Bool:=some (cond (cond ((m.fld 0).asInt==(o.fld 0).asInt) ((m.fld 1).asInt==(o.fld 1).asInt) false) ((m.fld 2).asStr==(o.fld 2).asStr) false)
def F254c:KT:=xj 254 f115 f0 (u2 F254) []
def F256(m o:PV):Option Bool:=some (cond (cond (cond ((m.fld 0).asStr==(o.fld 0).asStr) ((((m.fld 1).fld 0).asInt)==(((o.fld 1).fld 0).asInt)) false) ((((m.fld 1).fld 1).asInt)==(((o.fld 1).fld 1).asInt)) false) ((((m.fld 1).fld 2).asStr)==(((o.fld 1).fld 2).asStr)) false)
def F256c:KT:=xj 256 ⟨2,[],[.data 66,.data 66]⟩ f0 (u2 F256) []
def F255_c256g(a b:PV):Option Bool:=F256 a b
def F255_c256(m o:List PV)(t:Unit):Option Bool:=eqF F255_c256g m o
def F255_c256c:KT:=eqK 255 66 (.fn 256 0 []) F255_c256g (F256c)
def F163(m o:List PV):Option Bool:=(F255_c256 m o ()).bind λt=>some t
def F163c:KT:=xj 163 f103 f0 (u2 F163) [F255_c256c]
def F161(m o:PV):Option Bool:=let t:=m.fld 4;let z:=o.fld 4;let I:=cond ((t.fld 0).asInt==(z.fld 0).asInt) (cond ((t.fld 1).asStr==(z.fld 1).asStr) true false) false;let G:=cond (cond (cond (cond (cond (cond ((m.fld 0).asInt==(o.fld 0).asInt) ((m.fld 1).asStr==(o.fld 1).asStr) false) ((m.fld 2).asInt==(o.fld 2).asInt) false) ((m.fld 3).asInt==(o.fld 3).asInt) false) I false) ((m.fld 5).asStr==(o.fld 5).asStr) false) ((m.fld 6).asBool==(o.fld 6).asBool) false;(cond G (F254 (m.fld 7) (o.fld 7)) (some false)).bind λJ=>let H:=cond G J false;(cond H (F163 (m.fld 8).asList (o.fld 8).asList) (some false)).bind λM=>some (cond H M false)
def F161c:KT:=xj 161 f116 f0 (u2 F161) [F254c,F163c]
def F160_c161g(a b:PV):Option Bool:=F161 a b
def F160_c161(m o:List PV)(t:Unit):Option Bool:=eqF F160_c161g m o
def F160_c161c:KT:=eqK 160 69 (.fn 161 0 []) F160_c161g (F161c)
def S162_5(z G:List PV)(I m:Int):Option (T34a⊕T21a):=cond (decide (m<I)) (cond (aab m z.length) (let o:=z.getD m.toNat .bad;cond (aab m G.length) (let t:=G.getD m.toNat .bad;let H:=!(cond ((o.fld 0).asInt==(t.fld 0).asInt) (cond ((o.fld 1).asInt==(t.fld 1).asInt) true false) false);cond H (some (.inr (.inl false))) (some (.inl (z,G,I,(IntKind.wrap .i64 (m+1)))))) none) none) (some (.inr (.inr ())))
def F162(m t:List PV):Option Bool:=cond ((m.length:Int) != (t.length:Int)) (some false) ((aad 0 (Y4 S162_5) (m,t,(m.length:Int),(0:Int))).bind λz=>sumE (λo=>some o ) (λG=>some true ) z)
def S162_5l:LoopE:=⟨5,⟨[0,1,12,13],[],(.slice 117)::sv23⟩,[(.ret,f43),(.exit 0,f9)],(Y4 S162_5)⟩
def F162c:KT:=xf 162 f96 f0 (u2 F162) [] [S162_5l] (L1 (xl S162_5l L0))
def F103(m o:PV):Option Bool:=let J:=(m.fld 0).asStr==((o.fld 0).asStr);(cond J (F160_c161 (m.fld 1).asList (o.fld 1).asList ()) (some false)).bind λO=>let M:=cond J O false;(cond M (F162 (m.fld 2).asList (o.fld 2).asList) (some false)).bind λG=>let t:=cond M G false;(cond t (F101 (m.fld 3).asList (o.fld 3).asList) (some false)).bind λH=>let z:=cond t H false;(cond z (F163 (m.fld 4).asList (o.fld 4).asList) (some false)).bind λI=>some (cond z I false)
def F103c:KT:=xj 103 ⟨2,[],sv67⟩ f0 (u2 F103) [F160_c161c,F162c,F101c,F163c]
def F102_c103g(a b:PV):Option Bool:=F103 a b
def F102_c103(m o:List PV)(t:Unit):Option Bool:=eqF F102_c103g m o
def F102_c103c:KT:=eqK 102 74 (.fn 103 0 []) F102_c103g (F103c)
def F165(m o:PV):Option Bool:=let z:=cond ((m.fld 0).asStr==(o.fld 0).asStr) ((m.fld 1).asInt==(o.fld 1).asInt) false;(cond z (F163 (m.fld 2).asList (o.fld 2).asList) (some false)).bind λt=>some (cond z t false)
def F165c:KT:=xj 165 ⟨2,[],[.data 124,.data 124]⟩ f0 (u2 F165) [F163c]
def F164_c165g(a b:PV):Option Bool:=F165 a b
def F164_c165(m o:List PV)(t:Unit):Option Bool:=eqF F164_c165g m o
def F164_c165c:KT:=eqK 164 124 (.fn 165 0 []) F164_c165g (F165c)
def F105(m o:PV):Option Bool:=let J:=cond ((m.fld 0).asStr==(o.fld 0).asStr) ((m.fld 1).asBool==(o.fld 1).asBool) false;(cond J (F162 (m.fld 3).asList (o.fld 3).asList) (some false)).bind λG=>let t:=cond J G false;(cond t (F163 (m.fld 4).asList (o.fld 4).asList) (some false)).bind λH=>let z:=cond t H false;(cond z (F164_c165 (m.fld 2).asList (o.fld 2).asList ()) (some false)).bind λI=>some (cond z I false)
def F105c:KT:=xj 105 ⟨2,[],sv68⟩ f0 (u2 F105) [F162c,F163c,F164_c165c]
def F104_c105g(a b:PV):Option Bool:=F105 a b
def F104_c105(m o:List PV)(t:Unit):Option Bool:=eqF F104_c105g m o
def F104_c105c:KT:=eqK 104 121 (.fn 105 0 []) F104_c105g (F105c)
def F167(m o:PV):Option Bool:=let t:=cond (cond (cond ((m.fld 0).asStr==(o.fld 0).asStr) ((m.fld 1).asStr==(o.fld 1).asStr) false) ((m.fld 2).asStr==(o.fld 2).asStr) false) ((m.fld 3).asInt==(o.fld 3).asInt) false;(cond t (F163 (m.fld 4).asList (o.fld 4).asList) (some false)).bind λz=>some (cond t z false)
def F167c:KT:=xj 167 ⟨2,[],[.data 130,.data 130]⟩ f0 (u2 F167) [F163c]
def F166_c167g(a b:PV):Option Bool:=F167 a b
def F166_c167(m o:List PV)(t:Unit):Option Bool:=eqF F166_c167g m o
def F166_c167c:KT:=eqK 166 130 (.fn 167 0 []) F166_c167g (F167c)
def F107(m o:PV):Option Bool:=let z:=(m.fld 0).asStr==((o.fld 0).asStr);(cond z (F163 (m.fld 2).asList (o.fld 2).asList) (some false)).bind λH=>let G:=cond z H false;(cond G (F166_c167 (m.fld 1).asList (o.fld 1).asList ()) (some false)).bind λt=>some (cond G t false)
def F107c:KT:=xj 107 ⟨2,[],sv69⟩ f0 (u2 F107) [F163c,F166_c167c]
def F106_c107g(a b:PV):Option Bool:=F107 a b
def F106_c107(m o:List PV)(t:Unit):Option Bool:=eqF F106_c107g m o
def F106_c107c:KT:=eqK 106 127 (.fn 107 0 []) F106_c107g (F107c)
def F67(m o:PV):Option Bool:=let J:=(m.fld 1).asStr==((o.fld 1).asStr);(cond J (F101 (m.fld 2).asList (o.fld 2).asList) (some false)).bind λO=>let M:=cond J O false;(cond M (F102_c103 (m.fld 3).asList (o.fld 3).asList ()) (some false)).bind λG=>let t:=cond M G false;(cond t (F104_c105 (m.fld 4).asList (o.fld 4).asList ()) (some false)).bind λH=>let z:=cond t H false;(cond z (F106_c107 (m.fld 5).asList (o.fld 5).asList ()) (some false)).bind λI=>some (cond z I false)
def F67c:KT:=xj 67 ⟨2,[],[.data 112,.data 112]⟩ f0 (u2 F67) [F101c,F102_c103c,F104_c105c,F106_c107c]
def F46(m o:PV):Option Bool:=(F67 (PV.agg [.str ([]:Bn),.str ([]:Bn),.slice [],.slice (m.fld 0).asList,.slice (m.fld 1).asList,.slice (m.fld 2).asList]) (PV.agg [.str ([]:Bn),.str ([]:Bn),.slice [],.slice (o.fld 0).asList,.slice (o.fld 1).asList,.slice (o.fld 2).asList])).bind λt=>some t
def F46c:KT:=xj 46 ⟨2,[],sv72⟩ f0 (u2 F46) [F67c]
def F28(I m:PV):Option Bool:=(F45 (m.fld 1)).bind λo=>(cond o (F47 (m.fld 1)) (some PV.bad)).bind λz=>(cond o (F46 (m.fld 1) z) (some false)).bind λG=>let t:=cond o G false;(cond t (F48 (m.fld 1)) (some [])).bind λH=>some (cond t (!(H==([]:Bn))) false)
def F28c:KT:=xj 28 ⟨2,[],sv76⟩ f0 (u2 F28) [F45c,F47c,F46c,F48c]
def F42_v2(o:PV)(z G H:Unit)(m:PV):Option (Bool×Unit×PV):=(F28 m o).bind λt=>some ((!t),(),m)
def F42_v2c:KT:=xj 42 ⟨3,bx34,[.data 45,(.con (.ref 0 [] 56)),(.con (.ref 1 [] 37)),(.con (.fn 28 0 [])),.data 37]⟩ ⟨1,bx34,[.bool,(.con (.fn 28 0 [])),.data 37]⟩ (u5 F42_v2) [F28c]
def F62_c42_v2g(e:PV)(c:Unit×PV):Option (Bool×Unit×PV):=F42_v2 e () () c.1 c.2
def F62_c42_v2c:KT:=ixK 62 45 (.fn 42 0 [(.ref 0 [] 56),(.ref 1 [] 37)]) [.box 56 .leaf,.box 37 .leaf] (.con (.fn 28 0 [])) [.data 37] F62_c42_v2g (F42_v2c)
def F41_c42_v2(m:List PV)(z o:Unit)(t:PV):Option (Bool×Unit×PV):=cfF F62_c42_v2g m (o,t)
def F41_c42_v2c:KT:=cfK 41 45 (.fn 42 0 [(.ref 0 [] 56),(.ref 1 [] 37)]) [.box 56 .leaf,.box 37 .leaf] (.con (.fn 28 0 [])) [.data 37] F62_c42_v2g (F62_c42_v2c)
def F40_v2(m:PV)(t z:Unit):Option (Bool×Unit):=(F41_c42_v2 (m.fld 4).asList () () m).bind λo=>some ((!o.1),())
def F40_v2c:KT:=xj 40 ⟨2,bx35,(.data 37)::(.con (.ref 0 [] 56))::sv102⟩ ⟨1,bx35,.bool::sv102⟩ (u3 F40_v2) [F41_c42_v2c]
def F36_v6(m:PV)(t z G:Unit):Option (Bool×Unit×Unit):=(F40_v2 m () ()).bind λo=>some ((!o.1),(),())
def F36_v6c:KT:=xj 36 ⟨2,bx36,(.data 37)::(.con (.ref 0 [] 47))::(.con (.fn 40 0 [(.ref 1 [] 56)]))::sv102⟩ ⟨1,bx36,.bool::(.con (.fn 40 0 [(.ref 1 [] 56)]))::sv102⟩ (u4 F36_v6) [F40_v2c]
def F59_c36_v6g(e:PV)(c:Unit×Unit):Option (Bool×Unit×Unit):=F36_v6 e () c.1 c.2
def F59_c36_v6c:KT:=ixK 59 37 (.fn 36 0 [(.ref 0 [] 47)]) [.box 47 .leaf,.box 56 .leaf] (.con (.fn 40 0 [(.ref 1 [] 56)])) [(.con (.fn 28 0 []))] F59_c36_v6g (F36_v6c)
def F35_c36_v6(m:List PV)(z o t:Unit):Option (Bool×Unit×Unit):=cfF F59_c36_v6g m (o,t)
def F35_c36_v6c:KT:=cfK 35 37 (.fn 36 0 [(.ref 0 [] 47)]) [.box 47 .leaf,.box 56 .leaf] (.con (.fn 40 0 [(.ref 1 [] 56)])) [(.con (.fn 28 0 []))] F59_c36_v6g (F59_c36_v6c)
def F19_c40_v2(m:PV)(t z:Unit):Option (Bool×Unit):=(F35_c36_v6 (m.fld 1).asList () () ()).bind λo=>some ((!o.1),())
def F19_c40_v2c:KT:=xj 19 ⟨2,[.box 56 .leaf],[.data 24,(.con (.fn 40 0 [(.ref 0 [] 56)])),(.con (.fn 28 0 []))]⟩ ⟨1,[.box 56 .leaf],[.bool,(.con (.fn 28 0 []))]⟩ (u3 F19_c40_v2) [F35_c36_v6c]
def F9(m:PV):Option Int:=let M:=decide (((m.fld 1).asList.length:Int)>32);(cond (!M) (F19_c20 m ()) (some false)).bind λX=>cond (cond M true (!X)) (some (3:Int)) ((F21 (m.fld 1).asList).bind λY=>let O:=!Y;(cond (!O) (F19_c22 m ()) (some false)).bind λt=>cond (cond O true (!t)) (some (11:Int)) ((F19_c23 m ()).bind λz=>cond (!z) (some (8:Int)) (let o:=decide ((m.fld 0).asInt<0);(cond (!o) (F19_c24 m ()) (some false)).bind λG=>cond (cond o true (!G)) (some (1:Int)) ((F25_c26 ()).bind λU=>(F19_c40 m () ()).bind λH=>cond (!H.1) (some (10:Int)) ((F25_c27 ()).bind λV=>(F19_c40_v1 m () ()).bind λI=>cond (!I.1) (some (25:Int)) ((F25_c28 ()).bind λW=>(F19_c40_v2 m () ()).bind λJ=>cond (!J.1) (some (5:Int)) (some (0:Int))))))))
def F9c:KT:=xj 9 f56 f5 F9 [F19_c20c,F21c,F19_c22c,F19_c23c,F19_c24c,F25_c26c,F19_c40c,F25_c27c,F19_c40_v1c,F25_c28c,F19_c40_v2c]
def F3(m:PV)(V:Bn)(G:PV):Option Bool:=(F4 m).bind λX=>let W:=!X;(cond (!W) (F5 m) (some 0)).bind λY=>cond (cond W true (Y != 0)) (some true) (cond (aab (0:Int) 2) (cond (aab (1:Int) 2) ((F6 m V ((G.fld ((0:Int).toNat)).asInt) ((G.fld ((1:Int).toNat)).asInt)).bind λZ=>cond (aab (0:Int) 2) ((F7 m V ((G.fld ((0:Int).toNat)).asInt)).bind λH=>cond (aab (1:Int) 2) ((F8 m ((G.fld ((1:Int).toNat)).asInt)).bind λI=>(F9 Z.1).bind λJ=>let o:=J==0;(cond o (F9 H.1) (some 0)).bind λM=>let t:=cond o (M==0) false;(cond t (F9 I.1) (some 0)).bind λO=>let z:=cond t (O==0) false;(cond z (bb4 0) (some false)).bind λU=>some (cond z U false)) none) none) none) none)
def F3c:KT:=xj 3 ⟨3,[],[.data 24,.str,.data 25]⟩ f0 (u3 F3) [F4c,F5c,F6c,F7c,F8c,F9c,⟨avu 0,a2z 0⟩]
end
end Go.Ab
