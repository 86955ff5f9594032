/- A part of the proof: lemmas on how the program runs over plain data. -/
import Derived.Test.YtodichgnoiaanaaGreatAbSrt1Z
import Derived.Test.YtodichgnoiaanaaGreatAbLoop
import Derived.KernelRfl
set_option linter.unusedVariables false
set_option linter.unusedSimpArgs false
set_option linter.unnecessarySimpa false
namespace Go.Ab
open Go Go.Proofs
set_option maxRecDepth 100000
noncomputable section
abbrev bx0:List BSh:=[.box 9 .leaf]
abbrev bx1:List BSh:=[.box 9 .leaf,.box 73 .leaf]
abbrev bx2:List BSh:=[.box 3 .leaf,.box 68 .leaf]
abbrev bx3:List BSh:=[.box 9 .leaf,.box 116 .leaf]
abbrev bx4:List BSh:=[.box 90 (.agg 90 [.leaf,.leaf]),.map 104 3]
abbrev bx5:List BSh:=[.box 90 (.agg 90 [.leaf,.leaf]),.map 104 3,.box 63 .leaf,.box 73 .leaf]
abbrev bx6:List BSh:=[.box 90 (.agg 90 [.leaf,.leaf]),.map 104 3,.box 68 .leaf,.box 63 .leaf]
abbrev bx7:List BSh:=[.box 90 (.agg 90 [.leaf,.leaf]),.map 104 3,.box 57 .leaf,.box 63 .leaf,.box 116 .leaf]
abbrev bx8:List BSh:=[.box 24 .leaf,.box 48 .leaf]
abbrev bx9:List BSh:=[.box 24 .leaf]
abbrev bx10:List BSh:=[.box 48 .leaf]
abbrev bx11:List BSh:=[.box 39 .leaf,.box 73 .leaf]
abbrev bx12:List BSh:=[.box 39 .leaf,.acc]
abbrev bx13:List BSh:=[.box 149 (.agg 149 [.leaf,.leaf]),.acc]
abbrev bx14:List BSh:=[.box 39 .leaf]
abbrev bx15:List BSh:=[.arr 4 0,.box 39 .leaf,.box 73 .leaf]
abbrev bx16:List BSh:=[.box 39 .leaf,.arr 4 0]
abbrev bx17:List BSh:=[.box 73 .leaf,.box 68 .leaf]
abbrev bx18:List BSh:=[.box 39 .leaf,.box 68 .leaf,.box 63 .leaf]
abbrev bx19:List BSh:=[.box 39 .leaf,.box 73 .leaf,.box 149 (.agg 149 [.leaf,.leaf]),.acc,.box 68 .leaf]
abbrev bx20:List BSh:=[.box 39 .leaf,.box 73 .leaf,.box 149 (.agg 149 [.leaf,.leaf]),.acc]
abbrev bx21:List BSh:=[.box 116 .leaf,.box 149 (.agg 149 [.leaf,.leaf]),.acc,.box 164 .leaf]
abbrev bx22:List BSh:=[.box 116 .leaf,.box 149 (.agg 149 [.leaf,.leaf]),.acc]
abbrev bx23:List BSh:=[.box 39 .leaf,.box 120 .leaf,.box 149 (.agg 149 [.leaf,.leaf]),.acc]
abbrev bx24:List BSh:=[.box 39 .leaf,.box 149 (.agg 149 [.leaf,.leaf]),.acc]
abbrev bx25:List BSh:=[.box 73 (.agg 73 [.leaf,.leaf,.leaf,.leaf,.leaf]),.box 73 (.agg 73 [.leaf,.leaf,.leaf,.leaf,.leaf]),.box 73 (.agg 73 [.leaf,.leaf,.leaf,.leaf,.leaf]),.acc,.acc]
abbrev bx26:List BSh:=[.box 116 (.agg 116 [.leaf,.leaf,.leaf,.leaf,.leaf]),.box 116 (.agg 116 [.leaf,.leaf,.leaf,.leaf,.leaf]),.box 116 (.agg 116 [.leaf,.leaf,.leaf,.leaf,.leaf]),.acc,.acc]
abbrev bx27:List BSh:=[.box 120 (.agg 120 [.leaf,.leaf,.leaf]),.box 120 (.agg 120 [.leaf,.leaf,.leaf]),.box 120 (.agg 120 [.leaf,.leaf,.leaf]),.acc,.acc]
abbrev bx28:List BSh:=[.box 39 (.agg 39 [.leaf,.leaf,.leaf]),.box 39 (.agg 39 [.leaf,.leaf,.leaf]),.box 39 (.agg 39 [.leaf,.leaf,.leaf]),.acc,.acc,.acc,.acc,.acc,.acc]
abbrev bx29:List BSh:=[.box 39 .leaf,.box 124 (.agg 124 [.leaf,.leaf,.leaf,.leaf,.leaf,.leaf]),.box 124 (.agg 124 [.leaf,.leaf,.leaf,.leaf,.leaf,.leaf]),.acc,.acc,.acc,.acc,.box 73 (.agg 73 [.leaf,.leaf,.leaf,.leaf,.leaf]),.box 73 (.agg 73 [.leaf,.leaf,.leaf,.leaf,.leaf]),.acc]
abbrev bx30:List BSh:=[.box 39 .leaf,.box 124 (.agg 124 [.leaf,.leaf,.leaf,.leaf,.leaf,.leaf]),.box 124 (.agg 124 [.leaf,.leaf,.leaf,.leaf,.leaf,.leaf]),.acc,.acc,.acc,.acc]
abbrev bx31:List BSh:=[.box 39 .leaf,.box 124 (.agg 124 [.leaf,.leaf,.leaf,.leaf,.leaf,.leaf]),.box 124 (.agg 124 [.leaf,.leaf,.leaf,.leaf,.leaf,.leaf]),.acc,.acc,.acc,.acc,.box 120 (.agg 120 [.leaf,.leaf,.leaf]),.box 120 (.agg 120 [.leaf,.leaf,.leaf]),.acc]
abbrev bx32:List BSh:=[.box 124 .leaf,.box 73 .leaf]
abbrev bx33:List BSh:=[.box 124 .leaf]
abbrev bx34:List BSh:=[.box 63 .leaf,.box 63 .leaf]
abbrev bx35:List BSh:=[.box 73 .leaf,.box 73 .leaf]
abbrev bx36:List BSh:=[.box 116 .leaf,.box 116 .leaf]
abbrev bx37:List BSh:=[.box 120 .leaf,.box 120 .leaf]
abbrev bx38:List BSh:=[.box 39 .leaf,.box 39 .leaf]
abbrev bx39:List BSh:=[.box 24 .leaf,.box 42 .leaf]
abbrev sv0:List Shape:=[(.con (.ref 0 [] 9)),.str]
abbrev sv1:List Shape:=[.str,(.data 73)]
abbrev sv2:List Shape:=[(.data 39),.str]
abbrev sv3:List Shape:=[(.int .i64),.str]
abbrev sv4:List Shape:=[(.slice 65),.str]
abbrev sv5:List Shape:=[(.int .i64),(.data 68)]
abbrev sv6:List Shape:=[.str,(.data 116)]
abbrev sv11:List Shape:=[(.data 24),(.data 48)]
abbrev sv13:List Shape:=[.bool,(.data 24)]
abbrev sv15:List Shape:=[(.int .i64),(.int .i64)]
abbrev sv16:List Shape:=[(.data 24),(.int .i64)]
abbrev sv17:List Shape:=[(.int .i64),(.data 24)]
abbrev sv19:List Shape:=[.str,(.int .i64)]
abbrev sv21:List Shape:=[(.int .i64),(.data 48)]
abbrev sv22:List Shape:=[(.data 39),(.data 73)]
abbrev sv24:List Shape:=[(.acc 1 9),(.data 39)]
abbrev sv26:List Shape:=[.str,(.acc 1 188)]
abbrev sv27:List Shape:=[(.slice 9),(.int .i64)]
abbrev sv29:List Shape:=[(.int .i64),(.data 39)]
abbrev sv32:List Shape:=[(.data 39),(.slice 4)]
abbrev sv33:List Shape:=[(.slice 219),(.int .i64)]
abbrev sv34:List Shape:=[(.data 73),(.data 68)]
abbrev sv35:List Shape:=[(.data 63),(.data 63)]
abbrev sv38:List Shape:=[.str,(.acc 2 188)]
abbrev sv39:List Shape:=[.str,(.acc 3 188)]
abbrev sv52:List Shape:=[.bool,(.data 124)]
abbrev sv55:List Shape:=[(.int .i64),(.data 124)]
abbrev sv58:List Shape:=[.str,(.data 124)]
abbrev sv62:List Shape:=[(.data 73),(.data 73)]
abbrev sv63:List Shape:=[(.data 116),(.data 116)]
abbrev sv64:List Shape:=[(.data 120),(.data 120)]
abbrev sv67:List Shape:=[(.data 39),(.data 39)]
abbrev sv68:List Shape:=[(.data 24),(.data 42)]
abbrev sv8:List Shape:=[(.data 39),(.con (.mref 1)),(.map 104 3)]
abbrev sv12:List Shape:=(.int .i64)::sv17
abbrev sv14:List Shape:=(.data 24)::sv19
abbrev sv18:List Shape:=(.con (.ref 0 [] 24))::sv17
abbrev sv20:List Shape:=.str::sv19
abbrev sv28:List Shape:=(.con (.ref 0 [] 39))::sv29
abbrev sv30:List Shape:=(.slice 4)::sv22
abbrev sv31:List Shape:=(.int .i64)::sv32
abbrev sv36:List Shape:=[(.data 39),(.data 68),(.data 63)]
abbrev sv44:List Shape:=[(.slice 219),(.slice 9),(.slice 65)]
abbrev sv48:List Shape:=[(.int .i64),(.data 124),(.data 73)]
abbrev sv50:List Shape:=(.con (.ref 0 [] 124))::sv52
abbrev sv57:List Shape:=(.con (.ref 0 [] 124))::sv58
abbrev sv60:List Shape:=.bool::sv35
abbrev sv66:List Shape:=.bool::sv67
abbrev sv7:List Shape:=(.data 63)::sv8
abbrev sv10:List Shape:=(.int .i64)::(.int .i64)::sv11
abbrev sv25:List Shape:=(.int .i64)::(.int .i64)::sv26
abbrev sv37:List Shape:=(.data 39)::(.data 73)::sv39
abbrev sv42:List Shape:=(.int .i64)::(.data 39)::sv38
abbrev sv43:List Shape:=(.con (.ref 1 [] 149))::(.data 39)::sv38
abbrev sv49:List Shape:=(.con (.ref 0 [] 124))::.bool::sv55
abbrev sv54:List Shape:=(.con (.ref 0 [] 124))::(.int .i64)::sv55
abbrev sv56:List Shape:=(.con (.ref 0 [] 124))::.str::sv55
abbrev sv61:List Shape:=(.con (.ref 0 [] 63))::(.con (.ref 1 [] 63))::sv35
abbrev sv9:List Shape:=[(.data 39),(.con (.mref 1)),(.map 104 3),(.data 68),(.data 63)]
abbrev sv23:List Shape:=(.int .i64)::(.con (.ref 0 [] 39))::(.acc 1 9)::sv29
abbrev sv41:List Shape:=(.con (.ref 0 [] 39))::sv43
abbrev sv51:List Shape:=(.con (.ref 0 [] 124))::.bool::(.int .i64)::sv55
abbrev sv53:List Shape:=(.con (.ref 0 [] 124))::(.int .i64)::(.int .i64)::sv55
abbrev sv59:List Shape:=(.con (.ref 0 [] 63))::(.con (.ref 1 [] 63))::(.int .i64)::sv35
abbrev sv65:List Shape:=(.con (.ref 0 [] 39))::(.con (.ref 1 [] 39))::(.int .i64)::sv67
abbrev sv40:List Shape:=(.con (.ref 0 [] 39))::(.con (.ref 1 [] 149))::sv42
abbrev sv46:List Shape:=[(.con (.ref 1 [] 39)),(.con (.ref 2 [] 39)),(.slice 73),(.slice 116),(.slice 120),(.acc 3 73),(.acc 4 116),(.acc 5 120),(.acc 6 73),(.acc 7 116),(.acc 8 120)]
abbrev sv45:List Shape:=[(.con (.ref 0 [] 39)),(.con (.ref 1 [] 39)),(.con (.ref 2 [] 39)),(.int .i64),(.slice 73),(.slice 116),(.slice 120),(.acc 3 73),(.acc 4 116),(.acc 5 120),(.acc 6 73),(.acc 7 116),(.acc 8 120)]
abbrev sv47:List Shape:=[(.data 39),.str,.str,(.slice 9),(.acc 3 73),(.slice 116),(.acc 4 120),.str,.str,(.slice 9),(.acc 5 73),(.slice 116),(.acc 6 120)]
def F55 (uu:Nat) (a0:PV) (a1:Unit) (a2:List UInt8):Option (Bool×(List UInt8)):=
 some ((((a0.fld 0).asStr)==a2),a2)
def F55c (uu:Nat):CallE:=⟨55,⟨2,bx0,(.data 73)::sv0⟩,⟨1,bx0,[.bool,.str]⟩,fun x=>F55 uu x.1 x.2.1 x.2.2,(false,[])⟩
theorem F55ok (uu:Nat):(F55c uu).Ok Tryz.prog:=okJ Tryz.f55 8 1 uu [] [] false (q0) (p0) L0
abbrev S54_3x:=Unit×Unit×(List PV)×Int×Int×(List UInt8)×PV
abbrev S54_3y:=(Unit×Bool×(List UInt8)×PV)⊕(Unit×(List UInt8)×PV)
def S54_3 (uu:Nat) (a2:Unit) (a3:Unit) (a4:List PV) (a5:Int) (a6:Int) (a7:List UInt8) (a8:PV):Option (S54_3x⊕S54_3y):=
 bif (decide (a6<a5)) then
 bif aaa a6 a4.length then
 let x10:=a4.getD a6.toNat .bad
 (F55 uu x10 () a7).bind fun y11=>
 bif y11.1 then
 some (.inr (.inl ((),true,y11.2,x10)))
 else
 some (.inl ((),(),a4,a5,(IntKind.wrap .i64 (a6+(1:Int))),y11.2,a8))
 else none
 else
 some (.inr (.inr ((),a7,a8)))
def S54_3step (uu:Nat) (x:S54_3x):Option (S54_3x⊕S54_3y):=S54_3 uu x.1 x.2.1 x.2.2.1 x.2.2.2.1 x.2.2.2.2.1 x.2.2.2.2.2.1 x.2.2.2.2.2.2
def F54 (uu:Nat) (a0:List PV) (a1:Unit) (a2:List UInt8):Option (PV×Bool×(List UInt8)):=
 (aaf uu (S54_3step uu) ((),(),a0,(a0.length:Int),(0:Int),a2,(PV.agg [(PV.str ([]:List UInt8)),(PV.slice []),(PV.slice []),(PV.slice []),(PV.slice [])]))).bind fun z=>sumE (fun y13=>
 some (y13.2.2.2,y13.2.1,y13.2.2.1)
 ) (fun y14=>
 some ((PV.agg [(PV.str ([]:List UInt8)),(PV.slice []),(PV.slice []),(PV.slice []),(PV.slice [])]),false,y14.2.1)
 ) z
def S54_3l (uu:Nat):LoopE:=⟨3,⟨[1,4,9,10,11],bx1,(.con (.fn 55 0 [(.ref 0 [] 9)]))::(.con (.ref 1 [] 73))::(.slice 73)::(.int .i64)::(.int .i64)::sv1⟩,[(.ret,⟨[4,5],bx1,(.con (.ref 1 [] 73))::.bool::sv1⟩),(.exit 0,⟨[4],bx1,(.con (.ref 1 [] 73))::sv1⟩)],S54_3step uu⟩
def F54C (uu:Nat):Cfg:=cfg Tryz.prog 21 1 [F55c uu] [S54_3l uu] uu
def F54c (uu:Nat):CallE:=⟨54,⟨2,bx0,[(.slice 73),(.con (.fn 55 0 [(.ref 0 [] 9)])),.str]⟩,⟨2,bx0,[(.data 73),.bool,.str]⟩,fun x=>F54 uu x.1 x.2.1 x.2.2,(PV.bad,false,[])⟩
theorem F54k (uu:Nat):aai (F54C uu):=aac (qc (F55ok uu)<|q0) (p0)
theorem S54_3ok (uu:Nat):LoopOk (F54C uu) (lp (aag Tryz.f54) 0):=okL (F54k uu) uu (S54_3l uu) L0
theorem F54ok (uu:Nat):(F54c uu).Ok Tryz.prog:=okE Tryz.f54 (F54k uu) (L1 (S54_3ok uu))
def F40 (uu:Nat) (a0:PV) (a1:List UInt8):Option (PV×Bool):=
 (F54 uu ((a0.fld 0).asList) () a1).bind fun y2=>
 some (y2.1,y2.2.1)
def F40c (uu:Nat):CallE:=⟨40,⟨2,[],sv2⟩,⟨2,[],[(.data 73),.bool]⟩,fun x=>F40 uu x.1 x.2,(PV.bad,false)⟩
theorem F40ok (uu:Nat):(F40c uu).Ok Tryz.prog:=okJ Tryz.f40 12 0 uu _ [] false (qc (F54ok uu)<|q0) (p0) L0
def F129 (uu:Nat) (a0:PV) (a1:Unit) (a2:List UInt8):Option (Bool×(List UInt8)):=
 some ((((a0.fld 0).asStr)==a2),a2)
def F129c (uu:Nat):CallE:=⟨129,⟨2,bx0,(.data 65)::sv0⟩,⟨1,bx0,[.bool,.str]⟩,fun x=>F129 uu x.1 x.2.1 x.2.2,(false,[])⟩
theorem F129ok (uu:Nat):(F129c uu).Ok Tryz.prog:=okJ Tryz.f129 8 1 uu [] [] false (q0) (p0) L0
abbrev S128_3x:=(List PV)×Unit×Int×Int×(List UInt8)
abbrev S128_3y:=(Int×(List UInt8))⊕((List UInt8))
def S128_3 (uu:Nat) (a2:List PV) (a3:Unit) (a4:Int) (a5:Int) (a6:List UInt8):Option (S128_3x⊕S128_3y):=
 bif (decide (a5<a4)) then
 bif aaa a5 a2.length then
 (F129 uu (a2.getD a5.toNat .bad) () a6).bind fun y9=>
 bif y9.1 then
 some (.inr (.inl (a5,y9.2)))
 else
 some (.inl (a2,(),a4,(IntKind.wrap .i64 (a5+(1:Int))),y9.2))
 else none
 else
 some (.inr (.inr a6))
def S128_3step (uu:Nat) (x:S128_3x):Option (S128_3x⊕S128_3y):=S128_3 uu x.1 x.2.1 x.2.2.1 x.2.2.2.1 x.2.2.2.2
def F128 (uu:Nat) (a0:List PV) (a1:Unit) (a2:List UInt8):Option (Int×(List UInt8)):=
 (aaf uu (S128_3step uu) (a0,(),(a0.length:Int),(0:Int),a2)).bind fun z=>sumE (fun y11=>
 some (y11.1,y11.2)
 ) (fun y12=>
 some ((-1:Int),y12)
 ) z
def S128_3l (uu:Nat):LoopE:=⟨3,⟨[0,1,7,8],bx0,(.slice 65)::(.con (.fn 129 0 [(.ref 0 [] 9)]))::(.int .i64)::sv3⟩,[(.ret,⟨[4],bx0,sv3⟩),(.exit 0,⟨[],bx0,[.str]⟩)],S128_3step uu⟩
def F128C (uu:Nat):Cfg:=cfg Tryz.prog 19 1 [F129c uu] [S128_3l uu] uu
def F128c (uu:Nat):CallE:=⟨128,⟨2,bx0,[(.slice 65),(.con (.fn 129 0 [(.ref 0 [] 9)])),.str]⟩,⟨1,bx0,sv3⟩,fun x=>F128 uu x.1 x.2.1 x.2.2,(0,[])⟩
theorem F128k (uu:Nat):aai (F128C uu):=aac (qc (F129ok uu)<|q0) (p0)
theorem S128_3ok (uu:Nat):LoopOk (F128C uu) (lp (aag Tryz.f128) 0):=okL (F128k uu) uu (S128_3l uu) L0
theorem F128ok (uu:Nat):(F128c uu).Ok Tryz.prog:=okE Tryz.f128 (F128k uu) (L1 (S128_3ok uu))
def F80 (uu:Nat) (a0:List PV) (a1:List UInt8):Option (Int):=
 (F128 uu a0 () a1).bind fun y1=>
 some y1.1
def F80c (uu:Nat):CallE:=⟨80,⟨2,[],sv4⟩,⟨1,[],[(.int .i64)]⟩,fun x=>F80 uu x.1 x.2,0⟩
theorem F80ok (uu:Nat):(F80c uu).Ok Tryz.prog:=okJ Tryz.f80 8 0 uu _ [] false (qc (F128ok uu)<|q0) (p0) L0
def F56 (uu:Nat) (a0:List PV) (a1:List UInt8):Option (PV×Bool):=
 (F80 uu a0 a1).bind fun y1=>
 bif (decide (y1<(0:Int))) then
 some ((PV.agg [(PV.int (0:Int)),(PV.int (0:Int)),(PV.str ([]:List UInt8)),(PV.slice []),(PV.slice []),(PV.slice []),(PV.slice [])]),false)
 else
 bif aaa y1 a0.length then
 some (((a0.getD y1.toNat .bad).fld 1),true)
 else none
def F56c (uu:Nat):CallE:=⟨56,⟨2,[],sv4⟩,⟨2,[],[(.data 63),.bool]⟩,fun x=>F56 uu x.1 x.2,(PV.bad,false)⟩
theorem F56ok (uu:Nat):(F56c uu).Ok Tryz.prog:=okJ Tryz.f56 18 0 uu _ [] false (qc (F80ok uu)<|q0) (p0) L0
def F41 (uu:Nat) (a0:List PV) (a1:List UInt8):Option (Bool):=
 (F56 uu a0 a1).bind fun y1=>
 let x2:=y1.1
 some (bif (bif y1.2 then (((x2.fld 0).asInt)==(1:Int)) else false) then (((x2.fld 1).asInt)==(1:Int)) else false)
def F41c (uu:Nat):CallE:=⟨41,⟨2,[],sv4⟩,⟨1,[],[.bool]⟩,fun x=>F41 uu x.1 x.2,false⟩
theorem F41ok (uu:Nat):(F41c uu).Ok Tryz.prog:=okJ Tryz.f41 24 0 uu _ [] false (qc (F56ok uu)<|q0) (p0) L0
def F58 (uu:Nat) (a0:PV) (a1:Unit) (a2:Int):Option (Bool×Int):=
 some ((((a0.fld 0).asInt)==a2),a2)
def F58c (uu:Nat):CallE:=⟨58,⟨2,[.box 3 .leaf],[(.data 68),(.con (.ref 0 [] 3)),(.int .i64)]⟩,⟨1,[.box 3 .leaf],[.bool,(.int .i64)]⟩,fun x=>F58 uu x.1 x.2.1 x.2.2,(false,0)⟩
theorem F58ok (uu:Nat):(F58c uu).Ok Tryz.prog:=okJ Tryz.f58 8 1 uu [] [] false (q0) (p0) L0
abbrev S57_3x:=Unit×Unit×(List PV)×Int×Int×Int×PV
abbrev S57_3y:=(Unit×Bool×Int×PV)⊕(Unit×Int×PV)
def S57_3 (uu:Nat) (a2:Unit) (a3:Unit) (a4:List PV) (a5:Int) (a6:Int) (a7:Int) (a8:PV):Option (S57_3x⊕S57_3y):=
 bif (decide (a6<a5)) then
 bif aaa a6 a4.length then
 let x10:=a4.getD a6.toNat .bad
 (F58 uu x10 () a7).bind fun y11=>
 bif y11.1 then
 some (.inr (.inl ((),true,y11.2,x10)))
 else
 some (.inl ((),(),a4,a5,(IntKind.wrap .i64 (a6+(1:Int))),y11.2,a8))
 else none
 else
 some (.inr (.inr ((),a7,a8)))
def S57_3step (uu:Nat) (x:S57_3x):Option (S57_3x⊕S57_3y):=S57_3 uu x.1 x.2.1 x.2.2.1 x.2.2.2.1 x.2.2.2.2.1 x.2.2.2.2.2.1 x.2.2.2.2.2.2
def F57 (uu:Nat) (a0:List PV) (a1:Unit) (a2:Int):Option (PV×Bool×Int):=
 (aaf uu (S57_3step uu) ((),(),a0,(a0.length:Int),(0:Int),a2,(PV.agg [(PV.int (0:Int)),(PV.str ([]:List UInt8)),(PV.int (0:Int)),(PV.int (0:Int)),(PV.agg [(PV.int (0:Int)),(PV.str ([]:List UInt8))]),(PV.str ([]:List UInt8)),(PV.bool false),(PV.agg [(PV.int (0:Int)),(PV.int (0:Int)),(PV.str ([]:List UInt8)),(PV.slice []),(PV.slice []),(PV.slice []),(PV.slice [])]),(PV.slice [])]))).bind fun z=>sumE (fun y13=>
 some (y13.2.2.2,y13.2.1,y13.2.2.1)
 ) (fun y14=>
 some ((PV.agg [(PV.int (0:Int)),(PV.str ([]:List UInt8)),(PV.int (0:Int)),(PV.int (0:Int)),(PV.agg [(PV.int (0:Int)),(PV.str ([]:List UInt8))]),(PV.str ([]:List UInt8)),(PV.bool false),(PV.agg [(PV.int (0:Int)),(PV.int (0:Int)),(PV.str ([]:List UInt8)),(PV.slice []),(PV.slice []),(PV.slice []),(PV.slice [])]),(PV.slice [])]),false,y14.2.1)
 ) z
def S57_3l (uu:Nat):LoopE:=⟨3,⟨[1,4,9,10,11],bx2,(.con (.fn 58 0 [(.ref 0 [] 3)]))::(.con (.ref 1 [] 68))::(.slice 68)::(.int .i64)::(.int .i64)::sv5⟩,[(.ret,⟨[4,5],bx2,(.con (.ref 1 [] 68))::.bool::sv5⟩),(.exit 0,⟨[4],bx2,(.con (.ref 1 [] 68))::sv5⟩)],S57_3step uu⟩
def F57C (uu:Nat):Cfg:=cfg Tryz.prog 21 1 [F58c uu] [S57_3l uu] uu
def F57c (uu:Nat):CallE:=⟨57,⟨2,[.box 3 .leaf],[(.slice 68),(.con (.fn 58 0 [(.ref 0 [] 3)])),(.int .i64)]⟩,⟨2,[.box 3 .leaf],[(.data 68),.bool,(.int .i64)]⟩,fun x=>F57 uu x.1 x.2.1 x.2.2,(PV.bad,false,0)⟩
theorem F57k (uu:Nat):aai (F57C uu):=aac (qc (F58ok uu)<|q0) (p0)
theorem S57_3ok (uu:Nat):LoopOk (F57C uu) (lp (aag Tryz.f57) 0):=okL (F57k uu) uu (S57_3l uu) L0
theorem F57ok (uu:Nat):(F57c uu).Ok Tryz.prog:=okE Tryz.f57 (F57k uu) (L1 (S57_3ok uu))
def F42 (uu:Nat) (a0:PV) (a1:Int):Option (PV×Bool):=
 (F57 uu ((a0.fld 1).asList) () a1).bind fun y2=>
 some (y2.1,y2.2.1)
def F42c (uu:Nat):CallE:=⟨42,⟨2,[],[(.data 73),(.int .i64)]⟩,⟨2,[],[(.data 68),.bool]⟩,fun x=>F42 uu x.1 x.2,(PV.bad,false)⟩
theorem F42ok (uu:Nat):(F42c uu).Ok Tryz.prog:=okJ Tryz.f42 12 0 uu _ [] false (qc (F57ok uu)<|q0) (p0) L0
def F131 (uu:Nat) (a0:PV) (a1:Unit) (a2:List UInt8):Option (Bool×(List UInt8)):=
 some ((((a0.fld 0).asStr)==a2),a2)
def F131c (uu:Nat):CallE:=⟨131,⟨2,bx0,(.data 116)::sv0⟩,⟨1,bx0,[.bool,.str]⟩,fun x=>F131 uu x.1 x.2.1 x.2.2,(false,[])⟩
theorem F131ok (uu:Nat):(F131c uu).Ok Tryz.prog:=okJ Tryz.f131 8 1 uu [] [] false (q0) (p0) L0
abbrev S130_3x:=Unit×Unit×(List PV)×Int×Int×(List UInt8)×PV
abbrev S130_3y:=(Unit×Bool×(List UInt8)×PV)⊕(Unit×(List UInt8)×PV)
def S130_3 (uu:Nat) (a2:Unit) (a3:Unit) (a4:List PV) (a5:Int) (a6:Int) (a7:List UInt8) (a8:PV):Option (S130_3x⊕S130_3y):=
 bif (decide (a6<a5)) then
 bif aaa a6 a4.length then
 let x10:=a4.getD a6.toNat .bad
 (F131 uu x10 () a7).bind fun y11=>
 bif y11.1 then
 some (.inr (.inl ((),true,y11.2,x10)))
 else
 some (.inl ((),(),a4,a5,(IntKind.wrap .i64 (a6+(1:Int))),y11.2,a8))
 else none
 else
 some (.inr (.inr ((),a7,a8)))
def S130_3step (uu:Nat) (x:S130_3x):Option (S130_3x⊕S130_3y):=S130_3 uu x.1 x.2.1 x.2.2.1 x.2.2.2.1 x.2.2.2.2.1 x.2.2.2.2.2.1 x.2.2.2.2.2.2
def F130 (uu:Nat) (a0:List PV) (a1:Unit) (a2:List UInt8):Option (PV×Bool×(List UInt8)):=
 (aaf uu (S130_3step uu) ((),(),a0,(a0.length:Int),(0:Int),a2,(PV.agg [(PV.str ([]:List UInt8)),(PV.bool false),(PV.slice []),(PV.slice []),(PV.slice [])]))).bind fun z=>sumE (fun y13=>
 some (y13.2.2.2,y13.2.1,y13.2.2.1)
 ) (fun y14=>
 some ((PV.agg [(PV.str ([]:List UInt8)),(PV.bool false),(PV.slice []),(PV.slice []),(PV.slice [])]),false,y14.2.1)
 ) z
def S130_3l (uu:Nat):LoopE:=⟨3,⟨[1,4,9,10,11],bx3,(.con (.fn 131 0 [(.ref 0 [] 9)]))::(.con (.ref 1 [] 116))::(.slice 116)::(.int .i64)::(.int .i64)::sv6⟩,[(.ret,⟨[4,5],bx3,(.con (.ref 1 [] 116))::.bool::sv6⟩),(.exit 0,⟨[4],bx3,(.con (.ref 1 [] 116))::sv6⟩)],S130_3step uu⟩
def F130C (uu:Nat):Cfg:=cfg Tryz.prog 21 1 [F131c uu] [S130_3l uu] uu
def F130c (uu:Nat):CallE:=⟨130,⟨2,bx0,[(.slice 116),(.con (.fn 131 0 [(.ref 0 [] 9)])),.str]⟩,⟨2,bx0,[(.data 116),.bool,.str]⟩,fun x=>F130 uu x.1 x.2.1 x.2.2,(PV.bad,false,[])⟩
theorem F130k (uu:Nat):aai (F130C uu):=aac (qc (F131ok uu)<|q0) (p0)
theorem S130_3ok (uu:Nat):LoopOk (F130C uu) (lp (aag Tryz.f130) 0):=okL (F130k uu) uu (S130_3l uu) L0
theorem F130ok (uu:Nat):(F130c uu).Ok Tryz.prog:=okE Tryz.f130 (F130k uu) (L1 (S130_3ok uu))
def F81 (uu:Nat) (a0:PV) (a1:List UInt8):Option (PV×Bool):=
 (F130 uu ((a0.fld 1).asList) () a1).bind fun y2=>
 some (y2.1,y2.2.1)
def F81c (uu:Nat):CallE:=⟨81,⟨2,[],sv2⟩,⟨2,[],[(.data 116),.bool]⟩,fun x=>F81 uu x.1 x.2,(PV.bad,false)⟩
theorem F81ok (uu:Nat):(F81c uu).Ok Tryz.prog:=okJ Tryz.f81 12 0 uu _ [] false (qc (F130ok uu)<|q0) (p0) L0
def B28c (r:(Unit×(List UInt8)×PV×PV×Unit×(List (PV×PV)))->Option (PV×Unit×(List (PV×PV)))):CallE:=⟨28,⟨3,bx4,(.con (.ref 0 [] 90))::.str::sv7⟩,⟨0,bx4,sv8⟩,r,(PV.bad,(),[])⟩
def B43c (r:(Unit×PV×PV×PV×Unit×(List (PV×PV)))->Option (PV×Unit×(List (PV×PV)))):CallE:=⟨43,⟨3,bx4,(.con (.ref 0 [] 90))::(.data 68)::sv7⟩,⟨0,bx4,sv8⟩,r,(PV.bad,(),[])⟩
def B59c (r:(Unit×PV×PV×PV×Unit×(List (PV×PV)))->Option (PV×Unit×(List (PV×PV)))):CallE:=⟨59,⟨3,bx4,(.con (.ref 0 [] 90))::(.data 57)::sv7⟩,⟨0,bx4,sv8⟩,r,(PV.bad,(),[])⟩
abbrev B28_7x:=Unit×(List UInt8)×Unit×(List PV)×Int×Int×PV×Unit×(List (PV×PV))×PV×PV
abbrev B28_7y:=(PV×Unit×(List (PV×PV))×PV×PV)
def B28_7 (uu:Nat) (r0:(Unit×(List UInt8)×PV×PV×Unit×(List (PV×PV)))->Option (PV×Unit×(List (PV×PV)))) (r1:(Unit×PV×PV×PV×Unit×(List (PV×PV)))->Option (PV×Unit×(List (PV×PV)))) (r2:(Unit×PV×PV×PV×Unit×(List (PV×PV)))->Option (PV×Unit×(List (PV×PV)))) (a12:Unit) (a13:List UInt8) (a14:Unit) (a15:List PV) (a16:Int) (a17:Int) (a18:PV) (a19:Unit) (a20:List (PV×PV)) (a21:PV) (a22:PV):Option (B28_7x⊕B28_7y):=
 bif (decide (a17<a16)) then
 bif aaa a17 a15.length then
 let x24:=a15.getD a17.toNat .bad
 (F42 uu a22 ((x24.fld 0).asInt)).bind fun y26=>
 let x27:=y26.1
 bif (!y26.2) then
 some (.inl ((),a13,(),a15,a16,(IntKind.wrap .i64 (a17+(1:Int))),a18,(),a20,a21,a22))
 else
 (F41 uu ((x27.fld 8).asList) ([100,101,112,114,101,99,97,116,101,100]:List UInt8)).bind fun y32=>
 bif y32 then
 let x33:=(x27.fld 0).asInt
 let x34:=((PV.mget a20 (PV.agg [(PV.str a13),(PV.int x33)])).getD (PV.int (0:Int))).asInt
 let x36:=((PV.midx a20 (PV.agg [(PV.str a13),(PV.int x33)]):Nat):Int)
 bif aaa x36 ((PV.mput a20 (PV.agg [(PV.str a13),(PV.int x33)]) ((PV.mget a20 (PV.agg [(PV.str a13),(PV.int x33)])).getD (PV.int (0:Int)))).length) then
 (r1 ((),x27,(x24.fld 1),a18,(),PV.mset (PV.mput a20 (PV.agg [(PV.str a13),(PV.int x33)]) ((PV.mget a20 (PV.agg [(PV.str a13),(PV.int x33)])).getD (PV.int (0:Int)))) x36.toNat (PV.int (IntKind.wrap .i64 (x34+(1:Int)))))).bind fun y38=>
 some (.inl ((),a13,(),a15,a16,(IntKind.wrap .i64 (a17+(1:Int))),y38.1,(),y38.2.2,a21,a22))
 else none
 else
 (r1 ((),x27,(x24.fld 1),a18,(),a20)).bind fun y41=>
 some (.inl ((),a13,(),a15,a16,(IntKind.wrap .i64 (a17+(1:Int))),y41.1,(),y41.2.2,a21,a22))
 else none
 else
 some (.inr (a18,(),a20,a21,a22))
def B28_7step (uu:Nat) (r0:(Unit×(List UInt8)×PV×PV×Unit×(List (PV×PV)))->Option (PV×Unit×(List (PV×PV)))) (r1:(Unit×PV×PV×PV×Unit×(List (PV×PV)))->Option (PV×Unit×(List (PV×PV)))) (r2:(Unit×PV×PV×PV×Unit×(List (PV×PV)))->Option (PV×Unit×(List (PV×PV)))) (x:B28_7x):Option (B28_7x⊕B28_7y):=B28_7 uu r0 r1 r2 x.1 x.2.1 x.2.2.1 x.2.2.2.1 x.2.2.2.2.1 x.2.2.2.2.2.1 x.2.2.2.2.2.2.1 x.2.2.2.2.2.2.2.1 x.2.2.2.2.2.2.2.2.1 x.2.2.2.2.2.2.2.2.2.1 x.2.2.2.2.2.2.2.2.2.2
def B28 (uu:Nat) (r0:(Unit×(List UInt8)×PV×PV×Unit×(List (PV×PV)))->Option (PV×Unit×(List (PV×PV)))) (r1:(Unit×PV×PV×PV×Unit×(List (PV×PV)))->Option (PV×Unit×(List (PV×PV)))) (r2:(Unit×PV×PV×PV×Unit×(List (PV×PV)))->Option (PV×Unit×(List (PV×PV)))) (a0:Unit) (a1:List UInt8) (a2:PV) (a3:PV) (a4:Unit) (a5:List (PV×PV)):Option (PV×Unit×(List (PV×PV))):=
 (F40 uu a3 a1).bind fun y1=>
 let x2:=y1.1
 bif (!y1.2) then
 some (a3,(),a5)
 else
 (F41 uu ((x2.fld 4).asList) ([100,101,112,114,101,99,97,116,101,100]:List UInt8)).bind fun y6=>
 bif y6 then
 let x7:=((PV.mget a5 (PV.agg [(PV.str a1),(PV.int (-1:Int))])).getD (PV.int (0:Int))).asInt
 let x9:=((PV.midx a5 (PV.agg [(PV.str a1),(PV.int (-1:Int))]):Nat):Int)
 bif aaa x9 ((PV.mput a5 (PV.agg [(PV.str a1),(PV.int (-1:Int))]) ((PV.mget a5 (PV.agg [(PV.str a1),(PV.int (-1:Int))])).getD (PV.int (0:Int)))).length) then
 let x10:=(a2.fld 5).asList
 (aaf uu (B28_7step uu r0 r1 r2) ((),a1,(),x10,(x10.length:Int),(0:Int),a3,(),PV.mset (PV.mput a5 (PV.agg [(PV.str a1),(PV.int (-1:Int))]) ((PV.mget a5 (PV.agg [(PV.str a1),(PV.int (-1:Int))])).getD (PV.int (0:Int)))) x9.toNat (PV.int (IntKind.wrap .i64 (x7+(1:Int)))),a2,x2)).bind fun y43=>
 some (y43.1,(),y43.2.2.1)
 else none
 else
 let x44:=(a2.fld 5).asList
 (aaf uu (B28_7step uu r0 r1 r2) ((),a1,(),x44,(x44.length:Int),(0:Int),a3,(),a5,a2,x2)).bind fun y46=>
 some (y46.1,(),y46.2.2.1)
def B28_7l (uu:Nat) (r0:(Unit×(List UInt8)×PV×PV×Unit×(List (PV×PV)))->Option (PV×Unit×(List (PV×PV)))) (r1:(Unit×PV×PV×PV×Unit×(List (PV×PV)))->Option (PV×Unit×(List (PV×PV)))) (r2:(Unit×PV×PV×PV×Unit×(List (PV×PV)))->Option (PV×Unit×(List (PV×PV)))):LoopE:=⟨7,⟨[0,1,6,37,38,39],bx5,[(.con (.ref 0 [] 90)),.str,(.con (.ref 3 [] 73)),(.slice 77),(.int .i64),(.int .i64),(.data 39),(.con (.mref 1)),(.map 104 3),(.data 63),(.data 73)]⟩,[(.exit 0,⟨[],bx5,[(.data 39),(.con (.mref 1)),(.map 104 3),(.data 63),(.data 73)]⟩)],B28_7step uu r0 r1 r2⟩
def B28C (uu:Nat) (r0:(Unit×(List UInt8)×PV×PV×Unit×(List (PV×PV)))->Option (PV×Unit×(List (PV×PV)))) (r1:(Unit×PV×PV×PV×Unit×(List (PV×PV)))->Option (PV×Unit×(List (PV×PV)))) (r2:(Unit×PV×PV×PV×Unit×(List (PV×PV)))->Option (PV×Unit×(List (PV×PV)))):Cfg:=cfg Tryz.prog 73 2 [F40c uu,F41c uu,F42c uu,B43c r1] [B28_7l uu r0 r1 r2] uu
theorem B28k (uu:Nat) (r0:(Unit×(List UInt8)×PV×PV×Unit×(List (PV×PV)))->Option (PV×Unit×(List (PV×PV)))) (r1:(Unit×PV×PV×PV×Unit×(List (PV×PV)))->Option (PV×Unit×(List (PV×PV)))) (r2:(Unit×PV×PV×PV×Unit×(List (PV×PV)))->Option (PV×Unit×(List (PV×PV)))) (h0:(B28c r0).Ok Tryz.prog) (h1:(B43c r1).Ok Tryz.prog) (h2:(B59c r2).Ok Tryz.prog):aai (B28C uu r0 r1 r2):=aac (qc (F40ok uu)<|qc (F41ok uu)<|qc (F42ok uu)<|qc h1<|q0) (p0)
theorem B28_7ok (uu:Nat) (r0:(Unit×(List UInt8)×PV×PV×Unit×(List (PV×PV)))->Option (PV×Unit×(List (PV×PV)))) (r1:(Unit×PV×PV×PV×Unit×(List (PV×PV)))->Option (PV×Unit×(List (PV×PV)))) (r2:(Unit×PV×PV×PV×Unit×(List (PV×PV)))->Option (PV×Unit×(List (PV×PV)))) (h0:(B28c r0).Ok Tryz.prog) (h1:(B43c r1).Ok Tryz.prog) (h2:(B59c r2).Ok Tryz.prog):LoopOk (B28C uu r0 r1 r2) (lp (aag Tryz.f28) 0):=okL (B28k uu r0 r1 r2 h0 h1 h2) uu (B28_7l uu r0 r1 r2) L0
theorem B28ok (uu:Nat) (r0:(Unit×(List UInt8)×PV×PV×Unit×(List (PV×PV)))->Option (PV×Unit×(List (PV×PV)))) (r1:(Unit×PV×PV×PV×Unit×(List (PV×PV)))->Option (PV×Unit×(List (PV×PV)))) (r2:(Unit×PV×PV×PV×Unit×(List (PV×PV)))->Option (PV×Unit×(List (PV×PV)))) (h0:(B28c r0).Ok Tryz.prog) (h1:(B43c r1).Ok Tryz.prog) (h2:(B59c r2).Ok Tryz.prog):(B28c (fun x=>B28 uu r0 r1 r2 x.1 x.2.1 x.2.2.1 x.2.2.2.1 x.2.2.2.2.1 x.2.2.2.2.2)).Ok Tryz.prog:=okE Tryz.f28 (B28k uu r0 r1 r2 h0 h1 h2) (L1 (B28_7ok uu r0 r1 r2 h0 h1 h2))
abbrev B43_6x:=Unit×Unit×(List PV)×Int×Int×PV×Unit×(List (PV×PV))×PV×PV
abbrev B43_6y:=(PV×Unit×(List (PV×PV))×PV×PV)
def B43_6 (uu:Nat) (r0:(Unit×(List UInt8)×PV×PV×Unit×(List (PV×PV)))->Option (PV×Unit×(List (PV×PV)))) (r1:(Unit×PV×PV×PV×Unit×(List (PV×PV)))->Option (PV×Unit×(List (PV×PV)))) (r2:(Unit×PV×PV×PV×Unit×(List (PV×PV)))->Option (PV×Unit×(List (PV×PV)))) (a5:Unit) (a6:Unit) (a7:List PV) (a8:Int) (a9:Int) (a10:PV) (a11:Unit) (a12:List (PV×PV)) (a13:PV) (a14:PV):Option (B43_6x⊕B43_6y):=
 bif (decide (a9<a8)) then
 bif aaa a9 a7.length then
 (r2 ((),(a13.fld 4),(a7.getD a9.toNat .bad),a10,(),a12)).bind fun y18=>
 some (.inl ((),(),a7,a8,(IntKind.wrap .i64 (a9+(1:Int))),y18.1,(),y18.2.2,a13,a14))
 else none
 else
 some (.inr (a10,(),a12,a13,a14))
def B43_6step (uu:Nat) (r0:(Unit×(List UInt8)×PV×PV×Unit×(List (PV×PV)))->Option (PV×Unit×(List (PV×PV)))) (r1:(Unit×PV×PV×PV×Unit×(List (PV×PV)))->Option (PV×Unit×(List (PV×PV)))) (r2:(Unit×PV×PV×PV×Unit×(List (PV×PV)))->Option (PV×Unit×(List (PV×PV)))) (x:B43_6x):Option (B43_6x⊕B43_6y):=B43_6 uu r0 r1 r2 x.1 x.2.1 x.2.2.1 x.2.2.2.1 x.2.2.2.2.1 x.2.2.2.2.2.1 x.2.2.2.2.2.2.1 x.2.2.2.2.2.2.2.1 x.2.2.2.2.2.2.2.2.1 x.2.2.2.2.2.2.2.2.2
abbrev B43_12x:=Unit×Unit×(List PV)×Int×Int×PV×Unit×(List (PV×PV))×PV×PV
abbrev B43_12y:=(PV×Unit×(List (PV×PV))×PV×PV)
def B43_12 (uu:Nat) (r0:(Unit×(List UInt8)×PV×PV×Unit×(List (PV×PV)))->Option (PV×Unit×(List (PV×PV)))) (r1:(Unit×PV×PV×PV×Unit×(List (PV×PV)))->Option (PV×Unit×(List (PV×PV)))) (r2:(Unit×PV×PV×PV×Unit×(List (PV×PV)))->Option (PV×Unit×(List (PV×PV)))) (a24:Unit) (a25:Unit) (a26:List PV) (a27:Int) (a28:Int) (a29:PV) (a30:Unit) (a31:List (PV×PV)) (a32:PV) (a33:PV):Option (B43_12x⊕B43_12y):=
 bif (decide (a28<a27)) then
 bif aaa a28 a26.length then
 (r2 ((),(a32.fld 4),((a26.getD a28.toNat .bad).fld 1),a29,(),a31)).bind fun y38=>
 some (.inl ((),(),a26,a27,(IntKind.wrap .i64 (a28+(1:Int))),y38.1,(),y38.2.2,a32,a33))
 else none
 else
 some (.inr (a29,(),a31,a32,a33))
def B43_12step (uu:Nat) (r0:(Unit×(List UInt8)×PV×PV×Unit×(List (PV×PV)))->Option (PV×Unit×(List (PV×PV)))) (r1:(Unit×PV×PV×PV×Unit×(List (PV×PV)))->Option (PV×Unit×(List (PV×PV)))) (r2:(Unit×PV×PV×PV×Unit×(List (PV×PV)))->Option (PV×Unit×(List (PV×PV)))) (x:B43_12x):Option (B43_12x⊕B43_12y):=B43_12 uu r0 r1 r2 x.1 x.2.1 x.2.2.1 x.2.2.2.1 x.2.2.2.2.1 x.2.2.2.2.2.1 x.2.2.2.2.2.2.1 x.2.2.2.2.2.2.2.1 x.2.2.2.2.2.2.2.2.1 x.2.2.2.2.2.2.2.2.2
def B43 (uu:Nat) (r0:(Unit×(List UInt8)×PV×PV×Unit×(List (PV×PV)))->Option (PV×Unit×(List (PV×PV)))) (r1:(Unit×PV×PV×PV×Unit×(List (PV×PV)))->Option (PV×Unit×(List (PV×PV)))) (r2:(Unit×PV×PV×PV×Unit×(List (PV×PV)))->Option (PV×Unit×(List (PV×PV)))) (a0:Unit) (a1:PV) (a2:PV) (a3:PV) (a4:Unit) (a5:List (PV×PV)):Option (PV×Unit×(List (PV×PV))):=
 let x1:=(a1.fld 2).asInt
 bif (x1==(4:Int)) then
 let x3:=(a2.fld 3).asList
 (aaf uu (B43_6step uu r0 r1 r2) ((),(),x3,(x3.length:Int),(0:Int),a3,(),a5,a1,a2)).bind fun y20=>
 some (y20.1,(),y20.2.2.1)
 else
 bif (x1==(5:Int)) then
 let x22:=(a2.fld 4).asList
 (aaf uu (B43_12step uu r0 r1 r2) ((),(),x22,(x22.length:Int),(0:Int),a3,(),a5,a1,a2)).bind fun y40=>
 some (y40.1,(),y40.2.2.1)
 else
 (r2 ((),(a1.fld 4),a2,a3,(),a5)).bind fun y42=>
 some (y42.1,(),y42.2.2)
def B43_6l (uu:Nat) (r0:(Unit×(List UInt8)×PV×PV×Unit×(List (PV×PV)))->Option (PV×Unit×(List (PV×PV)))) (r1:(Unit×PV×PV×PV×Unit×(List (PV×PV)))->Option (PV×Unit×(List (PV×PV)))) (r2:(Unit×PV×PV×PV×Unit×(List (PV×PV)))->Option (PV×Unit×(List (PV×PV)))):LoopE:=⟨6,⟨[0,4,20,21,22],bx6,(.con (.ref 0 [] 90))::(.con (.ref 2 [] 68))::(.slice 63)::(.int .i64)::(.int .i64)::sv9⟩,[(.exit 1,⟨[],bx6,sv9⟩)],B43_6step uu r0 r1 r2⟩
def B43_12l (uu:Nat) (r0:(Unit×(List UInt8)×PV×PV×Unit×(List (PV×PV)))->Option (PV×Unit×(List (PV×PV)))) (r1:(Unit×PV×PV×PV×Unit×(List (PV×PV)))->Option (PV×Unit×(List (PV×PV)))) (r2:(Unit×PV×PV×PV×Unit×(List (PV×PV)))->Option (PV×Unit×(List (PV×PV)))):LoopE:=⟨12,⟨[0,4,35,36,37],bx6,(.con (.ref 0 [] 90))::(.con (.ref 2 [] 68))::(.slice 134)::(.int .i64)::(.int .i64)::sv9⟩,[(.exit 3,⟨[],bx6,sv9⟩)],B43_12step uu r0 r1 r2⟩
def B43C (uu:Nat) (r0:(Unit×(List UInt8)×PV×PV×Unit×(List (PV×PV)))->Option (PV×Unit×(List (PV×PV)))) (r1:(Unit×PV×PV×PV×Unit×(List (PV×PV)))->Option (PV×Unit×(List (PV×PV)))) (r2:(Unit×PV×PV×PV×Unit×(List (PV×PV)))->Option (PV×Unit×(List (PV×PV)))):Cfg:=cfg Tryz.prog 48 2 [B59c r2] [B43_6l uu r0 r1 r2,B43_12l uu r0 r1 r2] uu
theorem B43k (uu:Nat) (r0:(Unit×(List UInt8)×PV×PV×Unit×(List (PV×PV)))->Option (PV×Unit×(List (PV×PV)))) (r1:(Unit×PV×PV×PV×Unit×(List (PV×PV)))->Option (PV×Unit×(List (PV×PV)))) (r2:(Unit×PV×PV×PV×Unit×(List (PV×PV)))->Option (PV×Unit×(List (PV×PV)))) (h0:(B28c r0).Ok Tryz.prog) (h1:(B43c r1).Ok Tryz.prog) (h2:(B59c r2).Ok Tryz.prog):aai (B43C uu r0 r1 r2):=aac (qc h2<|q0) (p0)
theorem B43_6ok (uu:Nat) (r0:(Unit×(List UInt8)×PV×PV×Unit×(List (PV×PV)))->Option (PV×Unit×(List (PV×PV)))) (r1:(Unit×PV×PV×PV×Unit×(List (PV×PV)))->Option (PV×Unit×(List (PV×PV)))) (r2:(Unit×PV×PV×PV×Unit×(List (PV×PV)))->Option (PV×Unit×(List (PV×PV)))) (h0:(B28c r0).Ok Tryz.prog) (h1:(B43c r1).Ok Tryz.prog) (h2:(B59c r2).Ok Tryz.prog):LoopOk (B43C uu r0 r1 r2) (lp (aag Tryz.f43) 0):=okL (B43k uu r0 r1 r2 h0 h1 h2) uu (B43_6l uu r0 r1 r2) L0
theorem B43_12ok (uu:Nat) (r0:(Unit×(List UInt8)×PV×PV×Unit×(List (PV×PV)))->Option (PV×Unit×(List (PV×PV)))) (r1:(Unit×PV×PV×PV×Unit×(List (PV×PV)))->Option (PV×Unit×(List (PV×PV)))) (r2:(Unit×PV×PV×PV×Unit×(List (PV×PV)))->Option (PV×Unit×(List (PV×PV)))) (h0:(B28c r0).Ok Tryz.prog) (h1:(B43c r1).Ok Tryz.prog) (h2:(B59c r2).Ok Tryz.prog):LoopOk (B43C uu r0 r1 r2) (lp (aag Tryz.f43) 1):=okL (B43k uu r0 r1 r2 h0 h1 h2) uu (B43_12l uu r0 r1 r2) L0
theorem B43ok (uu:Nat) (r0:(Unit×(List UInt8)×PV×PV×Unit×(List (PV×PV)))->Option (PV×Unit×(List (PV×PV)))) (r1:(Unit×PV×PV×PV×Unit×(List (PV×PV)))->Option (PV×Unit×(List (PV×PV)))) (r2:(Unit×PV×PV×PV×Unit×(List (PV×PV)))->Option (PV×Unit×(List (PV×PV)))) (h0:(B28c r0).Ok Tryz.prog) (h1:(B43c r1).Ok Tryz.prog) (h2:(B59c r2).Ok Tryz.prog):(B43c (fun x=>B43 uu r0 r1 r2 x.1 x.2.1 x.2.2.1 x.2.2.2.1 x.2.2.2.2.1 x.2.2.2.2.2)).Ok Tryz.prog:=okE Tryz.f43 (B43k uu r0 r1 r2 h0 h1 h2) (L2 (B43_6ok uu r0 r1 r2 h0 h1 h2) (B43_12ok uu r0 r1 r2 h0 h1 h2))
abbrev B59_11x:=Unit×Unit×Unit×(List PV)×Int×Int×PV×Unit×(List (PV×PV))×PV×PV×PV
abbrev B59_11y:=(PV×Unit×(List (PV×PV))×PV×PV×PV)
def B59_11 (uu:Nat) (r0:(Unit×(List UInt8)×PV×PV×Unit×(List (PV×PV)))->Option (PV×Unit×(List (PV×PV)))) (r1:(Unit×PV×PV×PV×Unit×(List (PV×PV)))->Option (PV×Unit×(List (PV×PV)))) (r2:(Unit×PV×PV×PV×Unit×(List (PV×PV)))->Option (PV×Unit×(List (PV×PV)))) (a19:Unit) (a20:Unit) (a21:Unit) (a22:List PV) (a23:Int) (a24:Int) (a25:PV) (a26:Unit) (a27:List (PV×PV)) (a28:PV) (a29:PV) (a30:PV):Option (B59_11x⊕B59_11y):=
 bif (decide (a24<a23)) then
 bif aaa a24 a22.length then
 let x32:=a22.getD a24.toNat .bad
 let x39:=bif (decide (((x32.fld 1).asInt)≥(0:Int))) then ((IntKind.wrap .u64 ((x32.fld 1).asInt))==((a29.fld 1).asInt)) else false
 (bif x39 then F41 uu ((x32.fld 2).asList) ([100,101,112,114,101,99,97,116,101,100]:List UInt8) else some false).bind fun y41=>
 bif (bif x39 then y41 else false) then
 let x43:=(a28.fld 1).asStr
 let x44:=(x32.fld 1).asInt
 let x45:=((PV.mget a27 (PV.agg [(PV.str x43),(PV.int x44)])).getD (PV.int (0:Int))).asInt
 let x47:=((PV.midx a27 (PV.agg [(PV.str x43),(PV.int x44)]):Nat):Int)
 bif aaa x47 ((PV.mput a27 (PV.agg [(PV.str x43),(PV.int x44)]) ((PV.mget a27 (PV.agg [(PV.str x43),(PV.int x44)])).getD (PV.int (0:Int)))).length) then
 some (.inl ((),(),(),a22,a23,(IntKind.wrap .i64 (a24+(1:Int))),a25,(),PV.mset (PV.mput a27 (PV.agg [(PV.str x43),(PV.int x44)]) ((PV.mget a27 (PV.agg [(PV.str x43),(PV.int x44)])).getD (PV.int (0:Int)))) x47.toNat (PV.int (IntKind.wrap .i64 (x45+(1:Int)))),a28,a29,a30))
 else none
 else
 some (.inl ((),(),(),a22,a23,(IntKind.wrap .i64 (a24+(1:Int))),a25,(),a27,a28,a29,a30))
 else none
 else
 some (.inr (a25,(),a27,a28,a29,a30))
def B59_11step (uu:Nat) (r0:(Unit×(List UInt8)×PV×PV×Unit×(List (PV×PV)))->Option (PV×Unit×(List (PV×PV)))) (r1:(Unit×PV×PV×PV×Unit×(List (PV×PV)))->Option (PV×Unit×(List (PV×PV)))) (r2:(Unit×PV×PV×PV×Unit×(List (PV×PV)))->Option (PV×Unit×(List (PV×PV)))) (x:B59_11x):Option (B59_11x⊕B59_11y):=B59_11 uu r0 r1 r2 x.1 x.2.1 x.2.2.1 x.2.2.2.1 x.2.2.2.2.1 x.2.2.2.2.2.1 x.2.2.2.2.2.2.1 x.2.2.2.2.2.2.2.1 x.2.2.2.2.2.2.2.2.1 x.2.2.2.2.2.2.2.2.2.1 x.2.2.2.2.2.2.2.2.2.2.1 x.2.2.2.2.2.2.2.2.2.2.2
def B59 (uu:Nat) (r0:(Unit×(List UInt8)×PV×PV×Unit×(List (PV×PV)))->Option (PV×Unit×(List (PV×PV)))) (r1:(Unit×PV×PV×PV×Unit×(List (PV×PV)))->Option (PV×Unit×(List (PV×PV)))) (r2:(Unit×PV×PV×PV×Unit×(List (PV×PV)))->Option (PV×Unit×(List (PV×PV)))) (a0:Unit) (a1:PV) (a2:PV) (a3:PV) (a4:Unit) (a5:List (PV×PV)):Option (PV×Unit×(List (PV×PV))):=
 let x1:=(a1.fld 0).asInt
 bif (x1==(10:Int)) then
 (r0 ((),((a1.fld 1).asStr),a2,a3,(),a5)).bind fun y4=>
 some (y4.1,(),y4.2.2)
 else
 bif (x1==(9:Int)) then
 (F81 uu a3 ((a1.fld 1).asStr)).bind fun y7=>
 let x8:=y7.1
 bif (!y7.2) then
 some (a3,(),a5)
 else
 (F41 uu ((x8.fld 4).asList) ([100,101,112,114,101,99,97,116,101,100]:List UInt8)).bind fun y12=>
 bif y12 then
 let x13:=(a1.fld 1).asStr
 let x14:=((PV.mget a5 (PV.agg [(PV.str x13),(PV.int (-1:Int))])).getD (PV.int (0:Int))).asInt
 let x16:=((PV.midx a5 (PV.agg [(PV.str x13),(PV.int (-1:Int))]):Nat):Int)
 bif aaa x16 ((PV.mput a5 (PV.agg [(PV.str x13),(PV.int (-1:Int))]) ((PV.mget a5 (PV.agg [(PV.str x13),(PV.int (-1:Int))])).getD (PV.int (0:Int)))).length) then
 let x17:=(x8.fld 2).asList
 (aaf uu (B59_11step uu r0 r1 r2) ((),(),(),x17,(x17.length:Int),(0:Int),a3,(),PV.mset (PV.mput a5 (PV.agg [(PV.str x13),(PV.int (-1:Int))]) ((PV.mget a5 (PV.agg [(PV.str x13),(PV.int (-1:Int))])).getD (PV.int (0:Int)))) x16.toNat (PV.int (IntKind.wrap .i64 (x14+(1:Int)))),a1,a2,x8)).bind fun y50=>
 some (y50.1,(),y50.2.2.1)
 else none
 else
 let x51:=(x8.fld 2).asList
 (aaf uu (B59_11step uu r0 r1 r2) ((),(),(),x51,(x51.length:Int),(0:Int),a3,(),a5,a1,a2,x8)).bind fun y53=>
 some (y53.1,(),y53.2.2.1)
 else
 some (a3,(),a5)
def B59_11l (uu:Nat) (r0:(Unit×(List UInt8)×PV×PV×Unit×(List (PV×PV)))->Option (PV×Unit×(List (PV×PV)))) (r1:(Unit×PV×PV×PV×Unit×(List (PV×PV)))->Option (PV×Unit×(List (PV×PV)))) (r2:(Unit×PV×PV×PV×Unit×(List (PV×PV)))->Option (PV×Unit×(List (PV×PV)))):LoopE:=⟨11,⟨[0,4,5,48,49,50],bx7,[(.con (.ref 0 [] 90)),(.con (.ref 2 [] 57)),(.con (.ref 3 [] 63)),(.slice 164),(.int .i64),(.int .i64),(.data 39),(.con (.mref 1)),(.map 104 3),(.data 57),(.data 63),(.data 116)]⟩,[(.exit 1,⟨[],bx7,[(.data 39),(.con (.mref 1)),(.map 104 3),(.data 57),(.data 63),(.data 116)]⟩)],B59_11step uu r0 r1 r2⟩
def B59C (uu:Nat) (r0:(Unit×(List UInt8)×PV×PV×Unit×(List (PV×PV)))->Option (PV×Unit×(List (PV×PV)))) (r1:(Unit×PV×PV×PV×Unit×(List (PV×PV)))->Option (PV×Unit×(List (PV×PV)))) (r2:(Unit×PV×PV×PV×Unit×(List (PV×PV)))->Option (PV×Unit×(List (PV×PV)))):Cfg:=cfg Tryz.prog 84 2 [B28c r0,F81c uu,F41c uu] [B59_11l uu r0 r1 r2] uu
theorem B59k (uu:Nat) (r0:(Unit×(List UInt8)×PV×PV×Unit×(List (PV×PV)))->Option (PV×Unit×(List (PV×PV)))) (r1:(Unit×PV×PV×PV×Unit×(List (PV×PV)))->Option (PV×Unit×(List (PV×PV)))) (r2:(Unit×PV×PV×PV×Unit×(List (PV×PV)))->Option (PV×Unit×(List (PV×PV)))) (h0:(B28c r0).Ok Tryz.prog) (h1:(B43c r1).Ok Tryz.prog) (h2:(B59c r2).Ok Tryz.prog):aai (B59C uu r0 r1 r2):=aac (qc h0<|qc (F81ok uu)<|qc (F41ok uu)<|q0) (p0)
theorem B59_11ok (uu:Nat) (r0:(Unit×(List UInt8)×PV×PV×Unit×(List (PV×PV)))->Option (PV×Unit×(List (PV×PV)))) (r1:(Unit×PV×PV×PV×Unit×(List (PV×PV)))->Option (PV×Unit×(List (PV×PV)))) (r2:(Unit×PV×PV×PV×Unit×(List (PV×PV)))->Option (PV×Unit×(List (PV×PV)))) (h0:(B28c r0).Ok Tryz.prog) (h1:(B43c r1).Ok Tryz.prog) (h2:(B59c r2).Ok Tryz.prog):LoopOk (B59C uu r0 r1 r2) (lp (aag Tryz.f59) 0):=okL (B59k uu r0 r1 r2 h0 h1 h2) uu (B59_11l uu r0 r1 r2) L0
theorem B59ok (uu:Nat) (r0:(Unit×(List UInt8)×PV×PV×Unit×(List (PV×PV)))->Option (PV×Unit×(List (PV×PV)))) (r1:(Unit×PV×PV×PV×Unit×(List (PV×PV)))->Option (PV×Unit×(List (PV×PV)))) (r2:(Unit×PV×PV×PV×Unit×(List (PV×PV)))->Option (PV×Unit×(List (PV×PV)))) (h0:(B28c r0).Ok Tryz.prog) (h1:(B43c r1).Ok Tryz.prog) (h2:(B59c r2).Ok Tryz.prog):(B59c (fun x=>B59 uu r0 r1 r2 x.1 x.2.1 x.2.2.1 x.2.2.2.1 x.2.2.2.2.1 x.2.2.2.2.2)).Ok Tryz.prog:=okE Tryz.f59 (B59k uu r0 r1 r2 h0 h1 h2) (L1 (B59_11ok uu r0 r1 r2 h0 h1 h2))
def G28 (uu:Nat):Nat->((Unit×(List UInt8)×PV×PV×Unit×(List (PV×PV)))->Option (PV×Unit×(List (PV×PV))))×((Unit×PV×PV×PV×Unit×(List (PV×PV)))->Option (PV×Unit×(List (PV×PV))))×((Unit×PV×PV×PV×Unit×(List (PV×PV)))->Option (PV×Unit×(List (PV×PV))))
 | 0=>(fun _=>none,fun _=>none,fun _=>none)
 | d+1=>(fun x=>B28 uu ((G28 uu d).1) ((G28 uu d).2.1) ((G28 uu d).2.2) x.1 x.2.1 x.2.2.1 x.2.2.2.1 x.2.2.2.2.1 x.2.2.2.2.2,fun x=>B43 uu ((G28 uu d).1) ((G28 uu d).2.1) ((G28 uu d).2.2) x.1 x.2.1 x.2.2.1 x.2.2.2.1 x.2.2.2.2.1 x.2.2.2.2.2,fun x=>B59 uu ((G28 uu d).1) ((G28 uu d).2.1) ((G28 uu d).2.2) x.1 x.2.1 x.2.2.1 x.2.2.2.1 x.2.2.2.2.1 x.2.2.2.2.2)
theorem G28ok (uu:Nat):∀ d,(B28c ((G28 uu d).1)).Ok Tryz.prog/\(B43c ((G28 uu d).2.1)).Ok Tryz.prog/\(B59c ((G28 uu d).2.2)).Ok Tryz.prog
 | 0=>⟨av2,av2,av2⟩
 | d+1=>⟨B28ok uu ((G28 uu d).1) ((G28 uu d).2.1) ((G28 uu d).2.2) (G28ok uu d).1 (G28ok uu d).2.1 (G28ok uu d).2.2,B43ok uu ((G28 uu d).1) ((G28 uu d).2.1) ((G28 uu d).2.2) (G28ok uu d).1 (G28ok uu d).2.1 (G28ok uu d).2.2,B59ok uu ((G28 uu d).1) ((G28 uu d).2.1) ((G28 uu d).2.2) (G28ok uu d).1 (G28ok uu d).2.1 (G28ok uu d).2.2⟩
def F28 (uu:Nat) (a0:Unit) (a1:List UInt8) (a2:PV) (a3:PV) (a4:Unit) (a5:List (PV×PV)):Option (PV×Unit×(List (PV×PV))):=limQ uu (fun d=>(G28 uu d).1) (a0,a1,a2,a3,a4,a5)
def F28c (uu:Nat):CallE:=⟨28,⟨3,bx4,(.con (.ref 0 [] 90))::.str::sv7⟩,⟨0,bx4,sv8⟩,fun x=>F28 uu x.1 x.2.1 x.2.2.1 x.2.2.2.1 x.2.2.2.2.1 x.2.2.2.2.2,(PV.bad,(),[])⟩
theorem F28ok (uu:Nat):(F28c uu).Ok Tryz.prog:=a7l (F28c uu) (G:=(fun d=>(G28 uu d).1)) (fun x=>rfl) (fun d=>(G28ok uu d).1)
def S29_4rem (x:Unit×Unit×(List PV)×(List (PV×PV))):List (PV×PV):=x.2.2.2
def S29_4 (uu:Nat) (e:PV×PV) (es:List (PV×PV)) (a1:Unit) (a2:Unit) (a3:List PV) (a4:List (PV×PV)):Option ((Unit×Unit×(List PV)×(List (PV×PV)))⊕((Unit×(List PV)×(List (PV×PV))))):=
 let x5:=e.1
 let x6:=e.2.asInt
 let x7:=(x5.fld 0).asStr
 let x8:=(x5.fld 1).asInt
 bif decide (a3.length+[(PV.agg [(PV.str x7),(PV.int x8),(PV.int x6)])].length<=aao) then
 some (.inl ((),(),(a3++[(PV.agg [(PV.str x7),(PV.int x8),(PV.int x6)])]),es))
 else none
def S29_4go (uu:Nat) (e:PV×PV) (es:List (PV×PV)) (x:Unit×Unit×(List PV)×(List (PV×PV))):Option ((Unit×Unit×(List PV)×(List (PV×PV)))⊕((Unit×(List PV)×(List (PV×PV))))):=S29_4 uu e es x.1 x.2.1 x.2.2.1 x.2.2.2
def S29_4f (uu:Nat) (a1:Unit) (a2:Unit) (a3:List PV) (a4:List (PV×PV)):Option ((Unit×Unit×(List PV)×(List (PV×PV)))⊕((Unit×(List PV)×(List (PV×PV))))):=
 some (.inr ((),a3,[]))
def S29_4fin (uu:Nat) (x:Unit×Unit×(List PV)×(List (PV×PV))):Option ((Unit×Unit×(List PV)×(List (PV×PV)))⊕((Unit×(List PV)×(List (PV×PV))))):=S29_4f uu x.1 x.2.1 x.2.2.1 x.2.2.2
def F29 (uu:Nat) (a0:List (PV×PV)):Option ((List PV)):=
 a0a uu S29_4rem (S29_4go uu) (S29_4fin uu) ((),(),[],a0) fun y10=>
 (ax8 uu y10.2.1 y10.2.1).bind fun y12=>
 some y12
def S29_4l (uu:Nat):LoopM:=⟨4,⟨[3,7],[.box 74 .leaf,.mit 104 3,.acc],[(.con (.ref 0 [] 74)),(.con (.mitr 1)),(.acc 2 79),(.map 104 3)]⟩,[(.exit 0,⟨[3],[.box 74 .leaf,.mit 104 3,.acc],[(.con (.ref 0 [] 74)),(.acc 2 79),(.map 104 3)]⟩)],S29_4rem,S29_4go uu,S29_4fin uu⟩
def F29C (uu:Nat):Cfg:=mcfg (cfg Tryz.prog 27 0 [ax9 uu] [] uu) uu [S29_4l uu]
def F29c (uu:Nat):CallE:=⟨29,⟨1,[],[(.map 104 3)]⟩,⟨1,[],[(.slice 79)]⟩,fun x=>F29 uu x,[]⟩
theorem F29k (uu:Nat):aai (F29C uu):=atu (aac (qc (a1r uu)<|q0) (p0))
theorem S29_4ok (uu:Nat):LoopOk (F29C uu) (lp (aag Tryz.f29) 0):=okM (F29k uu) uu 8 7 1 104 3 (S29_4l uu) L0
theorem F29ok (uu:Nat):(F29c uu).Ok Tryz.prog:=okE Tryz.f29 (F29k uu) (L1 (S29_4ok uu))
def F20 (uu:Nat) (a0:PV) (a1:List UInt8) (a2:PV):Option ((List PV)):=
 (F28 uu () a1 a2 a0 () []).bind fun y1=>
 (F29 uu y1.2.2).bind fun y2=>
 some y2
def F20C (uu:Nat):Cfg:=fcfg (cfg Tryz.prog 21 0 [F28c uu,F29c uu] [] uu) 29
def F20c (uu:Nat):CallE:=⟨20,⟨3,[],[(.data 39),.str,(.data 63)]⟩,⟨1,[],[(.slice 79)]⟩,fun x=>F20 uu x.1 x.2.1 x.2.2,[]⟩
theorem F20k (uu:Nat):aai (F20C uu):=ata (aac (qc (F28ok uu)<|qc (F29ok uu)<|q0) (p0))
theorem F20ok (uu:Nat):(F20c uu).Ok Tryz.prog:=okE Tryz.f20 (F20k uu) L0
abbrev S17_7x:=Int×Int×(List PV)×Int×Int×PV×PV
abbrev S17_7y:=(Int×Int×Bool×PV×PV)⊕(PV×PV)
def S17_7 (uu:Nat) (a16:Int) (a17:Int) (a18:List PV) (a19:Int) (a20:Int) (a21:PV) (a22:PV):Option (S17_7x⊕S17_7y):=
 bif (decide (a20<a19)) then
 bif aaa a20 a18.length then
 bif ((((a18.getD a20.toNat .bad).fld 0).asInt)==a16) then
 some (.inr (.inl (a17,a20,true,a21,a22)))
 else
 some (.inl (a16,a17,a18,a19,(IntKind.wrap .i64 (a20+(1:Int))),a21,a22))
 else none
 else
 some (.inr (.inr (a21,a22)))
def S17_7step (uu:Nat) (x:S17_7x):Option (S17_7x⊕S17_7y):=S17_7 uu x.1 x.2.1 x.2.2.1 x.2.2.2.1 x.2.2.2.2.1 x.2.2.2.2.2.1 x.2.2.2.2.2.2
abbrev S17_3x:=(List UInt8)×Int×(List PV)×Int×Int×PV
abbrev S17_3y:=(Int×Int×Bool×PV)⊕(PV)
def S17_3 (uu:Nat) (a3:List UInt8) (a4:Int) (a5:List PV) (a6:Int) (a7:Int) (a8:PV):Option (S17_3x⊕S17_3y):=
 bif (decide (a7<a6)) then
 bif aaa a7 a5.length then
 let x10:=a5.getD a7.toNat .bad
 bif (!(((x10.fld 0).asStr)==a3)) then
 some (.inl (a3,a4,a5,a6,(IntKind.wrap .i64 (a7+(1:Int))),a8))
 else
 let x14:=(x10.fld 4).asList
 (aaf uu (S17_7step uu) (a4,a7,x14,(x14.length:Int),(0:Int),a8,x10)).bind fun z=>sumE (fun y28=>
 some (.inr (.inl (y28.1,y28.2.1,y28.2.2.1,y28.2.2.2.1)))
 ) (fun y29=>
 some (.inr (.inl ((0:Int),(0:Int),false,y29.1)))
 ) z
 else none
 else
 some (.inr (.inr a8))
def S17_3step (uu:Nat) (x:S17_3x):Option (S17_3x⊕S17_3y):=S17_3 uu x.1 x.2.1 x.2.2.1 x.2.2.2.1 x.2.2.2.2.1 x.2.2.2.2.2
def F17 (uu:Nat) (a0:PV) (a1:List UInt8) (a2:Int):Option (Int×Int×Bool):=
 let x1:=(a0.fld 1).asList
 (aaf uu (S17_3step uu) (a1,a2,x1,(x1.length:Int),(0:Int),a0)).bind fun z=>sumE (fun y30=>
 some (y30.1,y30.2.1,y30.2.2.1)
 ) (fun y31=>
 some ((0:Int),(0:Int),false)
 ) z
def S17_7l (uu:Nat):LoopE:=⟨7,⟨[2,9,26,27,28],bx8,(.int .i64)::(.int .i64)::(.slice 42)::sv10⟩,[(.ret,⟨[6,7,8],bx8,(.int .i64)::(.int .i64)::.bool::sv11⟩),(.exit 2,⟨[],bx8,sv11⟩)],S17_7step uu⟩
def S17_3l (uu:Nat):LoopE:=⟨3,⟨[1,2,14,15,16],bx9,.str::(.int .i64)::(.slice 48)::sv12⟩,[(.ret,⟨[6,7,8],bx9,(.int .i64)::(.int .i64)::sv13⟩),(.exit 0,⟨[],bx9,[(.data 24)]⟩)],S17_3step uu⟩
def F17C (uu:Nat):Cfg:=cfg Tryz.prog 41 0 [] [S17_7l uu,S17_3l uu] uu
def F17c (uu:Nat):CallE:=⟨17,⟨3,[],sv14⟩,⟨3,[],[(.int .i64),(.int .i64),.bool]⟩,fun x=>F17 uu x.1 x.2.1 x.2.2,(0,0,false)⟩
theorem F17k (uu:Nat):aai (F17C uu):=aac (q0) (p0)
theorem S17_7ok (uu:Nat):LoopOk (F17C uu) (lp (lp (aag Tryz.f17) 0) 0):=okL (F17k uu) uu (S17_7l uu) L0
theorem S17_3ok (uu:Nat):LoopOk (F17C uu) (lp (aag Tryz.f17) 0):=okL (F17k uu) uu (S17_3l uu) (L1 (S17_7ok uu))
theorem F17ok (uu:Nat):(F17c uu).Ok Tryz.prog:=okE Tryz.f17 (F17k uu) (L1 (S17_3ok uu))
def F19 (uu:Nat) (a0:PV) (a1:Int) (a2:Int) (a3:Int) (a4:Int):Option (PV):=
 let x1:=(a0.fld 1).asList
 bif decide (x1.length<=aao) then
 bif aaa a1 x1.length then
 let x2:=x1.getD a1.toNat .bad
 let x3:=(x2.fld 4).asList
 bif decide (x3.length<=aao) then
 bif aaa a2 x3.length then
 let x4:=x3.getD a2.toNat .bad
 bif aaa a2 x3.length then
 let x8:=x3.set a2.toNat (PV.agg [(PV.int ((x4.fld 0).asInt)),(x4.fld 1),(PV.int ((x4.fld 2).asInt)),(PV.int a3),(PV.int a4)])
 bif aaa a1 x1.length then
 let x9:=x1.set a1.toNat (PV.agg [(PV.str ((x2.fld 0).asStr)),(PV.str ((x2.fld 1).asStr)),(PV.int ((x2.fld 2).asInt)),(PV.int ((x2.fld 3).asInt)),(PV.slice x8)])
 some (PV.agg [(PV.int ((a0.fld 0).asInt)),(PV.slice x9)])
 else none
 else none
 else none
 else none
 else none
 else none
def F19c (uu:Nat):CallE:=⟨19,⟨5,[],(.data 24)::(.int .i64)::(.int .i64)::sv15⟩,⟨1,[],[(.data 24)]⟩,fun x=>F19 uu x.1 x.2.1 x.2.2.1 x.2.2.2.1 x.2.2.2.2,PV.bad⟩
theorem F19ok (uu:Nat):(F19c uu).Ok Tryz.prog:=okJ Tryz.f19 48 0 uu [] [] false (q0) (p0) L0
def F8 (uu:Nat) (a0:PV) (a1:List UInt8) (a2:Int):Option (PV×Int):=
 (F17 uu a0 a1 a2).bind fun y1=>
 let x2:=y1.1
 let x3:=y1.2.1
 bif (!y1.2.2) then
 some (a0,(10:Int))
 else
 let x6:=(a0.fld 1).asList
 bif aaa x2 x6.length then
 let x9:=((x6.getD x2.toNat .bad).fld 4).asList
 bif aaa x3 x9.length then
 let x10:=x9.getD x3.toNat .bad
 bif (bif (((x10.fld 3).asInt) != (2:Int)) then true else (decide (((a0.fld 0).asInt)<((x10.fld 4).asInt)))) then
 some (a0,(20:Int))
 else
 (F19 uu a0 x2 x3 (3:Int) (0:Int)).bind fun y17=>
 some (y17,(0:Int))
 else none
 else none
def F8c (uu:Nat):CallE:=⟨8,⟨3,[],sv14⟩,⟨2,[],sv16⟩,fun x=>F8 uu x.1 x.2.1 x.2.2,(PV.bad,0)⟩
theorem F8ok (uu:Nat):(F8c uu).Ok Tryz.prog:=okJ Tryz.f8 47 0 uu _ [] false (qc (F17ok uu)<|qc (F19ok uu)<|q0) (p0) L0
abbrev S21_7x:=Unit×(List PV)×Unit×(List PV)×Int×Int×(List PV)×Int×Int×PV×PV
abbrev S21_7y:=(Unit×(List PV)×(List PV)×Int×Int×PV×PV)
def S21_7 (uu:Nat) (a13:Unit) (a14:List PV) (a15:Unit) (a16:List PV) (a17:Int) (a18:Int) (a19:List PV) (a20:Int) (a21:Int) (a22:PV) (a23:PV):Option (S21_7x⊕S21_7y):=
 bif (decide (a21<a20)) then
 bif aaa a21 a19.length then
 let x25:=a19.getD a21.toNat .bad
 bif (bif (((x25.fld 3).asInt)==(2:Int)) then (decide (((x25.fld 4).asInt)<=((a22.fld 0).asInt))) else false) then
 let x32:=(a23.fld 0).asStr
 let x33:=(x25.fld 0).asInt
 bif decide (a14.length+[(PV.agg [(PV.str x32),(PV.int x33),(PV.int (0:Int))])].length<=aao) then
 let x34:=a14++[(PV.agg [(PV.str x32),(PV.int x33),(PV.int (0:Int))])]
 some (.inl ((),x34,(),a16,a17,a18,a19,a20,(IntKind.wrap .i64 (a21+(1:Int))),a22,a23))
 else none
 else
 some (.inl ((),a14,(),a16,a17,a18,a19,a20,(IntKind.wrap .i64 (a21+(1:Int))),a22,a23))
 else none
 else
 some (.inr ((),a14,a16,a17,a18,a22,a23))
def S21_7step (uu:Nat) (x:S21_7x):Option (S21_7x⊕S21_7y):=S21_7 uu x.1 x.2.1 x.2.2.1 x.2.2.2.1 x.2.2.2.2.1 x.2.2.2.2.2.1 x.2.2.2.2.2.2.1 x.2.2.2.2.2.2.2.1 x.2.2.2.2.2.2.2.2.1 x.2.2.2.2.2.2.2.2.2.1 x.2.2.2.2.2.2.2.2.2.2
abbrev S21_4x:=Unit×(List PV)×(List PV)×Int×Int×PV
abbrev S21_4y:=((List PV)×PV)
def S21_4 (uu:Nat) (a3:Unit) (a4:List PV) (a5:List PV) (a6:Int) (a7:Int) (a8:PV):Option (S21_4x⊕S21_4y):=
 bif (decide (a7<a6)) then
 bif aaa a7 a5.length then
 let x10:=a5.getD a7.toNat .bad
 let x11:=(x10.fld 4).asList
 (aaf uu (S21_7step uu) ((),a4,(),a5,a6,a7,x11,(x11.length:Int),(0:Int),a8,x10)).bind fun y37=>
 some (.inl ((),y37.2.1,y37.2.2.1,y37.2.2.2.1,(IntKind.wrap .i64 (y37.2.2.2.2.1+(1:Int))),y37.2.2.2.2.2.1))
 else none
 else
 some (.inr (a4,a8))
def S21_4step (uu:Nat) (x:S21_4x):Option (S21_4x⊕S21_4y):=S21_4 uu x.1 x.2.1 x.2.2.1 x.2.2.2.1 x.2.2.2.2.1 x.2.2.2.2.2
def F21 (uu:Nat) (a0:PV):Option ((List PV)):=
 let x1:=(a0.fld 1).asList
 (aaf uu (S21_4step uu) ((),[],x1,(x1.length:Int),(0:Int),a0)).bind fun y39=>
 some y39.1
def S21_7l (uu:Nat):LoopE:=⟨7,⟨[1,3,5,9,10,11,16,17,18],[.box 24 .leaf,.acc,.box 48 .leaf],(.con (.ref 0 [] 24))::(.acc 1 79)::(.con (.ref 2 [] 48))::(.slice 48)::(.int .i64)::(.int .i64)::(.slice 42)::sv10⟩,[(.exit 2,⟨[1,3,9,10,11],[.box 24 .leaf,.acc,.box 48 .leaf],(.con (.ref 0 [] 24))::(.acc 1 79)::(.slice 48)::sv10⟩)],S21_7step uu⟩
def S21_4l (uu:Nat):LoopE:=⟨4,⟨[1,3,9,10,11],[.box 24 .leaf,.acc],(.con (.ref 0 [] 24))::(.acc 1 79)::(.slice 48)::sv12⟩,[(.exit 0,⟨[3],[.box 24 .leaf,.acc],[(.acc 1 79),(.data 24)]⟩)],S21_4step uu⟩
def F21C (uu:Nat):Cfg:=cfg Tryz.prog 43 0 [] [S21_7l uu,S21_4l uu] uu
def F21c (uu:Nat):CallE:=⟨21,⟨1,[],[(.data 24)]⟩,⟨1,[],[(.slice 79)]⟩,fun x=>F21 uu x,[]⟩
theorem F21k (uu:Nat):aai (F21C uu):=aac (q0) (p0)
theorem S21_7ok (uu:Nat):LoopOk (F21C uu) (lp (lp (aag Tryz.f21) 0) 0):=okL (F21k uu) uu (S21_7l uu) L0
theorem S21_4ok (uu:Nat):LoopOk (F21C uu) (lp (aag Tryz.f21) 0):=okL (F21k uu) uu (S21_4l uu) (L1 (S21_7ok uu))
theorem F21ok (uu:Nat):(F21c uu).Ok Tryz.prog:=okE Tryz.f21 (F21k uu) (L1 (S21_4ok uu))
def F7 (uu:Nat) :Option (Bool):=
 (F20 uu (PV.agg [(PV.slice [(PV.agg [(PV.str ([77]:List UInt8)),(PV.slice [(PV.agg [(PV.int (1:Int)),(PV.str ([120]:List UInt8)),(PV.int (2:Int)),(PV.int (0:Int)),(PV.agg [(PV.int (1:Int)),(PV.str ([]:List UInt8))]),(PV.str ([]:List UInt8)),(PV.bool false),(PV.agg [(PV.int (0:Int)),(PV.int (0:Int)),(PV.str ([]:List UInt8)),(PV.slice []),(PV.slice []),(PV.slice []),(PV.slice [])]),(PV.slice [(PV.agg [(PV.str ([100,101,112,114,101,99,97,116,101,100]:List UInt8)),(PV.agg [(PV.int (1:Int)),(PV.int (1:Int)),(PV.str ([]:List UInt8)),(PV.slice []),(PV.slice []),(PV.slice []),(PV.slice [])])])])])]),(PV.slice []),(PV.slice []),(PV.slice [])])]),(PV.slice []),(PV.slice [])]) ([77]:List UInt8) (PV.agg [(PV.int (10:Int)),(PV.int (0:Int)),(PV.str ([]:List UInt8)),(PV.slice []),(PV.slice []),(PV.slice [(PV.agg [(PV.int (1:Int)),(PV.agg [(PV.int (1:Int)),(PV.int (0:Int)),(PV.str ([]:List UInt8)),(PV.slice []),(PV.slice []),(PV.slice []),(PV.slice [])])])]),(PV.slice [])])).bind fun y1=>
 (F8 uu (PV.agg [(PV.int (5:Int)),(PV.slice [(PV.agg [(PV.str ([97]:List UInt8)),(PV.str ([]:List UInt8)),(PV.int (0:Int)),(PV.int (0:Int)),(PV.slice [(PV.agg [(PV.int (1:Int)),(PV.agg [(PV.slice []),(PV.slice []),(PV.slice [])]),(PV.int (0:Int)),(PV.int (2:Int)),(PV.int (5:Int))])])])])]) ([97]:List UInt8) (1:Int)).bind fun y2=>
 let x6:=(y1.length:Int)==(1:Int)
 bif imp x6 (aaa (0:Int) y1.length) then
 let x7:=y1.getD (0:Int).toNat .bad
 let x8:=bif ((x7.fld 0).asStr)==([77]:List UInt8) then (bif ((x7.fld 1).asInt)==(1:Int) then (bif ((x7.fld 2).asInt)==(1:Int) then true else false) else false) else false
 let x11:=bif (bif x6 then x8 else false) then (y2.2==(0:Int)) else false
 let x12:=(y2.1.fld 1).asList
 bif imp x11 (aaa (0:Int) x12.length) then
 let x15:=((x12.getD (0:Int).toNat .bad).fld 4).asList
 bif imp x11 (aaa (0:Int) x15.length) then
 let x20:=bif x11 then (((x15.getD (0:Int).toNat .bad).fld 3).asInt==(3:Int)) else false
 (bif x20 then F21 uu (PV.agg [(PV.int (5:Int)),(PV.slice [(PV.agg [(PV.str ([97]:List UInt8)),(PV.str ([]:List UInt8)),(PV.int (0:Int)),(PV.int (0:Int)),(PV.slice [(PV.agg [(PV.int (1:Int)),(PV.agg [(PV.slice []),(PV.slice []),(PV.slice [])]),(PV.int (0:Int)),(PV.int (2:Int)),(PV.int (5:Int))])])])])]) else some []).bind fun y21=>
 some (bif x20 then ((y21.length:Int)==(1:Int)) else false)
 else none
 else none
 else none
def F7c (uu:Nat):CallE:=⟨7,⟨0,[],[]⟩,⟨1,[],[.bool]⟩,fun x=>F7 uu ,false⟩
theorem F7ok (uu:Nat):(F7c uu).Ok Tryz.prog:=okJ Tryz.f7 64 0 uu _ [] false (qc (F20ok uu)<|qc (F8ok uu)<|qc (F21ok uu)<|q0) (p0) L0
theorem awake40_run:F7 1000=some true:=a2v (by kernel_rfl)
def aot (uu:Nat):Option Bool:=some true
def aqj (uu:Nat):CallE:={ f:=7,A:=⟨0,[],[]⟩,R:=⟨1,[],[.bool]⟩,F:=fun x=>aot uu,dflt:=false }
theorem asy (uu:Nat):(F7c uu).F=fun _=>F7 uu:=rfl
theorem awg (uu:Nat):(aqj uu).Ok Tryz.prog:=fun x y h=>F7ok 1000 () y ((congrFun (asy 1000) ()).trans (awake40_run.trans h))
abbrev S4_11x:=Unit×Int×(List PV)×Int×PV
abbrev S4_11y:=(Bool×PV)⊕(Unit×Int×PV)
def S4_11 (uu:Nat) (a16:Unit) (a17:Int) (a18:List PV) (a19:Int) (a20:PV):Option (S4_11x⊕S4_11y):=
 bif (decide (a19<(a18.length:Int))) then
 bif aaa a19 a18.length then
 let x28:=decide (((((a18.getD a19.toNat .bad).fld 1).fld 0).asList.length:Int)>(8:Int))
 bif imp (!x28) (aaa a19 a18.length) then
 let x35:=bif x28 then true else (decide (((((a18.getD a19.toNat .bad).fld 1).fld 1).asList.length:Int)>(8:Int)))
 bif imp (!x35) (aaa a19 a18.length) then
 bif (bif x35 then true else (decide (((((a18.getD a19.toNat .bad).fld 1).fld 2).asList.length:Int)>(8:Int)))) then
 some (.inr (.inl (false,a20)))
 else
 some (.inl ((),a17,a18,(IntKind.wrap .i64 (a19+(1:Int))),a20))
 else none
 else none
 else none
 else
 some (.inr (.inr ((),a17,a20)))
def S4_11step (uu:Nat) (x:S4_11x):Option (S4_11x⊕S4_11y):=S4_11 uu x.1 x.2.1 x.2.2.1 x.2.2.2.1 x.2.2.2.2
def S4_5 (uu:Nat) (a4:Unit) (a5:Int) (a6:PV):Option ((Unit×Int×PV)⊕((Bool×PV)⊕(PV))):=
 bif (decide (a5<(((a6.fld 1).asList).length:Int))) then
 let x10:=(a6.fld 1).asList
 bif aaa a5 x10.length then
 let x13:=((x10.getD a5.toNat .bad).fld 4).asList
 bif (decide ((x13.length:Int)>(40:Int))) then
 some (.inr (.inl (false,a6)))
 else
 (aaf uu (S4_11step uu) ((),a5,x13,(0:Int),a6)).bind fun z=>sumE (fun y44=>
 some (.inr (.inl (y44.1,y44.2)))
 ) (fun y45=>
 some (.inl ((),(IntKind.wrap .i64 (y45.2.1+(1:Int))),y45.2.2))
 ) z
 else none
 else
 some (.inr (.inr a6))
def S4_5step (uu:Nat) (x:Unit×Int×PV):Option ((Unit×Int×PV)⊕((Bool×PV)⊕(PV))):=S4_5 uu x.1 x.2.1 x.2.2
def F4 (uu:Nat) (a0:PV):Option (Bool):=
 bif (decide ((((a0.fld 1).asList).length:Int)>(40:Int))) then
 some false
 else
 (aaf uu (S4_5step uu) ((),(0:Int),a0)).bind fun z=>sumE (fun y48=>
 some y48.1
 ) (fun y49=>
 some true
 ) z
def S4_11l (uu:Nat):LoopE:=⟨11,⟨[1,3,4,5],bx9,(.con (.ref 0 [] 24))::(.int .i64)::(.slice 42)::sv17⟩,[(.ret,⟨[2],bx9,sv13⟩),(.exit 2,⟨[1,3],bx9,sv18⟩)],S4_11step uu⟩
def S4_5l (uu:Nat):LoopE:=⟨5,⟨[1,3],bx9,sv18⟩,[(.ret,⟨[2],bx9,sv13⟩),(.exit 0,⟨[],bx9,[(.data 24)]⟩)],S4_5step uu⟩
def F4C (uu:Nat):Cfg:=cfg Tryz.prog 60 0 [] [S4_11l uu,S4_5l uu] uu
def F4c (uu:Nat):CallE:=⟨4,⟨1,[],[(.data 24)]⟩,⟨1,[],[.bool]⟩,fun x=>F4 uu x,false⟩
theorem F4k (uu:Nat):aai (F4C uu):=aac (q0) (p0)
theorem S4_11ok (uu:Nat):LoopOk (F4C uu) (lp (lp (aag Tryz.f4) 0) 0):=okL (F4k uu) uu (S4_11l uu) L0
theorem S4_5ok (uu:Nat):LoopOk (F4C uu) (lp (aag Tryz.f4) 0):=okL (F4k uu) uu (S4_5l uu) (L1 (S4_11ok uu))
theorem F4ok (uu:Nat):(F4c uu).Ok Tryz.prog:=okE Tryz.f4 (F4k uu) (L1 (S4_5ok uu))
def S12_5 (uu:Nat) (a4:Unit) (a5:Int) (a6:PV):Option ((Unit×Int×PV)⊕((Bool×PV)⊕(PV))):=
 bif (decide (a5<(((a6.fld 1).asList).length:Int))) then
 let x10:=(a6.fld 1).asList
 bif aaa a5 x10.length then
 bif (decide ((((x10.getD a5.toNat .bad).fld 4).asList.length:Int)>(32:Int))) then
 some (.inr (.inl (true,a6)))
 else
 some (.inl ((),(IntKind.wrap .i64 (a5+(1:Int))),a6))
 else none
 else
 some (.inr (.inr a6))
def S12_5step (uu:Nat) (x:Unit×Int×PV):Option ((Unit×Int×PV)⊕((Bool×PV)⊕(PV))):=S12_5 uu x.1 x.2.1 x.2.2
def F12 (uu:Nat) (a0:PV):Option (Bool):=
 bif (decide ((((a0.fld 1).asList).length:Int)>(32:Int))) then
 some true
 else
 (aaf uu (S12_5step uu) ((),(0:Int),a0)).bind fun z=>sumE (fun y17=>
 some y17.1
 ) (fun y18=>
 some false
 ) z
def S12_5l (uu:Nat):LoopE:=⟨5,⟨[1,3],bx9,sv18⟩,[(.ret,⟨[2],bx9,sv13⟩),(.exit 0,⟨[],bx9,[(.data 24)]⟩)],S12_5step uu⟩
def F12C (uu:Nat):Cfg:=cfg Tryz.prog 23 0 [] [S12_5l uu] uu
def F12c (uu:Nat):CallE:=⟨12,⟨1,[],[(.data 24)]⟩,⟨1,[],[.bool]⟩,fun x=>F12 uu x,false⟩
theorem F12k (uu:Nat):aai (F12C uu):=aac (q0) (p0)
theorem S12_5ok (uu:Nat):LoopOk (F12C uu) (lp (aag Tryz.f12) 0):=okL (F12k uu) uu (S12_5l uu) L0
theorem F12ok (uu:Nat):(F12c uu).Ok Tryz.prog:=okE Tryz.f12 (F12k uu) (L1 (S12_5ok uu))
def S13_8 (uu:Nat) (a19:Unit) (a20:Int) (a21:Int) (a22:PV):Option ((Unit×Int×Int×PV)⊕((Bool×PV)⊕(Unit×Int×PV))):=
 let x23:=(a22.fld 1).asList
 bif aaa a20 x23.length then
 bif (decide (a21<(((x23.getD a20.toNat .bad).fld 4).asList.length:Int))) then
 let x29:=(a22.fld 1).asList
 bif aaa a20 x29.length then
 let x32:=((x29.getD a20.toNat .bad).fld 4).asList
 bif aaa a21 x32.length then
 bif (((x32.getD a21.toNat .bad).fld 0).asInt != (IntKind.wrap .i64 (a21+(1:Int)))) then
 some (.inr (.inl (false,a22)))
 else
 some (.inl ((),a20,(IntKind.wrap .i64 (a21+(1:Int))),a22))
 else none
 else none
 else
 some (.inr (.inr ((),a20,a22)))
 else none
def S13_8step (uu:Nat) (x:Unit×Int×Int×PV):Option ((Unit×Int×Int×PV)⊕((Bool×PV)⊕(Unit×Int×PV))):=S13_8 uu x.1 x.2.1 x.2.2.1 x.2.2.2
def S13_3 (uu:Nat) (a1:Unit) (a2:Int) (a3:PV):Option ((Unit×Int×PV)⊕((Bool×PV)⊕(PV))):=
 bif (decide (a2<(((a3.fld 1).asList).length:Int))) then
 let x7:=decide (a2>(0:Int))
 let x8:=(a3.fld 1).asList
 bif imp x7 (aaa a2 x8.length) then
 let x11:=((x8.getD a2.toNat .bad).fld 0).asStr
 let x12:=(a3.fld 1).asList
 let x13:=IntKind.wrap .i64 (a2-(1:Int))
 bif imp x7 (aaa x13 x12.length) then
 let x16:=((x12.getD x13.toNat .bad).fld 0).asStr
 bif (bif x7 then (Op.bytesLess x11 x16||x11==x16) else false) then
 some (.inr (.inl (false,a3)))
 else
 (aaf uu (S13_8step uu) ((),a2,(0:Int),a3)).bind fun z=>sumE (fun y39=>
 some (.inr (.inl (y39.1,y39.2)))
 ) (fun y40=>
 some (.inl ((),(IntKind.wrap .i64 (y40.2.1+(1:Int))),y40.2.2))
 ) z
 else none
 else none
 else
 some (.inr (.inr a3))
def S13_3step (uu:Nat) (x:Unit×Int×PV):Option ((Unit×Int×PV)⊕((Bool×PV)⊕(PV))):=S13_3 uu x.1 x.2.1 x.2.2
def F13 (uu:Nat) (a0:PV):Option (Bool):=
 (aaf uu (S13_3step uu) ((),(0:Int),a0)).bind fun z=>sumE (fun y43=>
 some y43.1
 ) (fun y44=>
 some true
 ) z
def S13_8l (uu:Nat):LoopE:=⟨8,⟨[1,3,4],bx9,(.con (.ref 0 [] 24))::sv12⟩,[(.ret,⟨[2],bx9,sv13⟩),(.exit 2,⟨[1,3],bx9,sv18⟩)],S13_8step uu⟩
def S13_3l (uu:Nat):LoopE:=⟨3,⟨[1,3],bx9,sv18⟩,[(.ret,⟨[2],bx9,sv13⟩),(.exit 0,⟨[],bx9,[(.data 24)]⟩)],S13_3step uu⟩
def F13C (uu:Nat):Cfg:=cfg Tryz.prog 54 0 [] [S13_8l uu,S13_3l uu] uu
def F13c (uu:Nat):CallE:=⟨13,⟨1,[],[(.data 24)]⟩,⟨1,[],[.bool]⟩,fun x=>F13 uu x,false⟩
theorem F13k (uu:Nat):aai (F13C uu):=aac (q0) (p0)
theorem S13_8ok (uu:Nat):LoopOk (F13C uu) (lp (lp (aag Tryz.f13) 0) 0):=okL (F13k uu) uu (S13_8l uu) L0
theorem S13_3ok (uu:Nat):LoopOk (F13C uu) (lp (aag Tryz.f13) 0):=okL (F13k uu) uu (S13_3l uu) (L1 (S13_8ok uu))
theorem F13ok (uu:Nat):(F13c uu).Ok Tryz.prog:=okE Tryz.f13 (F13k uu) (L1 (S13_3ok uu))
def F32 (uu:Nat) (a0:Int):Option (Bool):=
 some (bif (decide (a0≥(97:Int))) then (decide (a0<=(122:Int))) else false)
def F32c (uu:Nat):CallE:=⟨32,⟨1,[],[(.int .u8)]⟩,⟨1,[],[.bool]⟩,fun x=>F32 uu x,false⟩
theorem F32ok (uu:Nat):(F32c uu).Ok Tryz.prog:=okJ Tryz.f32 9 0 uu [] [] false (q0) (p0) L0
def F33 (uu:Nat) (a0:Int):Option (Bool):=
 some (bif (decide (a0≥(65:Int))) then (decide (a0<=(90:Int))) else false)
def F33c (uu:Nat):CallE:=⟨33,⟨1,[],[(.int .u8)]⟩,⟨1,[],[.bool]⟩,fun x=>F33 uu x,false⟩
theorem F33ok (uu:Nat):(F33c uu).Ok Tryz.prog:=okJ Tryz.f33 9 0 uu [] [] false (q0) (p0) L0
def S24_5 (uu:Nat) (a14:List UInt8) (a15:Int):Option (((List UInt8)×Int)⊕((Bool)⊕(Unit))):=
 bif (decide (a15<(a14.length:Int))) then
 bif aaa a15 a14.length then
 (F32 uu ((a14.getD a15.toNat 0).toNat:Int)).bind fun y19=>
 let x20:=!y19
 bif imp x20 (aaa a15 a14.length) then
 (bif x20 then F33 uu ((a14.getD a15.toNat 0).toNat:Int) else some false).bind fun y22=>
 let x24:=bif x20 then (!y22) else false
 bif imp x24 (aaa a15 a14.length) then
 let x27:=bif x24 then (((a14.getD a15.toNat 0).toNat:Int) != (95:Int)) else false
 bif imp x27 (aaa a15 a14.length) then
 let x29:=decide (((a14.getD a15.toNat 0).toNat:Int)<(48:Int))
 bif imp (bif !x29 then x27 else false) (aaa a15 a14.length) then
 bif (bif x27 then (bif x29 then true else (decide (((a14.getD a15.toNat 0).toNat:Int)>(57:Int)))) else false) then
 some (.inr (.inl false))
 else
 some (.inl (a14,(IntKind.wrap .i64 (a15+(1:Int)))))
 else none
 else none
 else none
 else none
 else none
 else
 some (.inr (.inr ()))
def S24_5step (uu:Nat) (x:(List UInt8)×Int):Option (((List UInt8)×Int)⊕((Bool)⊕(Unit))):=S24_5 uu x.1 x.2
def F24 (uu:Nat) (a0:List UInt8):Option (Bool):=
 let x5:=bif ((a0.length:Int)==(0:Int)) then true else (decide ((a0.length:Int)>(40:Int)))
 bif imp (!x5) (aaa (0:Int) a0.length) then
 (bif !x5 then F32 uu ((a0.getD (0:Int).toNat 0).toNat:Int) else some false).bind fun y7=>
 let x8:=!y7
 bif imp (bif x8 then !x5 else false) (aaa (0:Int) a0.length) then
 (bif bif x8 then !x5 else false then F33 uu ((a0.getD (0:Int).toNat 0).toNat:Int) else some false).bind fun y10=>
 bif (bif x5 then true else (bif x8 then (!y10) else false)) then
 some false
 else
 (aaf uu (S24_5step uu) (a0,(1:Int))).bind fun z=>sumE (fun y35=>
 some y35
 ) (fun y36=>
 some true
 ) z
 else none
 else none
def S24_5l (uu:Nat):LoopE:=⟨5,⟨[0,3],[],sv19⟩,[(.ret,⟨[2],[],[.bool]⟩),(.exit 0,⟨[],[],[]⟩)],S24_5step uu⟩
def F24C (uu:Nat):Cfg:=cfg Tryz.prog 60 0 [F32c uu,F33c uu] [S24_5l uu] uu
def F24c (uu:Nat):CallE:=⟨24,⟨1,[],[.str]⟩,⟨1,[],[.bool]⟩,fun x=>F24 uu x,false⟩
theorem F24k (uu:Nat):aai (F24C uu):=aac (qc (F32ok uu)<|qc (F33ok uu)<|q0) (p0)
theorem S24_5ok (uu:Nat):LoopOk (F24C uu) (lp (aag Tryz.f24) 0):=okL (F24k uu) uu (S24_5l uu) L0
theorem F24ok (uu:Nat):(F24c uu).Ok Tryz.prog:=okE Tryz.f24 (F24k uu) (L1 (S24_5ok uu))
abbrev S14_6x:=(List UInt8)×(List UInt8)×Int
abbrev S14_6y:=(Bool)⊕((List UInt8))
def S14_6 (uu:Nat) (a3:List UInt8) (a4:List UInt8) (a5:Int):Option (S14_6x⊕S14_6y):=
 bif (decide (a5<(a3.length:Int))) then
 bif aaa a5 a3.length then
 bif (((a3.getD a5.toNat 0).toNat:Int) != (46:Int)) then
 let x10:=IntKind.wrap .i64 (a5+(1:Int))
 bif decide (0<=a5/\a5<=x10/\x10<=(a3.length:Int)) then
 let x11:=(a3.take x10.toNat).drop a5.toNat
 bif decide (a4.length+x11.length<=aad) then
 some (.inl (a3,(a4++x11),(IntKind.wrap .i64 (a5+(1:Int)))))
 else none
 else none
 else
 (F24 uu a4).bind fun y14=>
 bif (!y14) then
 some (.inr (.inl false))
 else
 some (.inl (a3,([]:List UInt8),(IntKind.wrap .i64 (a5+(1:Int)))))
 else none
 else
 some (.inr (.inr a4))
def S14_6step (uu:Nat) (x:S14_6x):Option (S14_6x⊕S14_6y):=S14_6 uu x.1 x.2.1 x.2.2
def F14 (uu:Nat) (a0:List UInt8):Option (Bool):=
 bif (decide ((a0.length:Int)>(120:Int))) then
 some false
 else
 (aaf uu (S14_6step uu) (a0,([]:List UInt8),(0:Int))).bind fun z=>sumE (fun y17=>
 some y17
 ) (fun y18=>
 (F24 uu y18).bind fun y19=>
 some y19
 ) z
def S14_6l (uu:Nat):LoopE:=⟨6,⟨[0,3,4],[],sv20⟩,[(.ret,⟨[2],[],[.bool]⟩),(.exit 0,⟨[3],[],[.str]⟩)],S14_6step uu⟩
def F14C (uu:Nat):Cfg:=cfg Tryz.prog 30 0 [F24c uu] [S14_6l uu] uu
def F14c (uu:Nat):CallE:=⟨14,⟨1,[],[.str]⟩,⟨1,[],[.bool]⟩,fun x=>F14 uu x,false⟩
theorem F14k (uu:Nat):aai (F14C uu):=aac (qc (F24ok uu)<|q0) (p0)
theorem S14_6ok (uu:Nat):LoopOk (F14C uu) (lp (aag Tryz.f14) 0):=okL (F14k uu) uu (S14_6l uu) L0
theorem F14ok (uu:Nat):(F14c uu).Ok Tryz.prog:=okE Tryz.f14 (F14k uu) (L1 (S14_6ok uu))
def F25 (uu:Nat) (a0:Int):Option (Bool):=
 some (bif (bif (decide (a0≥(0:Int))) then (decide (a0<=(7:Int))) else false) then (a0 != (4:Int)) else false)
def F25c (uu:Nat):CallE:=⟨25,⟨1,[],[(.int .i64)]⟩,⟨1,[],[.bool]⟩,fun x=>F25 uu x,false⟩
theorem F25ok (uu:Nat):(F25c uu).Ok Tryz.prog:=okJ Tryz.f25 13 0 uu [] [] false (q0) (p0) L0
def F26 (uu:Nat) (a0:Int):Option (Bool):=
 some (bif (decide (a0≥(1:Int))) then (decide (a0<=(7:Int))) else false)
def F26c (uu:Nat):CallE:=⟨26,⟨1,[],[(.int .i64)]⟩,⟨1,[],[.bool]⟩,fun x=>F26 uu x,false⟩
theorem F26ok (uu:Nat):(F26c uu).Ok Tryz.prog:=okJ Tryz.f26 9 0 uu [] [] false (q0) (p0) L0
def S15_5 (uu:Nat) (a8:Unit) (a9:Int) (a10:PV):Option ((Unit×Int×PV)⊕((Bool×PV)⊕(PV))):=
 bif (decide (a9<(((a10.fld 4).asList).length:Int))) then
 let x14:=(a10.fld 4).asList
 bif aaa a9 x14.length then
 let x15:=x14.getD a9.toNat .bad
 bif (bif (bif (bif (decide (((x15.fld 3).asInt)<(1:Int))) then true else (decide (((x15.fld 3).asInt)>(3:Int)))) then true else (bif (((x15.fld 3).asInt)==(2:Int)) then (decide (((x15.fld 4).asInt)<(1:Int))) else false)) then true else (bif (((x15.fld 3).asInt) != (2:Int)) then (((x15.fld 4).asInt) != (0:Int)) else false)) then
 some (.inr (.inl (false,a10)))
 else
 some (.inl ((),(IntKind.wrap .i64 (a9+(1:Int))),a10))
 else none
 else
 some (.inr (.inr a10))
def S15_5step (uu:Nat) (x:Unit×Int×PV):Option ((Unit×Int×PV)⊕((Bool×PV)⊕(PV))):=S15_5 uu x.1 x.2.1 x.2.2
def F15 (uu:Nat) (a0:PV):Option (Bool):=
 (F25 uu ((a0.fld 2).asInt)).bind fun y2=>
 let x3:=!y2
 (bif !x3 then F26 uu ((a0.fld 3).asInt) else some false).bind fun y5=>
 bif (bif x3 then true else (!y5)) then
 some false
 else
 (aaf uu (S15_5step uu) ((),(0:Int),a0)).bind fun z=>sumE (fun y34=>
 some y34.1
 ) (fun y35=>
 some true
 ) z
def S15_5l (uu:Nat):LoopE:=⟨5,⟨[1,3],bx10,(.con (.ref 0 [] 48))::sv21⟩,[(.ret,⟨[2],bx10,[.bool,(.data 48)]⟩),(.exit 0,⟨[],bx10,[(.data 48)]⟩)],S15_5step uu⟩
def F15C (uu:Nat):Cfg:=cfg Tryz.prog 55 0 [F25c uu,F26c uu] [S15_5l uu] uu
def F15c (uu:Nat):CallE:=⟨15,⟨1,[],[(.data 48)]⟩,⟨1,[],[.bool]⟩,fun x=>F15 uu x,false⟩
theorem F15k (uu:Nat):aai (F15C uu):=aac (qc (F25ok uu)<|qc (F26ok uu)<|q0) (p0)
theorem S15_5ok (uu:Nat):LoopOk (F15C uu) (lp (aag Tryz.f15) 0):=okL (F15k uu) uu (S15_5l uu) L0
theorem F15ok (uu:Nat):(F15c uu).Ok Tryz.prog:=okE Tryz.f15 (F15k uu) (L1 (S15_5ok uu))
abbrev S34_3x:=(List UInt8)×Unit×Unit×Int×PV×PV
abbrev S34_3y:=(Unit×Bool×PV×PV)⊕(Unit×PV×PV)
def S34_3 (uu:Nat) (a1:List UInt8) (a2:Unit) (a3:Unit) (a4:Int) (a5:PV) (a6:PV):Option (S34_3x⊕S34_3y):=
 bif (decide (a4<(((a5.fld 0).asList).length:Int))) then
 let x10:=(a5.fld 0).asList
 bif aaa a4 x10.length then
 bif (((x10.getD a4.toNat .bad).fld 0).asStr==a1) then
 let x15:=(a5.fld 0).asList
 bif aaa a4 x15.length then
 some (.inr (.inl ((),true,a5,(x15.getD a4.toNat .bad))))
 else none
 else
 some (.inl (a1,(),(),(IntKind.wrap .i64 (a4+(1:Int))),a5,a6))
 else none
 else
 some (.inr (.inr ((),a5,a6)))
def S34_3step (uu:Nat) (x:S34_3x):Option (S34_3x⊕S34_3y):=S34_3 uu x.1 x.2.1 x.2.2.1 x.2.2.2.1 x.2.2.2.2.1 x.2.2.2.2.2
def F34 (uu:Nat) (a0:PV) (a1:List UInt8):Option (PV×Bool):=
 (aaf uu (S34_3step uu) (a1,(),(),(0:Int),a0,(PV.agg [(PV.str ([]:List UInt8)),(PV.slice []),(PV.slice []),(PV.slice []),(PV.slice [])]))).bind fun z=>sumE (fun y18=>
 some (y18.2.2.2,y18.2.1)
 ) (fun y19=>
 some ((PV.agg [(PV.str ([]:List UInt8)),(PV.slice []),(PV.slice []),(PV.slice []),(PV.slice [])]),false)
 ) z
def S34_3l (uu:Nat):LoopE:=⟨3,⟨[1,2,4,6],bx11,.str::(.con (.ref 0 [] 39))::(.con (.ref 1 [] 73))::(.int .i64)::sv22⟩,[(.ret,⟨[4,5],bx11,(.con (.ref 1 [] 73))::.bool::sv22⟩),(.exit 0,⟨[4],bx11,(.con (.ref 1 [] 73))::sv22⟩)],S34_3step uu⟩
def F34C (uu:Nat):Cfg:=cfg Tryz.prog 28 0 [] [S34_3l uu] uu
def F34c (uu:Nat):CallE:=⟨34,⟨2,[],sv2⟩,⟨2,[],[(.data 73),.bool]⟩,fun x=>F34 uu x.1 x.2,(PV.bad,false)⟩
theorem F34k (uu:Nat):aai (F34C uu):=aac (q0) (p0)
theorem S34_3ok (uu:Nat):LoopOk (F34C uu) (lp (aag Tryz.f34) 0):=okL (F34k uu) uu (S34_3l uu) L0
theorem F34ok (uu:Nat):(F34c uu).Ok Tryz.prog:=okE Tryz.f34 (F34k uu) (L1 (S34_3ok uu))
abbrev S65_4x:=Int×Unit×(List PV)×Int×PV
abbrev S65_4y:=(Int×Unit×(List PV)×PV)
def S65_4 (uu:Nat) (a1:Int) (a2:Unit) (a3:List PV) (a4:Int) (a5:PV):Option (S65_4x⊕S65_4y):=
 bif (bif (a1==(1:Int)) then (decide (a4<(((a5.fld 0).asList).length:Int))) else false) then
 let x11:=(a5.fld 0).asList
 bif aaa a4 x11.length then
 let x14:=((x11.getD a4.toNat .bad).fld 0).asStr
 bif decide (a3.length+[(PV.str x14)].length<=aao) then
 some (.inl (a1,(),(a3++[(PV.str x14)]),(IntKind.wrap .i64 (a4+(1:Int))),a5))
 else none
 else none
 else
 some (.inr (a1,(),a3,a5))
def S65_4step (uu:Nat) (x:S65_4x):Option (S65_4x⊕S65_4y):=S65_4 uu x.1 x.2.1 x.2.2.1 x.2.2.2.1 x.2.2.2.2
abbrev S65_8x:=Int×Unit×(List PV)×Int×PV
abbrev S65_8y:=(Int×Unit×(List PV)×PV)
def S65_8 (uu:Nat) (a18:Int) (a19:Unit) (a20:List PV) (a21:Int) (a22:PV):Option (S65_8x⊕S65_8y):=
 bif (bif (a18==(2:Int)) then (decide (a21<(((a22.fld 1).asList).length:Int))) else false) then
 let x28:=(a22.fld 1).asList
 bif aaa a21 x28.length then
 let x31:=((x28.getD a21.toNat .bad).fld 0).asStr
 bif decide (a20.length+[(PV.str x31)].length<=aao) then
 some (.inl (a18,(),(a20++[(PV.str x31)]),(IntKind.wrap .i64 (a21+(1:Int))),a22))
 else none
 else none
 else
 some (.inr (a18,(),a20,a22))
def S65_8step (uu:Nat) (x:S65_8x):Option (S65_8x⊕S65_8y):=S65_8 uu x.1 x.2.1 x.2.2.1 x.2.2.2.1 x.2.2.2.2
abbrev S65_12x:=Int×Unit×(List PV)×Int×PV
abbrev S65_12y:=((List PV)×PV)
def S65_12 (uu:Nat) (a35:Int) (a36:Unit) (a37:List PV) (a38:Int) (a39:PV):Option (S65_12x⊕S65_12y):=
 bif (bif (a35==(3:Int)) then (decide (a38<(((a39.fld 2).asList).length:Int))) else false) then
 let x45:=(a39.fld 2).asList
 bif aaa a38 x45.length then
 let x48:=((x45.getD a38.toNat .bad).fld 0).asStr
 bif decide (a37.length+[(PV.str x48)].length<=aao) then
 some (.inl (a35,(),(a37++[(PV.str x48)]),(IntKind.wrap .i64 (a38+(1:Int))),a39))
 else none
 else none
 else
 some (.inr (a37,a39))
def S65_12step (uu:Nat) (x:S65_12x):Option (S65_12x⊕S65_12y):=S65_12 uu x.1 x.2.1 x.2.2.1 x.2.2.2.1 x.2.2.2.2
def F65 (uu:Nat) (a0:PV) (a1:Int):Option ((List PV)):=
 (aaf uu (S65_4step uu) (a1,(),[],(0:Int),a0)).bind fun y17=>
 (aaf uu (S65_8step uu) (y17.1,(),y17.2.2.1,(0:Int),y17.2.2.2)).bind fun y34=>
 (aaf uu (S65_12step uu) (y34.1,(),y34.2.2.1,(0:Int),y34.2.2.2)).bind fun y51=>
 some y51.1
def S65_4l (uu:Nat):LoopE:=⟨4,⟨[1,2,5,6],bx12,sv23⟩,[(.exit 0,⟨[1,2,5],bx12,(.int .i64)::(.con (.ref 0 [] 39))::sv24⟩)],S65_4step uu⟩
def S65_8l (uu:Nat):LoopE:=⟨8,⟨[1,2,5,7],bx12,sv23⟩,[(.exit 2,⟨[1,2,5],bx12,(.int .i64)::(.con (.ref 0 [] 39))::sv24⟩)],S65_8step uu⟩
def S65_12l (uu:Nat):LoopE:=⟨12,⟨[1,2,5,8],bx12,sv23⟩,[(.exit 4,⟨[5],bx12,sv24⟩)],S65_12step uu⟩
def F65C (uu:Nat):Cfg:=cfg Tryz.prog 70 0 [] [S65_4l uu,S65_8l uu,S65_12l uu] uu
def F65c (uu:Nat):CallE:=⟨65,⟨2,[],[(.data 39),(.int .i64)]⟩,⟨1,[],[(.slice 9)]⟩,fun x=>F65 uu x.1 x.2,[]⟩
theorem F65k (uu:Nat):aai (F65C uu):=aac (q0) (p0)
theorem S65_4ok (uu:Nat):LoopOk (F65C uu) (lp (aag Tryz.f65) 0):=okL (F65k uu) uu (S65_4l uu) L0
theorem S65_8ok (uu:Nat):LoopOk (F65C uu) (lp (aag Tryz.f65) 1):=okL (F65k uu) uu (S65_8l uu) L0
theorem S65_12ok (uu:Nat):LoopOk (F65C uu) (lp (aag Tryz.f65) 2):=okL (F65k uu) uu (S65_12l uu) L0
theorem F65ok (uu:Nat):(F65c uu).Ok Tryz.prog:=okE Tryz.f65 (F65k uu) (L3 (S65_4ok uu) (S65_8ok uu) (S65_12ok uu))
def F66 (uu:Nat) (a0:Unit) (a1:Bool) (a2:Int) (a3:Int) (a4:List UInt8) (a5:List PV):Option ((List UInt8)×(List PV)):=
 bif a1 then
 bif decide (a5.length+[(PV.agg [(PV.str a4),(PV.int a2),(PV.int a3)])].length<=aao) then
 some (a4,(a5++[(PV.agg [(PV.str a4),(PV.int a2),(PV.int a3)])]))
 else none
 else
 some (a4,a5)
def F66c (uu:Nat):CallE:=⟨66,⟨4,bx13,(.con (.ref 0 [] 149))::.bool::sv25⟩,⟨0,bx13,sv26⟩,fun x=>F66 uu x.1 x.2.1 x.2.2.1 x.2.2.2.1 x.2.2.2.2.1 x.2.2.2.2.2,([],[])⟩
theorem F66ok (uu:Nat):(F66c uu).Ok Tryz.prog:=okJ Tryz.f66 25 2 uu [] [] false (q0) (p0) L0
def S67_3 (uu:Nat) (a1:List PV) (a2:Int):Option (((List PV)×Int)⊕((Bool)⊕(Unit))):=
 bif (decide (a2<(a1.length:Int))) then
 bif aaa a2 a1.length then
 let x6:=(a1.getD a2.toNat .bad).asStr
 let x7:=IntKind.wrap .i64 (a2-(1:Int))
 bif aaa x7 a1.length then
 let x9:=(a1.getD x7.toNat .bad).asStr
 bif (Op.bytesLess x6 x9||x6==x9) then
 some (.inr (.inl false))
 else
 some (.inl (a1,(IntKind.wrap .i64 (a2+(1:Int)))))
 else none
 else none
 else
 some (.inr (.inr ()))
def S67_3step (uu:Nat) (x:(List PV)×Int):Option (((List PV)×Int)⊕((Bool)⊕(Unit))):=S67_3 uu x.1 x.2
def F67 (uu:Nat) (a0:List PV):Option (Bool):=
 (aaf uu (S67_3step uu) (a0,(1:Int))).bind fun z=>sumE (fun y12=>
 some y12
 ) (fun y13=>
 some true
 ) z
def S67_3l (uu:Nat):LoopE:=⟨3,⟨[0,3],[],sv27⟩,[(.ret,⟨[2],[],[.bool]⟩),(.exit 0,⟨[],[],[]⟩)],S67_3step uu⟩
def F67C (uu:Nat):Cfg:=cfg Tryz.prog 20 0 [] [S67_3l uu] uu
def F67c (uu:Nat):CallE:=⟨67,⟨1,[],[(.slice 9)]⟩,⟨1,[],[.bool]⟩,fun x=>F67 uu x,false⟩
theorem F67k (uu:Nat):aai (F67C uu):=aac (q0) (p0)
theorem S67_3ok (uu:Nat):LoopOk (F67C uu) (lp (aag Tryz.f67) 0):=okL (F67k uu) uu (S67_3l uu) L0
theorem F67ok (uu:Nat):(F67c uu).Ok Tryz.prog:=okE Tryz.f67 (F67k uu) (L1 (S67_3ok uu))
abbrev S101_3x:=(List PV)×(List UInt8)×Int
abbrev S101_3y:=(Bool)⊕(Unit)
def S101_3 (uu:Nat) (a1:List PV) (a2:List UInt8) (a3:Int):Option (S101_3x⊕S101_3y):=
 bif (decide (a3<(a1.length:Int))) then
 bif aaa a3 a1.length then
 bif ((a1.getD a3.toNat .bad).asStr==a2) then
 some (.inr (.inl true))
 else
 some (.inl (a1,a2,(IntKind.wrap .i64 (a3+(1:Int)))))
 else none
 else
 some (.inr (.inr ()))
def S101_3step (uu:Nat) (x:S101_3x):Option (S101_3x⊕S101_3y):=S101_3 uu x.1 x.2.1 x.2.2
def F101 (uu:Nat) (a0:List PV) (a1:List UInt8):Option (Bool):=
 (aaf uu (S101_3step uu) (a0,a1,(0:Int))).bind fun z=>sumE (fun y10=>
 some y10
 ) (fun y11=>
 some false
 ) z
def S101_3l (uu:Nat):LoopE:=⟨3,⟨[0,1,5],[],(.slice 9)::sv19⟩,[(.ret,⟨[4],[],[.bool]⟩),(.exit 0,⟨[],[],[]⟩)],S101_3step uu⟩
def F101C (uu:Nat):Cfg:=cfg Tryz.prog 18 0 [] [S101_3l uu] uu
def F101c (uu:Nat):CallE:=⟨101,⟨2,[],[(.slice 9),.str]⟩,⟨1,[],[.bool]⟩,fun x=>F101 uu x.1 x.2,false⟩
theorem F101k (uu:Nat):aai (F101C uu):=aac (q0) (p0)
theorem S101_3ok (uu:Nat):LoopOk (F101C uu) (lp (aag Tryz.f101) 0):=okL (F101k uu) uu (S101_3l uu) L0
theorem F101ok (uu:Nat):(F101c uu).Ok Tryz.prog:=okE Tryz.f101 (F101k uu) (L1 (S101_3ok uu))
abbrev S68_3x:=(List PV)×(List PV)×Int
abbrev S68_3y:=(Bool)⊕(Unit)
def S68_3 (uu:Nat) (a1:List PV) (a2:List PV) (a3:Int):Option (S68_3x⊕S68_3y):=
 bif (decide (a3<(a1.length:Int))) then
 bif aaa a3 a1.length then
 (F101 uu a2 (a1.getD a3.toNat .bad).asStr).bind fun y8=>
 bif y8 then
 some (.inr (.inl true))
 else
 some (.inl (a1,a2,(IntKind.wrap .i64 (a3+(1:Int)))))
 else none
 else
 some (.inr (.inr ()))
def S68_3step (uu:Nat) (x:S68_3x):Option (S68_3x⊕S68_3y):=S68_3 uu x.1 x.2.1 x.2.2
def F68 (uu:Nat) (a0:List PV) (a1:List PV):Option (Bool):=
 (aaf uu (S68_3step uu) (a0,a1,(0:Int))).bind fun z=>sumE (fun y10=>
 some y10
 ) (fun y11=>
 some false
 ) z
def S68_3l (uu:Nat):LoopE:=⟨3,⟨[0,1,5],[],(.slice 9)::sv27⟩,[(.ret,⟨[4],[],[.bool]⟩),(.exit 0,⟨[],[],[]⟩)],S68_3step uu⟩
def F68C (uu:Nat):Cfg:=cfg Tryz.prog 18 0 [F101c uu] [S68_3l uu] uu
def F68c (uu:Nat):CallE:=⟨68,⟨2,[],[(.slice 9),(.slice 9)]⟩,⟨1,[],[.bool]⟩,fun x=>F68 uu x.1 x.2,false⟩
theorem F68k (uu:Nat):aai (F68C uu):=aac (qc (F101ok uu)<|q0) (p0)
theorem S68_3ok (uu:Nat):LoopOk (F68C uu) (lp (aag Tryz.f68) 0):=okL (F68k uu) uu (S68_3l uu) L0
theorem F68ok (uu:Nat):(F68c uu).Ok Tryz.prog:=okE Tryz.f68 (F68k uu) (L1 (S68_3ok uu))
abbrev S113_3x:=(List UInt8)×Unit×Int×PV
abbrev S113_3y:=(Int×PV)⊕(PV)
def S113_3 (uu:Nat) (a1:List UInt8) (a2:Unit) (a3:Int) (a4:PV):Option (S113_3x⊕S113_3y):=
 bif (decide (a3<(((a4.fld 0).asList).length:Int))) then
 let x8:=(a4.fld 0).asList
 bif aaa a3 x8.length then
 bif (((x8.getD a3.toNat .bad).fld 0).asStr==a1) then
 some (.inr (.inl (a3,a4)))
 else
 some (.inl (a1,(),(IntKind.wrap .i64 (a3+(1:Int))),a4))
 else none
 else
 some (.inr (.inr a4))
def S113_3step (uu:Nat) (x:S113_3x):Option (S113_3x⊕S113_3y):=S113_3 uu x.1 x.2.1 x.2.2.1 x.2.2.2
def F113 (uu:Nat) (a0:PV) (a1:List UInt8):Option (Int):=
 (aaf uu (S113_3step uu) (a1,(),(0:Int),a0)).bind fun z=>sumE (fun y14=>
 some y14.1
 ) (fun y15=>
 some (-1:Int)
 ) z
def S113_3l (uu:Nat):LoopE:=⟨3,⟨[1,2,5],bx14,.str::sv28⟩,[(.ret,⟨[4],bx14,sv29⟩),(.exit 0,⟨[],bx14,[(.data 39)]⟩)],S113_3step uu⟩
def F113C (uu:Nat):Cfg:=cfg Tryz.prog 22 0 [] [S113_3l uu] uu
def F113c (uu:Nat):CallE:=⟨113,⟨2,[],sv2⟩,⟨1,[],[(.int .i64)]⟩,fun x=>F113 uu x.1 x.2,0⟩
theorem F113k (uu:Nat):aai (F113C uu):=aac (q0) (p0)
theorem S113_3ok (uu:Nat):LoopOk (F113C uu) (lp (aag Tryz.f113) 0):=okL (F113k uu) uu (S113_3l uu) L0
theorem F113ok (uu:Nat):(F113c uu).Ok Tryz.prog:=okE Tryz.f113 (F113k uu) (L1 (S113_3ok uu))
abbrev S102_3x:=Unit×Unit×Unit×Int×(List PV)×PV×PV
abbrev S102_3y:=(Bool×(List PV)×PV×PV)⊕((List PV)×PV×PV)
def S102_3 (uu:Nat) (a1:Unit) (a2:Unit) (a3:Unit) (a4:Int) (a5:List PV) (a6:PV) (a7:PV):Option (S102_3x⊕S102_3y):=
 bif (decide (a4<(((a7.fld 1).asList).length:Int))) then
 let x11:=(a7.fld 1).asList
 bif aaa a4 x11.length then
 let x12:=x11.getD a4.toNat .bad
 bif (bif (((x12.fld 2).asInt) != (1:Int)) then true else ((((x12.fld 4).fld 0).asInt) != (10:Int))) then
 some (.inl ((),(),(),(IntKind.wrap .i64 (a4+(1:Int))),a5,a6,a7))
 else
 (F113 uu a6 (((x12.fld 4).fld 1).asStr)).bind fun y20=>
 let x21:=decide (y20≥(0:Int))
 bif imp x21 (aaa y20 a5.length) then
 bif (bif x21 then (!((a5.getD y20.toNat .bad).asBool)) else false) then
 some (.inr (.inl (true,a5,a6,a7)))
 else
 some (.inl ((),(),(),(IntKind.wrap .i64 (a4+(1:Int))),a5,a6,a7))
 else none
 else none
 else
 some (.inr (.inr (a5,a6,a7)))
def S102_3step (uu:Nat) (x:S102_3x):Option (S102_3x⊕S102_3y):=S102_3 uu x.1 x.2.1 x.2.2.1 x.2.2.2.1 x.2.2.2.2.1 x.2.2.2.2.2.1 x.2.2.2.2.2.2
def F102 (uu:Nat) (a0:PV) (a1:PV) (a2:Unit) (a3:List PV):Option (Bool×(List PV)):=
 (aaf uu (S102_3step uu) ((),(),(),(0:Int),a3,a0,a1)).bind fun z=>sumE (fun y26=>
 some (y26.1,y26.2.1)
 ) (fun y27=>
 some (false,y27.1)
 ) z
def S102_3l (uu:Nat):LoopE:=⟨3,⟨[2,3,4,7],bx15,(.con (.arr 0 0 4))::(.con (.ref 1 [] 39))::(.con (.ref 2 [] 73))::(.int .i64)::sv30⟩,[(.ret,⟨[6],bx15,.bool::sv30⟩),(.exit 0,⟨[],bx15,sv30⟩)],S102_3step uu⟩
def F102C (uu:Nat):Cfg:=cfg Tryz.prog 45 1 [F113c uu] [S102_3l uu] uu
def F102c (uu:Nat):CallE:=⟨102,⟨3,[.arr 4 0],[(.data 39),(.data 73),(.con (.arr 0 0 4)),(.slice 4)]⟩,⟨1,[.arr 4 0],[.bool,(.slice 4)]⟩,fun x=>F102 uu x.1 x.2.1 x.2.2.1 x.2.2.2,(false,[])⟩
theorem F102k (uu:Nat):aai (F102C uu):=aac (qc (F113ok uu)<|q0) (p0)
theorem S102_3ok (uu:Nat):LoopOk (F102C uu) (lp (aag Tryz.f102) 0):=okL (F102k uu) uu (S102_3l uu) L0
theorem F102ok (uu:Nat):(F102c uu).Ok Tryz.prog:=okE Tryz.f102 (F102k uu) (L1 (S102_3ok uu))
abbrev S69_9x:=Unit×Unit×Bool×Int×Int×PV×(List PV)
abbrev S69_9y:=(Unit×Unit×Bool×Int×PV×(List PV))
def S69_9 (uu:Nat) (a14:Unit) (a15:Unit) (a16:Bool) (a17:Int) (a18:Int) (a19:PV) (a20:List PV):Option (S69_9x⊕S69_9y):=
 bif (decide (a18<(((a19.fld 0).asList).length:Int))) then
 bif aaa a18 a20.length then
 let x25:=!((a20.getD a18.toNat .bad).asBool)
 let x26:=(a19.fld 0).asList
 bif imp x25 (aaa a18 x26.length) then
 bif x25 then
 (F102 uu a19 (x26.getD a18.toNat .bad) () a20).bind fun y28=>
 bif (bif x25 then (!y28.1) else false) then
 bif aaa a18 y28.2.length then
 some (.inl ((),(),true,a17,(IntKind.wrap .i64 (a18+(1:Int))),a19,(y28.2.set a18.toNat (PV.bool true))))
 else none
 else
 some (.inl ((),(),a16,a17,(IntKind.wrap .i64 (a18+(1:Int))),a19,y28.2))
 else
 bif (bif x25 then true else false) then
 bif aaa a18 a20.length then
 some (.inl ((),(),true,a17,(IntKind.wrap .i64 (a18+(1:Int))),a19,(a20.set a18.toNat (PV.bool true))))
 else none
 else
 some (.inl ((),(),a16,a17,(IntKind.wrap .i64 (a18+(1:Int))),a19,a20))
 else none
 else none
 else
 some (.inr ((),(),a16,a17,a19,a20))
def S69_9step (uu:Nat) (x:S69_9x):Option (S69_9x⊕S69_9y):=S69_9 uu x.1 x.2.1 x.2.2.1 x.2.2.2.1 x.2.2.2.2.1 x.2.2.2.2.2.1 x.2.2.2.2.2.2
abbrev S69_5x:=Unit×Unit×Bool×Int×PV×(List PV)
abbrev S69_5y:=(Unit×PV×(List PV))
def S69_5 (uu:Nat) (a4:Unit) (a5:Unit) (a6:Bool) (a7:Int) (a8:PV) (a9:List PV):Option (S69_5x⊕S69_5y):=
 bif (bif (decide (a7<(((a8.fld 0).asList).length:Int))) then a6 else false) then
 (aaf uu (S69_9step uu) ((),(),false,a7,(0:Int),a8,a9)).bind fun y38=>
 some (.inl ((),(),y38.2.2.1,(IntKind.wrap .i64 (y38.2.2.2.1+(1:Int))),y38.2.2.2.2.1,y38.2.2.2.2.2))
 else
 some (.inr ((),a8,a9))
def S69_5step (uu:Nat) (x:S69_5x):Option (S69_5x⊕S69_5y):=S69_5 uu x.1 x.2.1 x.2.2.1 x.2.2.2.1 x.2.2.2.2.1 x.2.2.2.2.2
def F69 (uu:Nat) (a0:PV):Option ((List PV)):=
 let x2:=(((a0.fld 0).asList).length:Int)
 bif decide (0<=x2/\x2<=x2/\x2<=aao) then
 (aaf uu (S69_5step uu) ((),(),true,(0:Int),a0,(List.replicate x2.toNat (PV.bool false)))).bind fun y41=>
 some y41.2.2
 else none
def S69_9l (uu:Nat):LoopE:=⟨9,⟨[1,3,4,5,6],bx16,(.con (.ref 0 [] 39))::(.con (.arr 1 0 4))::.bool::(.int .i64)::sv31⟩,[(.exit 2,⟨[1,3,4,5],bx16,(.con (.ref 0 [] 39))::(.con (.arr 1 0 4))::.bool::sv31⟩)],S69_9step uu⟩
def S69_5l (uu:Nat):LoopE:=⟨5,⟨[1,3,4,5],bx16,(.con (.ref 0 [] 39))::(.con (.arr 1 0 4))::.bool::sv31⟩,[(.exit 0,⟨[3],bx16,(.con (.arr 1 0 4))::sv32⟩)],S69_5step uu⟩
def F69C (uu:Nat):Cfg:=cfg Tryz.prog 48 0 [F102c uu] [S69_9l uu,S69_5l uu] uu
def F69c (uu:Nat):CallE:=⟨69,⟨1,[],[(.data 39)]⟩,⟨1,[],[(.slice 4)]⟩,fun x=>F69 uu x,[]⟩
theorem F69k (uu:Nat):aai (F69C uu):=aac (qc (F102ok uu)<|q0) (p0)
theorem S69_9ok (uu:Nat):LoopOk (F69C uu) (lp (lp (aag Tryz.f69) 0) 0):=okL (F69k uu) uu (S69_9l uu) L0
theorem S69_5ok (uu:Nat):LoopOk (F69C uu) (lp (aag Tryz.f69) 0):=okL (F69k uu) uu (S69_5l uu) (L1 (S69_9ok uu))
theorem F69ok (uu:Nat):(F69c uu).Ok Tryz.prog:=okE Tryz.f69 (F69k uu) (L1 (S69_5ok uu))
def S137_3 (uu:Nat) (a3:List UInt8) (a4:Int):Option (((List UInt8)×Int)⊕(((List UInt8)×(List UInt8))⊕((List UInt8)))):=
 bif (decide (a4≥(0:Int))) then
 bif aaa a4 a3.length then
 bif (((a3.getD a4.toNat 0).toNat:Int)==(46:Int)) then
 bif decide (0<=(0:Int)/\(0:Int)<=a4/\a4<=(a3.length:Int)) then
 let x9:=IntKind.wrap .i64 (a4+(1:Int))
 bif decide (0<=x9/\x9<=(a3.length:Int)/\(a3.length:Int)<=(a3.length:Int)) then
 some (.inr (.inl (((a3.take a4.toNat).drop (0:Int).toNat),((a3.take (a3.length:Int).toNat).drop x9.toNat))))
 else none
 else none
 else
 some (.inl (a3,(IntKind.wrap .i64 (a4-(1:Int)))))
 else none
 else
 some (.inr (.inr a3))
def S137_3step (uu:Nat) (x:(List UInt8)×Int):Option (((List UInt8)×Int)⊕(((List UInt8)×(List UInt8))⊕((List UInt8)))):=S137_3 uu x.1 x.2
def F137 (uu:Nat) (a0:List UInt8):Option ((List UInt8)×(List UInt8)):=
 (aaf uu (S137_3step uu) (a0,(IntKind.wrap .i64 ((a0.length:Int)-(1:Int))))).bind fun z=>sumE (fun y12=>
 some (y12.1,y12.2)
 ) (fun y13=>
 some (([]:List UInt8),y13)
 ) z
def S137_3l (uu:Nat):LoopE:=⟨3,⟨[0,4],[],sv19⟩,[(.ret,⟨[2,3],[],[.str,.str]⟩),(.exit 0,⟨[0],[],[.str]⟩)],S137_3step uu⟩
def F137C (uu:Nat):Cfg:=cfg Tryz.prog 24 0 [] [S137_3l uu] uu
def F137c (uu:Nat):CallE:=⟨137,⟨1,[],[.str]⟩,⟨2,[],[.str,.str]⟩,fun x=>F137 uu x,([],[])⟩
theorem F137k (uu:Nat):aai (F137C uu):=aac (q0) (p0)
theorem S137_3ok (uu:Nat):LoopOk (F137C uu) (lp (aag Tryz.f137) 0):=okL (F137k uu) uu (S137_3l uu) L0
theorem F137ok (uu:Nat):(F137c uu).Ok Tryz.prog:=okE Tryz.f137 (F137k uu) (L1 (S137_3ok uu))
def F138 (uu:Nat) (a0:List UInt8):Option (Bool):=
 bif (a0==([109,101,115,115,97,103,101]:List UInt8)) then
 some true
 else
 bif (a0==([101,110,117,109]:List UInt8)) then
 some true
 else
 bif (a0==([115,101,114,118,105,99,101]:List UInt8)) then
 some true
 else
 bif (a0==([117,110,105,111,110]:List UInt8)) then
 some true
 else
 bif (a0==([109,97,112]:List UInt8)) then
 some true
 else
 bif (a0==([108,105,115,116]:List UInt8)) then
 some true
 else
 let x7:=a0==([114,101,113,117,105,114,101,100]:List UInt8)
 bif x7 then
 some true
 else
 let x8:=a0==([111,112,116,105,111,110,97,108]:List UInt8)
 bif x8 then
 some true
 else
 bif (a0==([112,108,97,105,110]:List UInt8)) then
 some true
 else
 bif (a0==([100,101,102,97,117,108,116]:List UInt8)) then
 some true
 else
 let x11:=a0==([114,101,115,101,114,118,101,100]:List UInt8)
 bif x11 then
 some true
 else
 bif (a0==([105,109,112,111,114,116]:List UInt8)) then
 some true
 else
 bif (a0==([115,112,97,99,101]:List UInt8)) then
 some true
 else
 bif (a0==([114,112,99]:List UInt8)) then
 some true
 else
 bif (a0==([115,116,114,101,97,109]:List UInt8)) then
 some true
 else
 bif (a0==([114,101,116,117,114,110,115]:List UInt8)) then
 some true
 else
 bif (a0==([111,112,101,110]:List UInt8)) then
 some true
 else
 bif (a0==([116,114,117,101]:List UInt8)) then
 some true
 else
 bif (a0==([102,97,108,115,101]:List UInt8)) then
 some true
 else
 bif (a0==([110,97,110]:List UInt8)) then
 some true
 else
 bif (a0==([105,110,102]:List UInt8)) then
 some true
 else
 some false
def F138c (uu:Nat):CallE:=⟨138,⟨1,[],[.str]⟩,⟨1,[],[.bool]⟩,fun x=>F138 uu x,false⟩
theorem F138ok (uu:Nat):(F138c uu).Ok Tryz.prog:=okJ Tryz.f138 26 0 uu [] [] false (q0) (p0) L0
def S103_5 (uu:Nat) (a3:List UInt8) (a4:Int):Option (((List UInt8)×Int)⊕((Bool)⊕(Unit))):=
 bif (bif (decide (a4<(120:Int))) then (!(a3==([]:List UInt8))) else false) then
 (F137 uu a3).bind fun y8=>
 (F138 uu y8.2).bind fun y11=>
 bif y11 then
 some (.inr (.inl false))
 else
 some (.inl (y8.1,(IntKind.wrap .i64 (a4+(1:Int)))))
 else
 some (.inr (.inr ()))
def S103_5step (uu:Nat) (x:(List UInt8)×Int):Option (((List UInt8)×Int)⊕((Bool)⊕(Unit))):=S103_5 uu x.1 x.2
def F103 (uu:Nat) (a0:List UInt8):Option (Bool):=
 (F14 uu a0).bind fun y1=>
 bif (!y1) then
 some false
 else
 (aaf uu (S103_5step uu) (a0,(0:Int))).bind fun z=>sumE (fun y13=>
 some y13
 ) (fun y14=>
 some true
 ) z
def S103_5l (uu:Nat):LoopE:=⟨5,⟨[0,3],[],sv19⟩,[(.ret,⟨[2],[],[.bool]⟩),(.exit 0,⟨[],[],[]⟩)],S103_5step uu⟩
def F103C (uu:Nat):Cfg:=cfg Tryz.prog 25 0 [F14c uu,F137c uu,F138c uu] [S103_5l uu] uu
def F103c (uu:Nat):CallE:=⟨103,⟨1,[],[.str]⟩,⟨1,[],[.bool]⟩,fun x=>F103 uu x,false⟩
theorem F103k (uu:Nat):aai (F103C uu):=aac (qc (F14ok uu)<|qc (F137ok uu)<|qc (F138ok uu)<|q0) (p0)
theorem S103_5ok (uu:Nat):LoopOk (F103C uu) (lp (aag Tryz.f103) 0):=okL (F103k uu) uu (S103_5l uu) L0
theorem F103ok (uu:Nat):(F103c uu).Ok Tryz.prog:=okE Tryz.f103 (F103k uu) (L1 (S103_5ok uu))
def F104 (uu:Nat) (a0:List UInt8):Option (Bool):=
 (F24 uu a0).bind fun y1=>
 (bif y1 then F138 uu a0 else some false).bind fun y2=>
 some (bif y1 then (!y2) else false)
def F104c (uu:Nat):CallE:=⟨104,⟨1,[],[.str]⟩,⟨1,[],[.bool]⟩,fun x=>F104 uu x,false⟩
theorem F104ok (uu:Nat):(F104c uu).Ok Tryz.prog:=okJ Tryz.f104 10 0 uu _ [] false (qc (F24ok uu)<|qc (F138ok uu)<|q0) (p0) L0
def S105_3 (uu:Nat) (a1:List PV) (a2:Int) (a3:Int):Option (((List PV)×Int×Int)⊕((Bool)⊕(Unit))):=
 bif (decide (a3<(a1.length:Int))) then
 bif aaa a3 a1.length then
 let x9:=decide (((a1.getD a3.toNat .bad).fld 0).asInt<=a2)
 bif imp x9 (aaa a3 a1.length) then
 bif (bif x9 then (decide (a2<=((a1.getD a3.toNat .bad).fld 1).asInt)) else false) then
 some (.inr (.inl true))
 else
 some (.inl (a1,a2,(IntKind.wrap .i64 (a3+(1:Int)))))
 else none
 else none
 else
 some (.inr (.inr ()))
def S105_3step (uu:Nat) (x:(List PV)×Int×Int):Option (((List PV)×Int×Int)⊕((Bool)⊕(Unit))):=S105_3 uu x.1 x.2.1 x.2.2
def F105 (uu:Nat) (a0:List PV) (a1:Int):Option (Bool):=
 (aaf uu (S105_3step uu) (a0,a1,(0:Int))).bind fun z=>sumE (fun y16=>
 some y16
 ) (fun y17=>
 some false
 ) z
def S105_3l (uu:Nat):LoopE:=⟨3,⟨[0,1,5],[],(.slice 219)::sv15⟩,[(.ret,⟨[4],[],[.bool]⟩),(.exit 0,⟨[],[],[]⟩)],S105_3step uu⟩
def F105C (uu:Nat):Cfg:=cfg Tryz.prog 28 0 [] [S105_3l uu] uu
def F105c (uu:Nat):CallE:=⟨105,⟨2,[],sv33⟩,⟨1,[],[.bool]⟩,fun x=>F105 uu x.1 x.2,false⟩
theorem F105k (uu:Nat):aai (F105C uu):=aac (q0) (p0)
theorem S105_3ok (uu:Nat):LoopOk (F105C uu) (lp (aag Tryz.f105) 0):=okL (F105k uu) uu (S105_3l uu) L0
theorem F105ok (uu:Nat):(F105c uu).Ok Tryz.prog:=okE Tryz.f105 (F105k uu) (L1 (S105_3ok uu))
def F106 (uu:Nat) (a0:PV):Option (Bool):=
 bif (((a0.fld 2).asInt) != (5:Int)) then
 some (bif (bif (decide (((a0.fld 2).asInt)≥(1:Int))) then (decide (((a0.fld 2).asInt)<=(4:Int))) else false) then (((a0.fld 3).asInt)==(0:Int)) else false)
 else
 let x11:=(a0.fld 3).asInt
 bif (x11==(1:Int)) then
 some true
 else
 bif (x11==(2:Int)) then
 some true
 else
 bif (x11==(3:Int)) then
 some true
 else
 bif (x11==(4:Int)) then
 some true
 else
 bif (x11==(5:Int)) then
 some true
 else
 bif (x11==(7:Int)) then
 some true
 else
 some false
def F106c (uu:Nat):CallE:=⟨106,⟨1,[],[(.data 68)]⟩,⟨1,[],[.bool]⟩,fun x=>F106 uu x,false⟩
theorem F106ok (uu:Nat):(F106c uu).Ok Tryz.prog:=okJ Tryz.f106 28 0 uu [] [] false (q0) (p0) L0
abbrev S139_3x:=(List UInt8)×Unit×Int×PV
abbrev S139_3y:=(Int×PV)⊕(PV)
def S139_3 (uu:Nat) (a1:List UInt8) (a2:Unit) (a3:Int) (a4:PV):Option (S139_3x⊕S139_3y):=
 bif (decide (a3<(((a4.fld 1).asList).length:Int))) then
 let x8:=(a4.fld 1).asList
 bif aaa a3 x8.length then
 bif (((x8.getD a3.toNat .bad).fld 0).asStr==a1) then
 some (.inr (.inl (a3,a4)))
 else
 some (.inl (a1,(),(IntKind.wrap .i64 (a3+(1:Int))),a4))
 else none
 else
 some (.inr (.inr a4))
def S139_3step (uu:Nat) (x:S139_3x):Option (S139_3x⊕S139_3y):=S139_3 uu x.1 x.2.1 x.2.2.1 x.2.2.2
def F139 (uu:Nat) (a0:PV) (a1:List UInt8):Option (Int):=
 (aaf uu (S139_3step uu) (a1,(),(0:Int),a0)).bind fun z=>sumE (fun y14=>
 some y14.1
 ) (fun y15=>
 some (-1:Int)
 ) z
def S139_3l (uu:Nat):LoopE:=⟨3,⟨[1,2,5],bx14,.str::sv28⟩,[(.ret,⟨[4],bx14,sv29⟩),(.exit 0,⟨[],bx14,[(.data 39)]⟩)],S139_3step uu⟩
def F139C (uu:Nat):Cfg:=cfg Tryz.prog 22 0 [] [S139_3l uu] uu
def F139c (uu:Nat):CallE:=⟨139,⟨2,[],sv2⟩,⟨1,[],[(.int .i64)]⟩,fun x=>F139 uu x.1 x.2,0⟩
theorem F139k (uu:Nat):aai (F139C uu):=aac (q0) (p0)
theorem S139_3ok (uu:Nat):LoopOk (F139C uu) (lp (aag Tryz.f139) 0):=okL (F139k uu) uu (S139_3l uu) L0
theorem F139ok (uu:Nat):(F139c uu).Ok Tryz.prog:=okE Tryz.f139 (F139k uu) (L1 (S139_3ok uu))
def F107 (uu:Nat) (a0:PV) (a1:PV):Option (Bool):=
 let x1:=((a1.fld 4).fld 0).asInt
 bif (x1==(9:Int)) then
 (F139 uu a0 (((a1.fld 4).fld 1).asStr)).bind fun y4=>
 some (decide (y4≥(0:Int)))
 else
 bif (x1==(10:Int)) then
 (F113 uu a0 (((a1.fld 4).fld 1).asStr)).bind fun y8=>
 some (bif (decide (y8≥(0:Int))) then (((a1.fld 2).asInt) != (3:Int)) else false)
 else
 some (bif (bif (decide ((((a1.fld 4).fld 0).asInt)≥(1:Int))) then (decide ((((a1.fld 4).fld 0).asInt)<=(8:Int))) else false) then ((((a1.fld 4).fld 1).asStr)==([]:List UInt8)) else false)
def F107c (uu:Nat):CallE:=⟨107,⟨2,[],[(.data 39),(.data 68)]⟩,⟨1,[],[.bool]⟩,fun x=>F107 uu x.1 x.2,false⟩
theorem F107ok (uu:Nat):(F107c uu).Ok Tryz.prog:=okJ Tryz.f107 45 0 uu _ [] false (qc (F139ok uu)<|qc (F113ok uu)<|q0) (p0) L0
abbrev S108_9x:=Int×Unit×Unit×Bool×Int×PV×PV
abbrev S108_9y:=(Bool×PV×PV)⊕(Int×Unit×Unit×Bool×PV×PV)
def S108_9 (uu:Nat) (a11:Int) (a12:Unit) (a13:Unit) (a14:Bool) (a15:Int) (a16:PV) (a17:PV):Option (S108_9x⊕S108_9y):=
 bif (decide (a15<(((a16.fld 1).asList).length:Int))) then
 let x21:=(a16.fld 1).asList
 bif aaa a15 x21.length then
 bif (((x21.getD a15.toNat .bad).fld 1).asStr==((a17.fld 5).asStr)) then
 some (.inr (.inl (false,a16,a17)))
 else
 let x27:=decide (a15<a11)
 let x28:=(a16.fld 1).asList
 bif imp x27 (aaa a15 x28.length) then
 bif (bif x27 then (((x28.getD a15.toNat .bad).fld 5).asStr==((a17.fld 5).asStr)) else false) then
 some (.inl (a11,(),(),true,(IntKind.wrap .i64 (a15+(1:Int))),a16,a17))
 else
 some (.inl (a11,(),(),a14,(IntKind.wrap .i64 (a15+(1:Int))),a16,a17))
 else none
 else none
 else
 some (.inr (.inr (a11,(),(),a14,a16,a17)))
def S108_9step (uu:Nat) (x:S108_9x):Option (S108_9x⊕S108_9y):=S108_9 uu x.1 x.2.1 x.2.2.1 x.2.2.2.1 x.2.2.2.2.1 x.2.2.2.2.2.1 x.2.2.2.2.2.2
def F108 (uu:Nat) (a0:PV) (a1:Int):Option (Bool):=
 let x1:=(a0.fld 1).asList
 bif aaa a1 x1.length then
 let x2:=x1.getD a1.toNat .bad
 bif (((x2.fld 5).asStr)==([]:List UInt8)) then
 some true
 else
 let x6:=((x2.fld 2).asInt) != (2:Int)
 (bif !x6 then F104 uu ((x2.fld 5).asStr) else some false).bind fun y8=>
 bif (bif x6 then true else (!y8)) then
 some false
 else
 (aaf uu (S108_9step uu) (a1,(),(),false,(0:Int),a0,x2)).bind fun z=>sumE (fun y37=>
 some y37.1
 ) (fun y38=>
 let x40:=!y38.2.2.2.1
 let x41:=(y38.2.2.2.2.1.fld 1).asList
 let x43:=IntKind.wrap .i64 (y38.1-(1:Int))
 bif imp (!x40) (aaa x43 x41.length) then
 some (bif x40 then true else (((x41.getD x43.toNat .bad).fld 5).asStr==((y38.2.2.2.2.2.fld 5).asStr)))
 else none
 ) z
 else none
def S108_9l (uu:Nat):LoopE:=⟨9,⟨[1,2,5,6,7],bx17,(.int .i64)::(.con (.ref 0 [] 73))::(.con (.ref 1 [] 68))::.bool::(.int .i64)::sv34⟩,[(.ret,⟨[4],bx17,.bool::sv34⟩),(.exit 0,⟨[1,2,5,6],bx17,(.int .i64)::(.con (.ref 0 [] 73))::(.con (.ref 1 [] 68))::.bool::sv34⟩)],S108_9step uu⟩
def F108C (uu:Nat):Cfg:=cfg Tryz.prog 69 0 [F104c uu] [S108_9l uu] uu
def F108c (uu:Nat):CallE:=⟨108,⟨2,[],[(.data 73),(.int .i64)]⟩,⟨1,[],[.bool]⟩,fun x=>F108 uu x.1 x.2,false⟩
theorem F108k (uu:Nat):aai (F108C uu):=aac (qc (F104ok uu)<|q0) (p0)
theorem S108_9ok (uu:Nat):LoopOk (F108C uu) (lp (aag Tryz.f108) 0):=okL (F108k uu) uu (S108_9l uu) L0
theorem F108ok (uu:Nat):(F108c uu).Ok Tryz.prog:=okE Tryz.f108 (F108k uu) (L1 (S108_9ok uu))
def F140 (uu:Nat) (a0:PV) (a1:PV):Option (Bool):=
 some (bif (bif (bif (((a0.fld 0).asInt)==((a1.fld 0).asInt)) then (((a0.fld 1).asInt)==((a1.fld 1).asInt)) else false) then (((a0.fld 2).asStr)==((a1.fld 2).asStr)) else false) then ((IntKind.wrap .i64 ((IntKind.wrap .i64 ((IntKind.wrap .i64 ((IntKind.wrap .i64 ((IntKind.wrap .i64 ((IntKind.wrap .i64 ((IntKind.wrap .i64 ((((a0.fld 3).asList).length:Int)+(((a0.fld 4).asList).length:Int)))+(((a0.fld 5).asList).length:Int)))+(((a0.fld 6).asList).length:Int)))+(((a1.fld 3).asList).length:Int)))+(((a1.fld 4).asList).length:Int)))+(((a1.fld 5).asList).length:Int)))+(((a1.fld 6).asList).length:Int)))==(0:Int)) else false)
def F140c (uu:Nat):CallE:=⟨140,⟨2,[],sv35⟩,⟨1,[],[.bool]⟩,fun x=>F140 uu x.1 x.2,false⟩
theorem F140ok (uu:Nat):(F140c uu).Ok Tryz.prog:=okJ Tryz.f140 58 0 uu [] [] false (q0) (p0) L0
def F162 (uu:Nat) (a0:Int):Option (Bool):=
 some (bif (decide (a0≥(1:Int))) then (decide (a0<=(9:Int))) else false)
def F162c (uu:Nat):CallE:=⟨162,⟨1,[],[(.int .i64)]⟩,⟨1,[],[.bool]⟩,fun x=>F162 uu x,false⟩
theorem F162ok (uu:Nat):(F162c uu).Ok Tryz.prog:=okJ Tryz.f162 9 0 uu [] [] false (q0) (p0) L0
def F163 (uu:Nat) (a0:PV):Option (Bool):=
 some (bif (bif (bif ((((a0.fld 3).asList).length:Int)==(0:Int)) then ((((a0.fld 4).asList).length:Int)==(0:Int)) else false) then ((((a0.fld 5).asList).length:Int)==(0:Int)) else false) then ((((a0.fld 6).asList).length:Int)==(0:Int)) else false)
def F163c (uu:Nat):CallE:=⟨163,⟨1,[],[(.data 63)]⟩,⟨1,[],[.bool]⟩,fun x=>F163 uu x,false⟩
theorem F163ok (uu:Nat):(F163c uu).Ok Tryz.prog:=okJ Tryz.f163 25 0 uu [] [] false (q0) (p0) L0
def F164 (uu:Nat) (a0:Int):Option (Bool):=
 some (bif (a0==(7:Int)) then true else (a0==(8:Int)))
def F164c (uu:Nat):CallE:=⟨164,⟨1,[],[(.int .i64)]⟩,⟨1,[],[.bool]⟩,fun x=>F164 uu x,false⟩
theorem F164ok (uu:Nat):(F164c uu).Ok Tryz.prog:=okJ Tryz.f164 9 0 uu [] [] false (q0) (p0) L0
def F173 (uu:Nat) (a0:List UInt8) (a1:Int) (a2:Int) (a3:Int):Option (Bool):=
 let x2:=decide (a1<(a0.length:Int))
 bif imp x2 (aaa a1 a0.length) then
 let x5:=bif x2 then (decide (((a0.getD a1.toNat 0).toNat:Int)≥a2)) else false
 bif imp x5 (aaa a1 a0.length) then
 some (bif x5 then (decide (((a0.getD a1.toNat 0).toNat:Int)<=a3)) else false)
 else none
 else none
def F173c (uu:Nat):CallE:=⟨173,⟨4,[],[.str,(.int .i64),(.int .u8),(.int .u8)]⟩,⟨1,[],[.bool]⟩,fun x=>F173 uu x.1 x.2.1 x.2.2.1 x.2.2.2,false⟩
theorem F173ok (uu:Nat):(F173c uu).Ok Tryz.prog:=okJ Tryz.f173 27 0 uu [] [] false (q0) (p0) L0
abbrev S172_3x:=(List UInt8)×Int×Int×Int
abbrev S172_3y:=(Bool)⊕(Unit)
def S172_3 (uu:Nat) (a1:List UInt8) (a2:Int) (a3:Int) (a4:Int):Option (S172_3x⊕S172_3y):=
 bif (decide (a4<a3)) then
 (F173 uu a1 (IntKind.wrap .i64 (a2+a4)) (128:Int) (191:Int)).bind fun y7=>
 bif (!y7) then
 some (.inr (.inl false))
 else
 some (.inl (a1,a2,a3,(IntKind.wrap .i64 (a4+(1:Int)))))
 else
 some (.inr (.inr ()))
def S172_3step (uu:Nat) (x:S172_3x):Option (S172_3x⊕S172_3y):=S172_3 uu x.1 x.2.1 x.2.2.1 x.2.2.2
def F172 (uu:Nat) (a0:List UInt8) (a1:Int) (a2:Int):Option (Bool):=
 (aaf uu (S172_3step uu) (a0,a1,a2,(0:Int))).bind fun z=>sumE (fun y10=>
 some y10
 ) (fun y11=>
 some true
 ) z
def S172_3l (uu:Nat):LoopE:=⟨3,⟨[0,1,2,7],[],.str::(.int .i64)::sv15⟩,[(.ret,⟨[6],[],[.bool]⟩),(.exit 0,⟨[],[],[]⟩)],S172_3step uu⟩
def F172C (uu:Nat):Cfg:=cfg Tryz.prog 19 0 [F173c uu] [S172_3l uu] uu
def F172c (uu:Nat):CallE:=⟨172,⟨3,[],.str::sv15⟩,⟨1,[],[.bool]⟩,fun x=>F172 uu x.1 x.2.1 x.2.2,false⟩
theorem F172k (uu:Nat):aai (F172C uu):=aac (qc (F173ok uu)<|q0) (p0)
theorem S172_3ok (uu:Nat):LoopOk (F172C uu) (lp (aag Tryz.f172) 0):=okL (F172k uu) uu (S172_3l uu) L0
theorem F172ok (uu:Nat):(F172c uu).Ok Tryz.prog:=okE Tryz.f172 (F172k uu) (L1 (S172_3ok uu))
def F154 (uu:Nat) (a0:List UInt8) (a1:Int):Option (Int):=
 bif aaa a1 a0.length then
 let x1:=((a0.getD a1.toNat 0).toNat:Int)
 bif (decide (x1<(128:Int))) then
 some (1:Int)
 else
 let x5:=bif (decide (x1≥(194:Int))) then (decide (x1<=(223:Int))) else false
 (bif x5 then F172 uu a0 (IntKind.wrap .i64 (a1+(1:Int))) (1:Int) else some false).bind fun y7=>
 bif (bif x5 then y7 else false) then
 some (2:Int)
 else
 let x9:=x1==(224:Int)
 (bif x9 then F173 uu a0 (IntKind.wrap .i64 (a1+(1:Int))) (160:Int) (191:Int) else some false).bind fun y11=>
 let x12:=bif x9 then y11 else false
 (bif x12 then F172 uu a0 (IntKind.wrap .i64 (a1+(2:Int))) (1:Int) else some false).bind fun y14=>
 bif (bif x12 then y14 else false) then
 some (3:Int)
 else
 let x16:=x1==(237:Int)
 (bif x16 then F173 uu a0 (IntKind.wrap .i64 (a1+(1:Int))) (128:Int) (159:Int) else some false).bind fun y18=>
 let x19:=bif x16 then y18 else false
 (bif x19 then F172 uu a0 (IntKind.wrap .i64 (a1+(2:Int))) (1:Int) else some false).bind fun y21=>
 bif (bif x19 then y21 else false) then
 some (3:Int)
 else
 let x27:=bif (bif (decide (x1≥(225:Int))) then (decide (x1<=(239:Int))) else false) then (x1 != (237:Int)) else false
 (bif x27 then F172 uu a0 (IntKind.wrap .i64 (a1+(1:Int))) (2:Int) else some false).bind fun y29=>
 bif (bif x27 then y29 else false) then
 some (3:Int)
 else
 let x31:=x1==(240:Int)
 (bif x31 then F173 uu a0 (IntKind.wrap .i64 (a1+(1:Int))) (144:Int) (191:Int) else some false).bind fun y33=>
 let x34:=bif x31 then y33 else false
 (bif x34 then F172 uu a0 (IntKind.wrap .i64 (a1+(2:Int))) (2:Int) else some false).bind fun y36=>
 bif (bif x34 then y36 else false) then
 some (4:Int)
 else
 let x40:=bif (decide (x1≥(241:Int))) then (decide (x1<=(243:Int))) else false
 (bif x40 then F172 uu a0 (IntKind.wrap .i64 (a1+(1:Int))) (3:Int) else some false).bind fun y42=>
 bif (bif x40 then y42 else false) then
 some (4:Int)
 else
 let x44:=x1==(244:Int)
 (bif x44 then F173 uu a0 (IntKind.wrap .i64 (a1+(1:Int))) (128:Int) (143:Int) else some false).bind fun y46=>
 let x47:=bif x44 then y46 else false
 (bif x47 then F172 uu a0 (IntKind.wrap .i64 (a1+(2:Int))) (2:Int) else some false).bind fun y49=>
 bif (bif x47 then y49 else false) then
 some (4:Int)
 else
 some (0:Int)
 else none
def F154c (uu:Nat):CallE:=⟨154,⟨2,[],sv19⟩,⟨1,[],[(.int .i64)]⟩,fun x=>F154 uu x.1 x.2,0⟩
theorem F154ok (uu:Nat):(F154c uu).Ok Tryz.prog:=okJ Tryz.f154 115 0 uu _ [] false (qc (F172ok uu)<|qc (F173ok uu)<|q0) (p0) L0
def S144_3 (uu:Nat) (a1:List UInt8) (a2:Int):Option (((List UInt8)×Int)⊕((Int)⊕(Unit))):=
 bif (decide (a2<(a1.length:Int))) then
 (F154 uu a1 a2).bind fun y5=>
 bif (y5==(0:Int)) then
 some (.inr (.inl a2))
 else
 some (.inl (a1,(IntKind.wrap .i64 (a2+y5))))
 else
 some (.inr (.inr ()))
def S144_3step (uu:Nat) (x:(List UInt8)×Int):Option (((List UInt8)×Int)⊕((Int)⊕(Unit))):=S144_3 uu x.1 x.2
def F144 (uu:Nat) (a0:List UInt8):Option (Int):=
 (aaf uu (S144_3step uu) (a0,(0:Int))).bind fun z=>sumE (fun y8=>
 some y8
 ) (fun y9=>
 some (-1:Int)
 ) z
def S144_3l (uu:Nat):LoopE:=⟨3,⟨[0,3],[],sv19⟩,[(.ret,⟨[2],[],[(.int .i64)]⟩),(.exit 0,⟨[],[],[]⟩)],S144_3step uu⟩
def F144C (uu:Nat):Cfg:=cfg Tryz.prog 18 0 [F154c uu] [S144_3l uu] uu
def F144c (uu:Nat):CallE:=⟨144,⟨1,[],[.str]⟩,⟨1,[],[(.int .i64)]⟩,fun x=>F144 uu x,0⟩
theorem F144k (uu:Nat):aai (F144C uu):=aac (qc (F154ok uu)<|q0) (p0)
theorem S144_3ok (uu:Nat):LoopOk (F144C uu) (lp (aag Tryz.f144) 0):=okL (F144k uu) uu (S144_3l uu) L0
theorem F144ok (uu:Nat):(F144c uu).Ok Tryz.prog:=okE Tryz.f144 (F144k uu) (L1 (S144_3ok uu))
def F112 (uu:Nat) (a0:List UInt8):Option (Bool):=
 (F144 uu a0).bind fun y1=>
 some (decide (y1<(0:Int)))
def F112c (uu:Nat):CallE:=⟨112,⟨1,[],[.str]⟩,⟨1,[],[.bool]⟩,fun x=>F112 uu x,false⟩
theorem F112ok (uu:Nat):(F112c uu).Ok Tryz.prog:=okJ Tryz.f112 6 0 uu _ [] false (qc (F144ok uu)<|q0) (p0) L0
def F141 (uu:Nat) (a0:Int) (a1:PV):Option (Bool):=
 (F162 uu a0).bind fun y1=>
 let x5:=bif (!y1) then true else (((a1.fld 0).asInt) != a0)
 (bif !x5 then F163 uu a1 else some false).bind fun y6=>
 bif (bif x5 then true else (!y6)) then
 some false
 else
 (F164 uu a0).bind fun y9=>
 bif y9 then
 let x15:=bif (((a1.fld 1).asInt)==(0:Int)) then (decide ((((a1.fld 2).asStr).length:Int)<=(4096:Int))) else false
 let x16:=a0==(8:Int)
 (bif bif !x16 then x15 else false then F112 uu ((a1.fld 2).asStr) else some false).bind fun y18=>
 some (bif x15 then (bif x16 then true else y18) else false)
 else
 bif (!(((a1.fld 2).asStr)==([]:List UInt8))) then
 some false
 else
 bif (a0==(1:Int)) then
 some (decide (((a1.fld 1).asInt)<=(1:Int)))
 else
 bif (a0==(2:Int)) then
 let x28:=IntKind.wrap .i64 ((a1.fld 1).asInt)
 some (bif (decide (x28≥(-2147483648:Int))) then (decide (x28<=(2147483647:Int))) else false)
 else
 bif (a0==(4:Int)) then
 some (decide (((a1.fld 1).asInt)<(4294967296:Int)))
 else
 bif (a0==(9:Int)) then
 some (decide (((a1.fld 1).asInt)<(2147483648:Int)))
 else
 some true
def F141c (uu:Nat):CallE:=⟨141,⟨2,[],[(.int .i64),(.data 63)]⟩,⟨1,[],[.bool]⟩,fun x=>F141 uu x.1 x.2,false⟩
theorem F141ok (uu:Nat):(F141c uu).Ok Tryz.prog:=okJ Tryz.f141 70 0 uu _ [] false (qc (F162ok uu)<|qc (F163ok uu)<|qc (F164ok uu)<|qc (F112ok uu)<|q0) (p0) L0
def F165 (uu:Nat) (a0:Int):Option (Int):=
 let x1:=a0.tmod (9223372036854775808:Int)
 bif (decide (x1>(9218868437227405312:Int))) then
 some (0:Int)
 else
 bif (x1==(9218868437227405312:Int)) then
 some (1:Int)
 else
 bif (x1==(0:Int)) then
 some (2:Int)
 else
 bif (decide (x1<(4503599627370496:Int))) then
 some (3:Int)
 else
 some (4:Int)
def F165c (uu:Nat):CallE:=⟨165,⟨1,[],[(.int .u64)]⟩,⟨1,[],[(.int .i64)]⟩,fun x=>F165 uu x,0⟩
theorem F165ok (uu:Nat):(F165c uu).Ok Tryz.prog:=okJ Tryz.f165 18 0 uu [] [] false (q0) (p0) L0
def F142 (uu:Nat) (a0:PV):Option (PV):=
 let x2:=((a0.fld 0).asInt)==(6:Int)
 (bif x2 then F165 uu ((a0.fld 1).asInt) else some 0).bind fun y4=>
 bif (bif x2 then (y4==(0:Int)) else false) then
 some (PV.agg [(PV.int ((a0.fld 0).asInt)),(PV.int (9221120237041090560:Int)),(PV.str ((a0.fld 2).asStr)),(PV.slice ((a0.fld 3).asList)),(PV.slice ((a0.fld 4).asList)),(PV.slice ((a0.fld 5).asList)),(PV.slice ((a0.fld 6).asList))])
 else
 some a0
def F142c (uu:Nat):CallE:=⟨142,⟨1,[],[(.data 63)]⟩,⟨1,[],[(.data 63)]⟩,fun x=>F142 uu x,PV.bad⟩
theorem F142ok (uu:Nat):(F142c uu).Ok Tryz.prog:=okJ Tryz.f142 14 0 uu _ [] false (qc (F165ok uu)<|q0) (p0) L0
abbrev S109_13x:=Unit×Unit×Int×Int×PV×PV×PV
abbrev S109_13y:=(Bool×PV×PV×PV)⊕(PV×PV×PV)
def S109_13 (uu:Nat) (a23:Unit) (a24:Unit) (a25:Int) (a26:Int) (a27:PV) (a28:PV) (a29:PV):Option (S109_13x⊕S109_13y):=
 let x30:=(a27.fld 1).asList
 bif aaa a25 x30.length then
 bif (decide (a26<(((x30.getD a25.toNat .bad).fld 2).asList.length:Int))) then
 let x36:=(a27.fld 1).asList
 bif aaa a25 x36.length then
 let x39:=((x36.getD a25.toNat .bad).fld 2).asList
 bif aaa a26 x39.length then
 bif ((IntKind.wrap .u64 ((x39.getD a26.toNat .bad).fld 1).asInt)==((a29.fld 1).asInt)) then
 some (.inr (.inl (true,a27,a28,a29)))
 else
 some (.inl ((),(),a25,(IntKind.wrap .i64 (a26+(1:Int))),a27,a28,a29))
 else none
 else none
 else
 some (.inr (.inr (a27,a28,a29)))
 else none
def S109_13step (uu:Nat) (x:S109_13x):Option (S109_13x⊕S109_13y):=S109_13 uu x.1 x.2.1 x.2.2.1 x.2.2.2.1 x.2.2.2.2.1 x.2.2.2.2.2.1 x.2.2.2.2.2.2
def F109 (uu:Nat) (a0:PV) (a1:PV):Option (Bool):=
 let x1:=a1.fld 7
 bif (!((a1.fld 6).asBool)) then
 (F140 uu x1 (PV.agg [(PV.int (0:Int)),(PV.int (0:Int)),(PV.str ([]:List UInt8)),(PV.slice []),(PV.slice []),(PV.slice []),(PV.slice [])])).bind fun y4=>
 some y4
 else
 let x9:=bif (((a1.fld 2).asInt) != (2:Int)) then true else (!(((a1.fld 5).asStr)==([]:List UInt8)))
 (bif !x9 then F141 uu (((a1.fld 4).fld 0).asInt) x1 else some false).bind fun y11=>
 let x13:=bif x9 then true else (!y11)
 (bif !x13 then F142 uu x1 else some PV.bad).bind fun y14=>
 (bif !x13 then F140 uu x1 y14 else some false).bind fun y15=>
 bif (bif x13 then true else (!y15)) then
 some false
 else
 (F139 uu a0 (((a1.fld 4).fld 1).asStr)).bind fun y19=>
 bif ((((a1.fld 4).fld 0).asInt) != (9:Int)) then
 some true
 else
 bif (decide (y19<(0:Int))) then
 some false
 else
 (aaf uu (S109_13step uu) ((),(),y19,(0:Int),a0,a1,x1)).bind fun z=>sumE (fun y47=>
 some y47.1
 ) (fun y48=>
 some false
 ) z
def S109_13l (uu:Nat):LoopE:=⟨13,⟨[2,5,6,7],bx18,(.con (.ref 0 [] 39))::(.con (.ref 2 [] 63))::(.int .i64)::(.int .i64)::sv36⟩,[(.ret,⟨[4],bx18,.bool::sv36⟩),(.exit 0,⟨[],bx18,sv36⟩)],S109_13step uu⟩
def F109C (uu:Nat):Cfg:=cfg Tryz.prog 75 0 [F140c uu,F141c uu,F142c uu,F139c uu] [S109_13l uu] uu
def F109c (uu:Nat):CallE:=⟨109,⟨2,[],[(.data 39),(.data 68)]⟩,⟨1,[],[.bool]⟩,fun x=>F109 uu x.1 x.2,false⟩
theorem F109k (uu:Nat):aai (F109C uu):=aac (qc (F140ok uu)<|qc (F141ok uu)<|qc (F142ok uu)<|qc (F139ok uu)<|q0) (p0)
theorem S109_13ok (uu:Nat):LoopOk (F109C uu) (lp (aag Tryz.f109) 0):=okL (F109k uu) uu (S109_13l uu) L0
theorem F109ok (uu:Nat):(F109c uu).Ok Tryz.prog:=okE Tryz.f109 (F109k uu) (L1 (S109_13ok uu))
def F166 (uu:Nat) (a0:List UInt8):Option (Int):=
 let x1:=a0==([100,101,112,114,101,99,97,116,101,100]:List UInt8)
 bif x1 then
 some (1:Int)
 else
 bif (a0==([115,101,99,114,101,116]:List UInt8)) then
 some (1:Int)
 else
 let x3:=a0==([105,100,101,109,112,111,116,101,110,116]:List UInt8)
 bif x3 then
 some (1:Int)
 else
 bif (a0==([100,111,99]:List UInt8)) then
 some (7:Int)
 else
 bif (a0==([97,108,105,97,115]:List UInt8)) then
 some (7:Int)
 else
 bif (a0==([114,111,117,116,101]:List UInt8)) then
 some (7:Int)
 else
 bif (a0==([111,119,110,101,114]:List UInt8)) then
 some (7:Int)
 else
 bif (a0==([115,105,110,99,101]:List UInt8)) then
 some (4:Int)
 else
 bif (a0==([117,110,116,105,108]:List UInt8)) then
 some (4:Int)
 else
 bif (a0==([108,101,110,103,116,104]:List UInt8)) then
 some (4:Int)
 else
 bif (a0==([116,105,109,101,111,117,116]:List UInt8)) then
 some (4:Int)
 else
 bif (a0==([109,105,110]:List UInt8)) then
 some (3:Int)
 else
 bif (a0==([109,97,120]:List UInt8)) then
 some (3:Int)
 else
 some (0:Int)
def F166c (uu:Nat):CallE:=⟨166,⟨1,[],[.str]⟩,⟨1,[],[(.int .i64)]⟩,fun x=>F166 uu x,0⟩
theorem F166ok (uu:Nat):(F166c uu).Ok Tryz.prog:=okJ Tryz.f166 21 0 uu [] [] false (q0) (p0) L0
def F167 (uu:Nat) (a0:List UInt8) (a1:Int):Option (Bool):=
 let x1:=a0==([100,101,112,114,101,99,97,116,101,100]:List UInt8)
 bif x1 then
 some (bif (decide (a1≥(1:Int))) then (decide (a1<=(6:Int))) else false)
 else
 bif (a0==([100,111,99]:List UInt8)) then
 some (bif (decide (a1≥(1:Int))) then (decide (a1<=(6:Int))) else false)
 else
 bif (a0==([97,108,105,97,115]:List UInt8)) then
 some (bif (bif (a1==(2:Int)) then true else (a1==(4:Int))) then true else (a1==(6:Int)))
 else
 bif (a0==([115,105,110,99,101]:List UInt8)) then
 some (bif (bif (a1==(2:Int)) then true else (a1==(4:Int))) then true else (a1==(6:Int)))
 else
 bif (a0==([117,110,116,105,108]:List UInt8)) then
 some (bif (bif (a1==(2:Int)) then true else (a1==(4:Int))) then true else (a1==(6:Int)))
 else
 bif (a0==([109,105,110]:List UInt8)) then
 some (a1==(2:Int))
 else
 bif (a0==([109,97,120]:List UInt8)) then
 some (a1==(2:Int))
 else
 bif (a0==([108,101,110,103,116,104]:List UInt8)) then
 some (a1==(2:Int))
 else
 bif (a0==([115,101,99,114,101,116]:List UInt8)) then
 some (a1==(2:Int))
 else
 let x35:=a0==([105,100,101,109,112,111,116,101,110,116]:List UInt8)
 bif x35 then
 some (a1==(6:Int))
 else
 bif (a0==([116,105,109,101,111,117,116]:List UInt8)) then
 some (a1==(6:Int))
 else
 bif (a0==([114,111,117,116,101]:List UInt8)) then
 some (a1==(6:Int))
 else
 some (bif (a1==(1:Int)) then true else (a1==(5:Int)))
def F167c (uu:Nat):CallE:=⟨167,⟨2,[],sv19⟩,⟨1,[],[.bool]⟩,fun x=>F167 uu x.1 x.2,false⟩
theorem F167ok (uu:Nat):(F167c uu).Ok Tryz.prog:=okJ Tryz.f167 48 0 uu [] [] false (q0) (p0) L0
def F168 (uu:Nat) (a0:PV):Option (Bool):=
 (F166 uu ((a0.fld 0).asStr)).bind fun y2=>
 let x6:=bif (y2 != (0:Int)) then ((((a0.fld 1).fld 0).asInt)==y2) else false
 (bif x6 then F141 uu y2 (a0.fld 1) else some false).bind fun y8=>
 some (bif x6 then y8 else false)
def F168c (uu:Nat):CallE:=⟨168,⟨1,[],[(.data 65)]⟩,⟨1,[],[.bool]⟩,fun x=>F168 uu x,false⟩
theorem F168ok (uu:Nat):(F168c uu).Ok Tryz.prog:=okJ Tryz.f168 22 0 uu _ [] false (qc (F166ok uu)<|qc (F141ok uu)<|q0) (p0) L0
def S143_5 (uu:Nat) (a3:List PV) (a4:Int) (a5:Int):Option (((List PV)×Int×Int)⊕((Int)⊕(Unit))):=
 bif (decide (a5<(a3.length:Int))) then
 bif aaa a5 a3.length then
 (F166 uu ((a3.getD a5.toNat .bad).fld 0).asStr).bind fun y11=>
 bif (y11==(0:Int)) then
 some (.inr (.inl (8:Int)))
 else
 bif aaa a5 a3.length then
 (F167 uu ((a3.getD a5.toNat .bad).fld 0).asStr a4).bind fun y16=>
 bif (!y16) then
 some (.inr (.inl (1:Int)))
 else
 bif aaa a5 a3.length then
 (F168 uu (a3.getD a5.toNat .bad)).bind fun y19=>
 bif (!y19) then
 some (.inr (.inl (12:Int)))
 else
 let x21:=decide (a5>(0:Int))
 bif imp x21 (aaa a5 a3.length) then
 let x25:=IntKind.wrap .i64 (a5-(1:Int))
 bif imp x21 (aaa x25 a3.length) then
 bif (bif x21 then (Op.bytesLess ((a3.getD a5.toNat .bad).fld 0).asStr ((a3.getD x25.toNat .bad).fld 0).asStr) else false) then
 some (.inr (.inl (11:Int)))
 else
 let x31:=decide (a5>(0:Int))
 bif imp x31 (aaa a5 a3.length) then
 let x35:=IntKind.wrap .i64 (a5-(1:Int))
 bif imp x31 (aaa x35 a3.length) then
 bif (bif x31 then (((a3.getD a5.toNat .bad).fld 0).asStr==((a3.getD x35.toNat .bad).fld 0).asStr) else false) then
 some (.inr (.inl (9:Int)))
 else
 some (.inl (a3,a4,(IntKind.wrap .i64 (a5+(1:Int)))))
 else none
 else none
 else none
 else none
 else none
 else none
 else none
 else
 some (.inr (.inr ()))
def S143_5step (uu:Nat) (x:(List PV)×Int×Int):Option (((List PV)×Int×Int)⊕((Int)⊕(Unit))):=S143_5 uu x.1 x.2.1 x.2.2
def F143 (uu:Nat) (a0:List PV) (a1:Int):Option (Int):=
 bif (decide ((a0.length:Int)>(8:Int))) then
 some (3:Int)
 else
 (aaf uu (S143_5step uu) (a0,a1,(0:Int))).bind fun z=>sumE (fun y42=>
 some y42
 ) (fun y43=>
 some (0:Int)
 ) z
def S143_5l (uu:Nat):LoopE:=⟨5,⟨[0,1,5],[],(.slice 65)::sv15⟩,[(.ret,⟨[4],[],[(.int .i64)]⟩),(.exit 0,⟨[],[],[]⟩)],S143_5step uu⟩
def F143C (uu:Nat):Cfg:=cfg Tryz.prog 68 0 [F166c uu,F167c uu,F168c uu] [S143_5l uu] uu
def F143c (uu:Nat):CallE:=⟨143,⟨2,[],[(.slice 65),(.int .i64)]⟩,⟨1,[],[(.int .i64)]⟩,fun x=>F143 uu x.1 x.2,0⟩
theorem F143k (uu:Nat):aai (F143C uu):=aac (qc (F166ok uu)<|qc (F167ok uu)<|qc (F168ok uu)<|q0) (p0)
theorem S143_5ok (uu:Nat):LoopOk (F143C uu) (lp (aag Tryz.f143) 0):=okL (F143k uu) uu (S143_5l uu) L0
theorem F143ok (uu:Nat):(F143c uu).Ok Tryz.prog:=okE Tryz.f143 (F143k uu) (L1 (S143_5ok uu))
def F110 (uu:Nat) (a0:Unit) (a1:List PV) (a2:Int) (a3:Int) (a4:List UInt8) (a5:List PV):Option ((List UInt8)×(List PV)):=
 (F143 uu a1 a2).bind fun y1=>
 (F66 uu () (y1 != (0:Int)) a3 y1 a4 a5).bind fun y3=>
 some (y3.1,y3.2)
def F110c (uu:Nat):CallE:=⟨110,⟨4,bx13,(.con (.ref 0 [] 149))::(.slice 65)::sv25⟩,⟨0,bx13,sv26⟩,fun x=>F110 uu x.1 x.2.1 x.2.2.1 x.2.2.2.1 x.2.2.2.2.1 x.2.2.2.2.2,([],[])⟩
theorem F110ok (uu:Nat):(F110c uu).Ok Tryz.prog:=okJ Tryz.f110 18 2 uu _ [] false (qc (F143ok uu)<|qc (F66ok uu)<|q0) (p0) L0
abbrev S111_2x:=Unit×(List PV)×Int×Int×Int×(List UInt8)×(List PV)
abbrev S111_2y:=((List UInt8)×(List PV))
def S111_2 (uu:Nat) (a1:Unit) (a2:List PV) (a3:Int) (a4:Int) (a5:Int) (a6:List UInt8) (a7:List PV):Option (S111_2x⊕S111_2y):=
 bif (decide (a5<(a2.length:Int))) then
 bif aaa a5 a2.length then
 let x13:=decide (((a2.getD a5.toNat .bad).fld 0).asInt<a3)
 bif imp (!x13) (aaa a5 a2.length) then
 let x18:=bif x13 then true else (decide (((a2.getD a5.toNat .bad).fld 1).asInt>a4))
 bif imp (!x18) (aaa a5 a2.length) then
 bif imp (!x18) (aaa a5 a2.length) then
 (F66 uu () (bif x18 then true else (decide (((a2.getD a5.toNat .bad).fld 0).asInt>((a2.getD a5.toNat .bad).fld 1).asInt))) (-1:Int) (6:Int) a6 a7).bind fun y27=>
 let x28:=decide (a5>(0:Int))
 bif imp x28 (aaa a5 a2.length) then
 let x32:=IntKind.wrap .i64 (a5-(1:Int))
 bif imp x28 (aaa x32 a2.length) then
 (F66 uu () (bif x28 then (decide (((a2.getD a5.toNat .bad).fld 0).asInt<=((a2.getD x32.toNat .bad).fld 1).asInt)) else false) (-1:Int) (11:Int) y27.1 y27.2).bind fun y38=>
 some (.inl ((),a2,a3,a4,(IntKind.wrap .i64 (a5+(1:Int))),y38.1,y38.2))
 else none
 else none
 else none
 else none
 else none
 else none
 else
 some (.inr (a6,a7))
def S111_2step (uu:Nat) (x:S111_2x):Option (S111_2x⊕S111_2y):=S111_2 uu x.1 x.2.1 x.2.2.1 x.2.2.2.1 x.2.2.2.2.1 x.2.2.2.2.2.1 x.2.2.2.2.2.2
def F111 (uu:Nat) (a0:Unit) (a1:List PV) (a2:Int) (a3:Int) (a4:List UInt8) (a5:List PV):Option ((List UInt8)×(List PV)):=
 (aaf uu (S111_2step uu) ((),a1,a2,a3,(0:Int),a4,a5)).bind fun y40=>
 some (y40.1,y40.2)
def S111_2l (uu:Nat):LoopE:=⟨2,⟨[0,1,2,3,8],bx13,(.con (.ref 0 [] 149))::(.slice 219)::(.int .i64)::sv25⟩,[(.exit 0,⟨[],bx13,sv26⟩)],S111_2step uu⟩
def F111C (uu:Nat):Cfg:=cfg Tryz.prog 64 2 [F66c uu] [S111_2l uu] uu
def F111c (uu:Nat):CallE:=⟨111,⟨4,bx13,(.con (.ref 0 [] 149))::(.slice 219)::sv25⟩,⟨0,bx13,sv26⟩,fun x=>F111 uu x.1 x.2.1 x.2.2.1 x.2.2.2.1 x.2.2.2.2.1 x.2.2.2.2.2,([],[])⟩
theorem F111k (uu:Nat):aai (F111C uu):=aac (qc (F66ok uu)<|q0) (p0)
theorem S111_2ok (uu:Nat):LoopOk (F111C uu) (lp (aag Tryz.f111) 0):=okL (F111k uu) uu (S111_2l uu) L0
theorem F111ok (uu:Nat):(F111c uu).Ok Tryz.prog:=okE Tryz.f111 (F111k uu) (L1 (S111_2ok uu))
abbrev S102_v1_3x:=(List PV)×Unit×Unit×Int×PV×PV
abbrev S102_v1_3y:=(Bool×PV×PV)⊕(PV×PV)
def S102_v1_3 (uu:Nat) (a1:List PV) (a2:Unit) (a3:Unit) (a4:Int) (a5:PV) (a6:PV):Option (S102_v1_3x⊕S102_v1_3y):=
 bif (decide (a4<(((a6.fld 1).asList).length:Int))) then
 let x10:=(a6.fld 1).asList
 bif aaa a4 x10.length then
 let x11:=x10.getD a4.toNat .bad
 bif (bif (((x11.fld 2).asInt) != (1:Int)) then true else ((((x11.fld 4).fld 0).asInt) != (10:Int))) then
 some (.inl (a1,(),(),(IntKind.wrap .i64 (a4+(1:Int))),a5,a6))
 else
 (F113 uu a5 (((x11.fld 4).fld 1).asStr)).bind fun y19=>
 let x20:=decide (y19≥(0:Int))
 bif imp x20 (aaa y19 a1.length) then
 bif (bif x20 then (!(a1.getD y19.toNat .bad).asBool) else false) then
 some (.inr (.inl (true,a5,a6)))
 else
 some (.inl (a1,(),(),(IntKind.wrap .i64 (a4+(1:Int))),a5,a6))
 else none
 else none
 else
 some (.inr (.inr (a5,a6)))
def S102_v1_3step (uu:Nat) (x:S102_v1_3x):Option (S102_v1_3x⊕S102_v1_3y):=S102_v1_3 uu x.1 x.2.1 x.2.2.1 x.2.2.2.1 x.2.2.2.2.1 x.2.2.2.2.2
def F102_v1 (uu:Nat) (a0:PV) (a1:PV) (a2:List PV):Option (Bool):=
 (aaf uu (S102_v1_3step uu) (a2,(),(),(0:Int),a0,a1)).bind fun z=>sumE (fun y26=>
 some y26.1
 ) (fun y27=>
 some false
 ) z
def S102_v1_3l (uu:Nat):LoopE:=⟨3,⟨[2,3,4,7],bx11,(.slice 4)::(.con (.ref 0 [] 39))::(.con (.ref 1 [] 73))::(.int .i64)::sv22⟩,[(.ret,⟨[6],bx11,.bool::sv22⟩),(.exit 0,⟨[],bx11,sv22⟩)],S102_v1_3step uu⟩
def F102_v1C (uu:Nat):Cfg:=cfg Tryz.prog 45 0 [F113c uu] [S102_v1_3l uu] uu
def F102_v1c (uu:Nat):CallE:=⟨102,⟨3,[],[(.data 39),(.data 73),(.slice 4)]⟩,⟨1,[],[.bool]⟩,fun x=>F102_v1 uu x.1 x.2.1 x.2.2,false⟩
theorem F102_v1k (uu:Nat):aai (F102_v1C uu):=aac (qc (F113ok uu)<|q0) (p0)
theorem S102_v1_3ok (uu:Nat):LoopOk (F102_v1C uu) (lp (aag Tryz.f102) 0):=okL (F102_v1k uu) uu (S102_v1_3l uu) L0
theorem F102_v1ok (uu:Nat):(F102_v1c uu).Ok Tryz.prog:=okE Tryz.f102 (F102_v1k uu) (L1 (S102_v1_3ok uu))
abbrev S70_11x:=(List PV)×Unit×Unit×Unit×Int×Unit×Bool×Int×PV×PV×(List UInt8)×(List PV)×PV
abbrev S70_11y:=((List PV)×Unit×Unit×Unit×Int×Unit×Bool×PV×PV×(List UInt8)×(List PV)×PV)
def S70_11 (uu:Nat) (a32:List PV) (a33:Unit) (a34:Unit) (a35:Unit) (a36:Int) (a37:Unit) (a38:Bool) (a39:Int) (a40:PV) (a41:PV) (a42:List UInt8) (a43:List PV) (a44:PV):Option (S70_11x⊕S70_11y):=
 bif (decide (a39<a36)) then
 let x46:=(a41.fld 1).asList
 bif aaa a39 x46.length then
 bif (((x46.getD a39.toNat .bad).fld 1).asStr==((a44.fld 1).asStr)) then
 some (.inl (a32,(),(),(),a36,(),true,(IntKind.wrap .i64 (a39+(1:Int))),a40,a41,a42,a43,a44))
 else
 some (.inl (a32,(),(),(),a36,(),a38,(IntKind.wrap .i64 (a39+(1:Int))),a40,a41,a42,a43,a44))
 else none
 else
 some (.inr (a32,(),(),(),a36,(),a38,a40,a41,a42,a43,a44))
def S70_11step (uu:Nat) (x:S70_11x):Option (S70_11x⊕S70_11y):=S70_11 uu x.1 x.2.1 x.2.2.1 x.2.2.2.1 x.2.2.2.2.1 x.2.2.2.2.2.1 x.2.2.2.2.2.2.1 x.2.2.2.2.2.2.2.1 x.2.2.2.2.2.2.2.2.1 x.2.2.2.2.2.2.2.2.2.1 x.2.2.2.2.2.2.2.2.2.2.1 x.2.2.2.2.2.2.2.2.2.2.2.1 x.2.2.2.2.2.2.2.2.2.2.2.2
abbrev S70_6x:=(List PV)×Unit×Unit×Unit×Int×PV×PV×(List UInt8)×(List PV)
abbrev S70_6y:=((List PV)×Unit×Unit×Unit×PV×PV×(List UInt8)×(List PV))
def S70_6 (uu:Nat) (a18:List PV) (a19:Unit) (a20:Unit) (a21:Unit) (a22:Int) (a23:PV) (a24:PV) (a25:List UInt8) (a26:List PV):Option (S70_6x⊕S70_6y):=
 bif (decide (a22<(((a24.fld 1).asList).length:Int))) then
 let x30:=(a24.fld 1).asList
 bif aaa a22 x30.length then
 (aaf uu (S70_11step uu) (a18,(),(),(),a22,(),false,(0:Int),a23,a24,a25,a26,(x30.getD a22.toNat .bad))).bind fun y54=>
 (F66 uu () (bif (decide (((y54.2.2.2.2.2.2.2.2.2.2.2.fld 0).asInt)<(1:Int))) then true else (decide (((y54.2.2.2.2.2.2.2.2.2.2.2.fld 0).asInt)>(65535:Int)))) ((y54.2.2.2.2.2.2.2.2.2.2.2.fld 0).asInt) (6:Int) y54.2.2.2.2.2.2.2.2.2.1 y54.2.2.2.2.2.2.2.2.2.2.1).bind fun y61=>
 let x63:=decide (y54.2.2.2.2.1>(0:Int))
 let x65:=(y54.2.2.2.2.2.2.2.2.1.fld 1).asList
 let x67:=IntKind.wrap .i64 (y54.2.2.2.2.1-(1:Int))
 bif imp x63 (aaa x67 x65.length) then
 (F66 uu () (bif x63 then (decide (((y54.2.2.2.2.2.2.2.2.2.2.2.fld 0).asInt)<=((x65.getD x67.toNat .bad).fld 0).asInt)) else false) ((y54.2.2.2.2.2.2.2.2.2.2.2.fld 0).asInt) (11:Int) y61.1 y61.2).bind fun y74=>
 (F104 uu ((y54.2.2.2.2.2.2.2.2.2.2.2.fld 1).asStr)).bind fun y76=>
 (F66 uu () (!y76) ((y54.2.2.2.2.2.2.2.2.2.2.2.fld 0).asInt) (8:Int) y74.1 y74.2).bind fun y79=>
 (F66 uu () y54.2.2.2.2.2.2.1 ((y54.2.2.2.2.2.2.2.2.2.2.2.fld 0).asInt) (9:Int) y79.1 y79.2).bind fun y82=>
 (F105 uu ((y54.2.2.2.2.2.2.2.2.1.fld 2).asList) ((y54.2.2.2.2.2.2.2.2.2.2.2.fld 0).asInt)).bind fun y85=>
 (bif !y85 then F101 uu ((y54.2.2.2.2.2.2.2.2.1.fld 3).asList) ((y54.2.2.2.2.2.2.2.2.2.2.2.fld 1).asStr) else some false).bind fun y88=>
 (F66 uu () (bif y85 then true else y88) ((y54.2.2.2.2.2.2.2.2.2.2.2.fld 0).asInt) (21:Int) y82.1 y82.2).bind fun y91=>
 (F106 uu y54.2.2.2.2.2.2.2.2.2.2.2).bind fun y93=>
 (F66 uu () (!y93) ((y54.2.2.2.2.2.2.2.2.2.2.2.fld 0).asInt) (1:Int) y91.1 y91.2).bind fun y96=>
 (F107 uu y54.2.2.2.2.2.2.2.1 y54.2.2.2.2.2.2.2.2.2.2.2).bind fun y99=>
 (F66 uu () (!y99) ((y54.2.2.2.2.2.2.2.2.2.2.2.fld 0).asInt) (12:Int) y96.1 y96.2).bind fun y102=>
 (F108 uu y54.2.2.2.2.2.2.2.2.1 y54.2.2.2.2.1).bind fun y105=>
 (F66 uu () (!y105) ((y54.2.2.2.2.2.2.2.2.2.2.2.fld 0).asInt) (15:Int) y102.1 y102.2).bind fun y108=>
 (F109 uu y54.2.2.2.2.2.2.2.1 y54.2.2.2.2.2.2.2.2.2.2.2).bind fun y111=>
 (F66 uu () (!y111) ((y54.2.2.2.2.2.2.2.2.2.2.2.fld 0).asInt) (1:Int) y108.1 y108.2).bind fun y114=>
 (F110 uu () ((y54.2.2.2.2.2.2.2.2.2.2.2.fld 8).asList) (2:Int) ((y54.2.2.2.2.2.2.2.2.2.2.2.fld 0).asInt) y114.1 y114.2).bind fun y117=>
 some (.inl (y54.1,(),(),(),(IntKind.wrap .i64 (y54.2.2.2.2.1+(1:Int))),y54.2.2.2.2.2.2.2.1,y54.2.2.2.2.2.2.2.2.1,y117.1,y117.2))
 else none
 else none
 else
 some (.inr (a18,(),(),(),a23,a24,a25,a26))
def S70_6step (uu:Nat) (x:S70_6x):Option (S70_6x⊕S70_6y):=S70_6 uu x.1 x.2.1 x.2.2.1 x.2.2.2.1 x.2.2.2.2.1 x.2.2.2.2.2.1 x.2.2.2.2.2.2.1 x.2.2.2.2.2.2.2.1 x.2.2.2.2.2.2.2.2
abbrev S70_27x:=(List PV)×Unit×Unit×Unit×Int×PV×PV×(List UInt8)×(List PV)
abbrev S70_27y:=((List PV)×Unit×Unit×Unit×PV×PV×(List UInt8)×(List PV))
def S70_27 (uu:Nat) (a123:List PV) (a124:Unit) (a125:Unit) (a126:Unit) (a127:Int) (a128:PV) (a129:PV) (a130:List UInt8) (a131:List PV):Option (S70_27x⊕S70_27y):=
 bif (decide (a127<(((a129.fld 3).asList).length:Int))) then
 let x135:=(a129.fld 3).asList
 bif aaa a127 x135.length then
 (F112 uu (x135.getD a127.toNat .bad).asStr).bind fun y138=>
 (F66 uu () (!y138) (-1:Int) (7:Int) a130 a131).bind fun y140=>
 some (.inl (a123,(),(),(),(IntKind.wrap .i64 (a127+(1:Int))),a128,a129,y140.1,y140.2))
 else none
 else
 some (.inr (a123,(),(),(),a128,a129,a130,a131))
def S70_27step (uu:Nat) (x:S70_27x):Option (S70_27x⊕S70_27y):=S70_27 uu x.1 x.2.1 x.2.2.1 x.2.2.2.1 x.2.2.2.2.1 x.2.2.2.2.2.1 x.2.2.2.2.2.2.1 x.2.2.2.2.2.2.2.1 x.2.2.2.2.2.2.2.2
def F70 (uu:Nat) (a0:PV) (a1:PV) (a2:List PV):Option ((List PV)):=
 (F103 uu ((a1.fld 0).asStr)).bind fun y3=>
 (F66 uu () (!y3) (-1:Int) (8:Int) ((a1.fld 0).asStr) []).bind fun y5=>
 (F66 uu () (bif (bif (decide ((((a1.fld 1).asList).length:Int)>(64:Int))) then true else (decide ((((a1.fld 2).asList).length:Int)>(16:Int)))) then true else (decide ((((a1.fld 3).asList).length:Int)>(16:Int)))) (-1:Int) (3:Int) y5.1 y5.2).bind fun y17=>
 (aaf uu (S70_6step uu) (a2,(),(),(),(0:Int),a0,a1,y17.1,y17.2)).bind fun y120=>
 (F111 uu () ((y120.2.2.2.2.2.1.fld 2).asList) (1:Int) (65535:Int) y120.2.2.2.2.2.2.1 y120.2.2.2.2.2.2.2).bind fun y122=>
 (aaf uu (S70_27step uu) (y120.1,(),(),(),(0:Int),y120.2.2.2.2.1,y120.2.2.2.2.2.1,y122.1,y122.2)).bind fun y142=>
 (F110 uu () ((y142.2.2.2.2.2.1.fld 4).asList) (1:Int) (-1:Int) y142.2.2.2.2.2.2.1 y142.2.2.2.2.2.2.2).bind fun y144=>
 (F102_v1 uu y142.2.2.2.2.1 y142.2.2.2.2.2.1 y142.1).bind fun y148=>
 (F66 uu () y148 (-1:Int) (19:Int) y144.1 y144.2).bind fun y149=>
 some y149.2
def S70_11l (uu:Nat):LoopE:=⟨11,⟨[2,3,4,7,8,9,10,11],bx19,[(.slice 4),(.con (.ref 0 [] 39)),(.con (.ref 1 [] 73)),(.con (.ref 2 [] 149)),(.int .i64),(.con (.ref 4 [] 68)),.bool,(.int .i64),(.data 39),(.data 73),.str,(.acc 3 188),(.data 68)]⟩,[(.exit 2,⟨[2,3,4,7,8,9,10],bx19,[(.slice 4),(.con (.ref 0 [] 39)),(.con (.ref 1 [] 73)),(.con (.ref 2 [] 149)),(.int .i64),(.con (.ref 4 [] 68)),.bool,(.data 39),(.data 73),.str,(.acc 3 188),(.data 68)]⟩)],S70_11step uu⟩
def S70_6l (uu:Nat):LoopE:=⟨6,⟨[2,3,4,7,8],bx20,(.slice 4)::(.con (.ref 0 [] 39))::(.con (.ref 1 [] 73))::(.con (.ref 2 [] 149))::(.int .i64)::sv37⟩,[(.exit 0,⟨[2,3,4,7],bx20,(.slice 4)::(.con (.ref 0 [] 39))::(.con (.ref 1 [] 73))::(.con (.ref 2 [] 149))::sv37⟩)],S70_6step uu⟩
def S70_27l (uu:Nat):LoopE:=⟨27,⟨[2,3,4,7,12],bx20,(.slice 4)::(.con (.ref 0 [] 39))::(.con (.ref 1 [] 73))::(.con (.ref 2 [] 149))::(.int .i64)::sv37⟩,[(.exit 4,⟨[2,3,4,7],bx20,(.slice 4)::(.con (.ref 0 [] 39))::(.con (.ref 1 [] 73))::(.con (.ref 2 [] 149))::sv37⟩)],S70_27step uu⟩
def F70C (uu:Nat):Cfg:=cfg Tryz.prog 178 0 [F103c uu,F66c uu,F104c uu,F105c uu,F101c uu,F106c uu,F107c uu,F108c uu,F109c uu,F110c uu,F111c uu,F112c uu,F102_v1c uu] [S70_11l uu,S70_6l uu,S70_27l uu] uu
def F70c (uu:Nat):CallE:=⟨70,⟨3,[],[(.data 39),(.data 73),(.slice 4)]⟩,⟨1,[],[(.slice 188)]⟩,fun x=>F70 uu x.1 x.2.1 x.2.2,[]⟩
theorem F70k (uu:Nat):aai (F70C uu):=aac (qc (F103ok uu)<|qc (F66ok uu)<|qc (F104ok uu)<|qc (F105ok uu)<|qc (F101ok uu)<|qc (F106ok uu)<|qc (F107ok uu)<|qc (F108ok uu)<|qc (F109ok uu)<|qc (F110ok uu)<|qc (F111ok uu)<|qc (F112ok uu)<|qc (F102_v1ok uu)<|q0) (p0)
theorem S70_11ok (uu:Nat):LoopOk (F70C uu) (lp (lp (aag Tryz.f70) 0) 0):=okL (F70k uu) uu (S70_11l uu) L0
theorem S70_6ok (uu:Nat):LoopOk (F70C uu) (lp (aag Tryz.f70) 0):=okL (F70k uu) uu (S70_6l uu) (L1 (S70_11ok uu))
theorem S70_27ok (uu:Nat):LoopOk (F70C uu) (lp (aag Tryz.f70) 1):=okL (F70k uu) uu (S70_27l uu) L0
theorem F70ok (uu:Nat):(F70c uu).Ok Tryz.prog:=okE Tryz.f70 (F70k uu) (L2 (S70_6ok uu) (S70_27ok uu))
abbrev S71_12x:=Unit×Unit×Int×Unit×Bool×Int×PV×(List UInt8)×(List PV)×PV
abbrev S71_12y:=(Unit×Unit×Int×Unit×Bool×PV×(List UInt8)×(List PV)×PV)
def S71_12 (uu:Nat) (a39:Unit) (a40:Unit) (a41:Int) (a42:Unit) (a43:Bool) (a44:Int) (a45:PV) (a46:List UInt8) (a47:List PV) (a48:PV):Option (S71_12x⊕S71_12y):=
 bif (decide (a44<a41)) then
 let x50:=(a45.fld 2).asList
 bif aaa a44 x50.length then
 bif (((x50.getD a44.toNat .bad).fld 0).asStr==((a48.fld 0).asStr)) then
 some (.inl ((),(),a41,(),true,(IntKind.wrap .i64 (a44+(1:Int))),a45,a46,a47,a48))
 else
 some (.inl ((),(),a41,(),a43,(IntKind.wrap .i64 (a44+(1:Int))),a45,a46,a47,a48))
 else none
 else
 some (.inr ((),(),a41,(),a43,a45,a46,a47,a48))
def S71_12step (uu:Nat) (x:S71_12x):Option (S71_12x⊕S71_12y):=S71_12 uu x.1 x.2.1 x.2.2.1 x.2.2.2.1 x.2.2.2.2.1 x.2.2.2.2.2.1 x.2.2.2.2.2.2.1 x.2.2.2.2.2.2.2.1 x.2.2.2.2.2.2.2.2.1 x.2.2.2.2.2.2.2.2.2
abbrev S71_7x:=Unit×Unit×Int×PV×(List UInt8)×(List PV)
abbrev S71_7y:=(Unit×Unit×PV×(List UInt8)×(List PV))
def S71_7 (uu:Nat) (a28:Unit) (a29:Unit) (a30:Int) (a31:PV) (a32:List UInt8) (a33:List PV):Option (S71_7x⊕S71_7y):=
 bif (decide (a30<(((a31.fld 2).asList).length:Int))) then
 let x37:=(a31.fld 2).asList
 bif aaa a30 x37.length then
 (aaf uu (S71_12step uu) ((),(),a30,(),false,(0:Int),a31,a32,a33,(x37.getD a30.toNat .bad))).bind fun y58=>
 (F66 uu () (bif (decide (((y58.2.2.2.2.2.2.2.2.fld 1).asInt)<(0:Int))) then true else (decide (((y58.2.2.2.2.2.2.2.2.fld 1).asInt)>(2147483647:Int)))) ((y58.2.2.2.2.2.2.2.2.fld 1).asInt) (6:Int) y58.2.2.2.2.2.2.1 y58.2.2.2.2.2.2.2.1).bind fun y65=>
 let x67:=decide (y58.2.2.1>(0:Int))
 let x69:=(y58.2.2.2.2.2.1.fld 2).asList
 let x71:=IntKind.wrap .i64 (y58.2.2.1-(1:Int))
 bif imp x67 (aaa x71 x69.length) then
 (F66 uu () (bif x67 then (decide (((y58.2.2.2.2.2.2.2.2.fld 1).asInt)<=((x69.getD x71.toNat .bad).fld 1).asInt)) else false) ((y58.2.2.2.2.2.2.2.2.fld 1).asInt) (11:Int) y65.1 y65.2).bind fun y78=>
 (F104 uu ((y58.2.2.2.2.2.2.2.2.fld 0).asStr)).bind fun y80=>
 (F66 uu () (!y80) ((y58.2.2.2.2.2.2.2.2.fld 1).asInt) (8:Int) y78.1 y78.2).bind fun y83=>
 (F66 uu () y58.2.2.2.2.1 ((y58.2.2.2.2.2.2.2.2.fld 1).asInt) (9:Int) y83.1 y83.2).bind fun y86=>
 (F105 uu ((y58.2.2.2.2.2.1.fld 3).asList) ((y58.2.2.2.2.2.2.2.2.fld 1).asInt)).bind fun y89=>
 (F66 uu () y89 ((y58.2.2.2.2.2.2.2.2.fld 1).asInt) (21:Int) y86.1 y86.2).bind fun y91=>
 (F110 uu () ((y58.2.2.2.2.2.2.2.2.fld 2).asList) (4:Int) ((y58.2.2.2.2.2.2.2.2.fld 1).asInt) y91.1 y91.2).bind fun y94=>
 some (.inl ((),(),(IntKind.wrap .i64 (y58.2.2.1+(1:Int))),y58.2.2.2.2.2.1,y94.1,y94.2))
 else none
 else none
 else
 some (.inr ((),(),a31,a32,a33))
def S71_7step (uu:Nat) (x:S71_7x):Option (S71_7x⊕S71_7y):=S71_7 uu x.1 x.2.1 x.2.2.1 x.2.2.2.1 x.2.2.2.2.1 x.2.2.2.2.2
def F71 (uu:Nat) (a0:PV):Option ((List PV)):=
 (F103 uu ((a0.fld 0).asStr)).bind fun y3=>
 (F66 uu () (!y3) (-1:Int) (8:Int) ((a0.fld 0).asStr) []).bind fun y5=>
 (F66 uu () (bif (bif (decide ((((a0.fld 2).asList).length:Int)<(1:Int))) then true else (decide ((((a0.fld 2).asList).length:Int)>(64:Int)))) then true else (decide ((((a0.fld 3).asList).length:Int)>(16:Int)))) (-1:Int) (3:Int) y5.1 y5.2).bind fun y17=>
 let x20:=decide ((((a0.fld 2).asList).length:Int)>(0:Int))
 let x21:=(a0.fld 2).asList
 bif imp x20 (aaa (0:Int) x21.length) then
 (F66 uu () (bif x20 then (((x21.getD (0:Int).toNat .bad).fld 1).asInt != (0:Int)) else false) (-1:Int) (14:Int) y17.1 y17.2).bind fun y27=>
 (aaf uu (S71_7step uu) ((),(),(0:Int),a0,y27.1,y27.2)).bind fun y97=>
 (F111 uu () ((y97.2.2.1.fld 3).asList) (0:Int) (2147483647:Int) y97.2.2.2.1 y97.2.2.2.2).bind fun y99=>
 (F110 uu () ((y97.2.2.1.fld 4).asList) (3:Int) (-1:Int) y99.1 y99.2).bind fun y101=>
 some y101.2
 else none
def S71_12l (uu:Nat):LoopE:=⟨12,⟨[1,3,4,5,6,7],bx21,[(.con (.ref 0 [] 116)),(.con (.ref 1 [] 149)),(.int .i64),(.con (.ref 3 [] 164)),.bool,(.int .i64),(.data 116),.str,(.acc 2 188),(.data 164)]⟩,[(.exit 2,⟨[1,3,4,5,6],bx21,[(.con (.ref 0 [] 116)),(.con (.ref 1 [] 149)),(.int .i64),(.con (.ref 3 [] 164)),.bool,(.data 116),.str,(.acc 2 188),(.data 164)]⟩)],S71_12step uu⟩
def S71_7l (uu:Nat):LoopE:=⟨7,⟨[1,3,4],bx22,(.con (.ref 0 [] 116))::(.con (.ref 1 [] 149))::(.int .i64)::(.data 116)::sv38⟩,[(.exit 0,⟨[1,3],bx22,(.con (.ref 0 [] 116))::(.con (.ref 1 [] 149))::(.data 116)::sv38⟩)],S71_7step uu⟩
def F71C (uu:Nat):Cfg:=cfg Tryz.prog 132 0 [F103c uu,F66c uu,F104c uu,F105c uu,F110c uu,F111c uu] [S71_12l uu,S71_7l uu] uu
def F71c (uu:Nat):CallE:=⟨71,⟨1,[],[(.data 116)]⟩,⟨1,[],[(.slice 188)]⟩,fun x=>F71 uu x,[]⟩
theorem F71k (uu:Nat):aai (F71C uu):=aac (qc (F103ok uu)<|qc (F66ok uu)<|qc (F104ok uu)<|qc (F105ok uu)<|qc (F110ok uu)<|qc (F111ok uu)<|q0) (p0)
theorem S71_12ok (uu:Nat):LoopOk (F71C uu) (lp (lp (aag Tryz.f71) 0) 0):=okL (F71k uu) uu (S71_12l uu) L0
theorem S71_7ok (uu:Nat):LoopOk (F71C uu) (lp (aag Tryz.f71) 0):=okL (F71k uu) uu (S71_7l uu) (L1 (S71_12ok uu))
theorem F71ok (uu:Nat):(F71c uu).Ok Tryz.prog:=okE Tryz.f71 (F71k uu) (L1 (S71_7ok uu))
abbrev S72_6x:=Unit×Unit×Unit×Int×PV×PV×(List UInt8)×(List PV)
abbrev S72_6y:=(Unit×Unit×PV×PV×(List UInt8)×(List PV))
def S72_6 (uu:Nat) (a10:Unit) (a11:Unit) (a12:Unit) (a13:Int) (a14:PV) (a15:PV) (a16:List UInt8) (a17:List PV):Option (S72_6x⊕S72_6y):=
 bif (decide (a13<(((a15.fld 1).asList).length:Int))) then
 let x21:=(a15.fld 1).asList
 bif aaa a13 x21.length then
 let x22:=x21.getD a13.toNat .bad
 (F104 uu ((x22.fld 0).asStr)).bind fun y24=>
 (F66 uu () (!y24) a13 (8:Int) a16 a17).bind fun y26=>
 let x27:=decide (a13>(0:Int))
 let x28:=(x22.fld 0).asStr
 let x29:=(a15.fld 1).asList
 let x30:=IntKind.wrap .i64 (a13-(1:Int))
 bif imp x27 (aaa x30 x29.length) then
 let x33:=((x29.getD x30.toNat .bad).fld 0).asStr
 (F66 uu () (bif x27 then (Op.bytesLess x28 x33||x28==x33) else false) a13 (11:Int) y26.1 y26.2).bind fun y36=>
 (F113 uu a14 ((x22.fld 1).asStr)).bind fun y38=>
 let x39:=decide (y38<(0:Int))
 (bif !x39 then F113 uu a14 ((x22.fld 2).asStr) else some 0).bind fun y41=>
 (F66 uu () (bif x39 then true else (decide (y41<(0:Int)))) a13 (12:Int) y36.1 y36.2).bind fun y44=>
 (F66 uu () (bif (decide (((x22.fld 3).asInt)<(1:Int))) then true else (decide (((x22.fld 3).asInt)>(4:Int)))) a13 (1:Int) y44.1 y44.2).bind fun y50=>
 (F110 uu () ((x22.fld 4).asList) (6:Int) a13 y50.1 y50.2).bind fun y52=>
 some (.inl ((),(),(),(IntKind.wrap .i64 (a13+(1:Int))),a14,a15,y52.1,y52.2))
 else none
 else none
 else
 some (.inr ((),(),a14,a15,a16,a17))
def S72_6step (uu:Nat) (x:S72_6x):Option (S72_6x⊕S72_6y):=S72_6 uu x.1 x.2.1 x.2.2.1 x.2.2.2.1 x.2.2.2.2.1 x.2.2.2.2.2.1 x.2.2.2.2.2.2.1 x.2.2.2.2.2.2.2
def F72 (uu:Nat) (a0:PV) (a1:PV):Option ((List PV)):=
 (F103 uu ((a1.fld 0).asStr)).bind fun y3=>
 (F66 uu () (!y3) (-1:Int) (8:Int) ((a1.fld 0).asStr) []).bind fun y5=>
 (F66 uu () (decide ((((a1.fld 1).asList).length:Int)>(64:Int))) (-1:Int) (3:Int) y5.1 y5.2).bind fun y9=>
 (aaf uu (S72_6step uu) ((),(),(),(0:Int),a0,a1,y9.1,y9.2)).bind fun y54=>
 (F110 uu () ((y54.2.2.2.1.fld 2).asList) (5:Int) (-1:Int) y54.2.2.2.2.1 y54.2.2.2.2.2).bind fun y56=>
 some y56.2
def S72_6l (uu:Nat):LoopE:=⟨6,⟨[2,3,5,6],bx23,(.con (.ref 0 [] 39))::(.con (.ref 1 [] 120))::(.con (.ref 2 [] 149))::(.int .i64)::(.data 39)::(.data 120)::sv39⟩,[(.exit 0,⟨[3,5],bx23,(.con (.ref 1 [] 120))::(.con (.ref 2 [] 149))::(.data 39)::(.data 120)::sv39⟩)],S72_6step uu⟩
def F72C (uu:Nat):Cfg:=cfg Tryz.prog 88 0 [F103c uu,F66c uu,F104c uu,F113c uu,F110c uu] [S72_6l uu] uu
def F72c (uu:Nat):CallE:=⟨72,⟨2,[],[(.data 39),(.data 120)]⟩,⟨1,[],[(.slice 188)]⟩,fun x=>F72 uu x.1 x.2,[]⟩
theorem F72k (uu:Nat):aai (F72C uu):=aac (qc (F103ok uu)<|qc (F66ok uu)<|qc (F104ok uu)<|qc (F113ok uu)<|qc (F110ok uu)<|q0) (p0)
theorem S72_6ok (uu:Nat):LoopOk (F72C uu) (lp (aag Tryz.f72) 0):=okL (F72k uu) uu (S72_6l uu) L0
theorem F72ok (uu:Nat):(F72c uu).Ok Tryz.prog:=okE Tryz.f72 (F72k uu) (L1 (S72_6ok uu))
abbrev S47_4x:=Unit×Unit×Int×PV×(List UInt8)×(List PV)
abbrev S47_4y:=(Unit×Unit×PV×(List UInt8)×(List PV))
def S47_4 (uu:Nat) (a1:Unit) (a2:Unit) (a3:Int) (a4:PV) (a5:List UInt8) (a6:List PV):Option (S47_4x⊕S47_4y):=
 bif (decide (a3<=(3:Int))) then
 (F65 uu a4 a3).bind fun y8=>
 (F66 uu () (decide ((y8.length:Int)>(64:Int))) (-1:Int) (3:Int) a5 a6).bind fun y11=>
 (F67 uu y8).bind fun y12=>
 (F66 uu () (!y12) (-1:Int) (11:Int) y11.1 y11.2).bind fun y14=>
 some (.inl ((),(),(IntKind.wrap .i64 (a3+(1:Int))),a4,y14.1,y14.2))
 else
 some (.inr ((),(),a4,a5,a6))
def S47_4step (uu:Nat) (x:S47_4x):Option (S47_4x⊕S47_4y):=S47_4 uu x.1 x.2.1 x.2.2.1 x.2.2.2.1 x.2.2.2.2.1 x.2.2.2.2.2
abbrev S47_15x:=Unit×Unit×(List PV)×Int×PV×(List UInt8)×(List PV)
abbrev S47_15y:=(Unit×Unit×PV×(List UInt8)×(List PV))
def S47_15 (uu:Nat) (a31:Unit) (a32:Unit) (a33:List PV) (a34:Int) (a35:PV) (a36:List UInt8) (a37:List PV):Option (S47_15x⊕S47_15y):=
 bif (decide (a34<(((a35.fld 0).asList).length:Int))) then
 let x41:=(a35.fld 0).asList
 bif aaa a34 x41.length then
 (F70 uu a35 (x41.getD a34.toNat .bad) a33).bind fun y43=>
 bif decide (a37.length+y43.length<=aao) then
 some (.inl ((),(),a33,(IntKind.wrap .i64 (a34+(1:Int))),a35,a36,(a37++y43)))
 else none
 else none
 else
 some (.inr ((),(),a35,a36,a37))
def S47_15step (uu:Nat) (x:S47_15x):Option (S47_15x⊕S47_15y):=S47_15 uu x.1 x.2.1 x.2.2.1 x.2.2.2.1 x.2.2.2.2.1 x.2.2.2.2.2.1 x.2.2.2.2.2.2
abbrev S47_19x:=Unit×Unit×Int×PV×(List UInt8)×(List PV)
abbrev S47_19y:=(Unit×Unit×PV×(List UInt8)×(List PV))
def S47_19 (uu:Nat) (a47:Unit) (a48:Unit) (a49:Int) (a50:PV) (a51:List UInt8) (a52:List PV):Option (S47_19x⊕S47_19y):=
 bif (decide (a49<(((a50.fld 1).asList).length:Int))) then
 let x56:=(a50.fld 1).asList
 bif aaa a49 x56.length then
 (F71 uu (x56.getD a49.toNat .bad)).bind fun y58=>
 bif decide (a52.length+y58.length<=aao) then
 some (.inl ((),(),(IntKind.wrap .i64 (a49+(1:Int))),a50,a51,(a52++y58)))
 else none
 else none
 else
 some (.inr ((),(),a50,a51,a52))
def S47_19step (uu:Nat) (x:S47_19x):Option (S47_19x⊕S47_19y):=S47_19 uu x.1 x.2.1 x.2.2.1 x.2.2.2.1 x.2.2.2.2.1 x.2.2.2.2.2
abbrev S47_23x:=Unit×Unit×Int×PV×(List UInt8)×(List PV)
abbrev S47_23y:=(Unit×PV×(List UInt8)×(List PV))
def S47_23 (uu:Nat) (a62:Unit) (a63:Unit) (a64:Int) (a65:PV) (a66:List UInt8) (a67:List PV):Option (S47_23x⊕S47_23y):=
 bif (decide (a64<(((a65.fld 2).asList).length:Int))) then
 let x71:=(a65.fld 2).asList
 bif aaa a64 x71.length then
 (F72 uu a65 (x71.getD a64.toNat .bad)).bind fun y73=>
 bif decide (a67.length+y73.length<=aao) then
 some (.inl ((),(),(IntKind.wrap .i64 (a64+(1:Int))),a65,a66,(a67++y73)))
 else none
 else none
 else
 some (.inr ((),a65,a66,a67))
def S47_23step (uu:Nat) (x:S47_23x):Option (S47_23x⊕S47_23y):=S47_23 uu x.1 x.2.1 x.2.2.1 x.2.2.2.1 x.2.2.2.2.1 x.2.2.2.2.2
def F47 (uu:Nat) (a0:PV):Option ((List PV)):=
 (aaf uu (S47_4step uu) ((),(),(1:Int),a0,([]:List UInt8),[])).bind fun y16=>
 (F65 uu y16.2.2.1 (1:Int)).bind fun y18=>
 (F65 uu y16.2.2.1 (2:Int)).bind fun y20=>
 (F65 uu y16.2.2.1 (3:Int)).bind fun y22=>
 (F68 uu y18 y20).bind fun y23=>
 (bif !y23 then F68 uu y18 y22 else some false).bind fun y24=>
 let x25:=bif y23 then true else y24
 (bif !x25 then F68 uu y20 y22 else some false).bind fun y26=>
 (F66 uu () (bif x25 then true else y26) (-1:Int) (9:Int) y16.2.2.2.1 y16.2.2.2.2).bind fun y28=>
 (F69 uu y16.2.2.1).bind fun y30=>
 (aaf uu (S47_15step uu) ((),(),y30,(0:Int),y16.2.2.1,y28.1,y28.2)).bind fun y46=>
 (aaf uu (S47_19step uu) ((),(),(0:Int),y46.2.2.1,y46.2.2.2.1,y46.2.2.2.2)).bind fun y61=>
 (aaf uu (S47_23step uu) ((),(),(0:Int),y61.2.2.1,y61.2.2.2.1,y61.2.2.2.2)).bind fun y76=>
 some y76.2.2.2
def S47_4l (uu:Nat):LoopE:=⟨4,⟨[1,3,4],bx24,sv40⟩,[(.exit 0,⟨[1,3],bx24,sv41⟩)],S47_4step uu⟩
def S47_15l (uu:Nat):LoopE:=⟨15,⟨[1,3,9,10],bx24,(.con (.ref 0 [] 39))::(.con (.ref 1 [] 149))::(.slice 4)::sv42⟩,[(.exit 2,⟨[1,3],bx24,sv41⟩)],S47_15step uu⟩
def S47_19l (uu:Nat):LoopE:=⟨19,⟨[1,3,11],bx24,sv40⟩,[(.exit 4,⟨[1,3],bx24,sv41⟩)],S47_19step uu⟩
def S47_23l (uu:Nat):LoopE:=⟨23,⟨[1,3,12],bx24,sv40⟩,[(.exit 6,⟨[3],bx24,sv43⟩)],S47_23step uu⟩
def F47C (uu:Nat):Cfg:=cfg Tryz.prog 107 0 [F65c uu,F66c uu,F67c uu,F68c uu,F69c uu,F70c uu,F71c uu,F72c uu] [S47_4l uu,S47_15l uu,S47_19l uu,S47_23l uu] uu
def F47c (uu:Nat):CallE:=⟨47,⟨1,[],[(.data 39)]⟩,⟨1,[],[(.slice 188)]⟩,fun x=>F47 uu x,[]⟩
theorem F47k (uu:Nat):aai (F47C uu):=aac (qc (F65ok uu)<|qc (F66ok uu)<|qc (F67ok uu)<|qc (F68ok uu)<|qc (F69ok uu)<|qc (F70ok uu)<|qc (F71ok uu)<|qc (F72ok uu)<|q0) (p0)
theorem S47_4ok (uu:Nat):LoopOk (F47C uu) (lp (aag Tryz.f47) 0):=okL (F47k uu) uu (S47_4l uu) L0
theorem S47_15ok (uu:Nat):LoopOk (F47C uu) (lp (aag Tryz.f47) 1):=okL (F47k uu) uu (S47_15l uu) L0
theorem S47_19ok (uu:Nat):LoopOk (F47C uu) (lp (aag Tryz.f47) 2):=okL (F47k uu) uu (S47_19l uu) L0
theorem S47_23ok (uu:Nat):LoopOk (F47C uu) (lp (aag Tryz.f47) 3):=okL (F47k uu) uu (S47_23l uu) L0
theorem F47ok (uu:Nat):(F47c uu).Ok Tryz.prog:=okE Tryz.f47 (F47k uu) (L4 (S47_4ok uu) (S47_15ok uu) (S47_19ok uu) (S47_23ok uu))
def F36 (uu:Nat) (a0:PV):Option (Bool):=
 (F47 uu a0).bind fun y1=>
 some ((y1.length:Int)==(0:Int))
def F36c (uu:Nat):CallE:=⟨36,⟨1,[],[(.data 39)]⟩,⟨1,[],[.bool]⟩,fun x=>F36 uu x,false⟩
theorem F36ok (uu:Nat):(F36c uu).Ok Tryz.prog:=okJ Tryz.f36 7 0 uu _ [] false (qc (F47ok uu)<|q0) (p0) L0
abbrev S76_4x:=(List PV)×(List PV)×Int
abbrev S76_4y:=((List PV))
def S76_4 (uu:Nat) (a1:List PV) (a2:List PV) (a3:Int):Option (S76_4x⊕S76_4y):=
 bif (decide (a3<(a1.length:Int))) then
 bif aaa a3 a1.length then
 let x9:=!(((a1.getD a3.toNat .bad).fld 0).asStr==([100,111,99]:List UInt8))
 bif imp x9 (aaa a3 a1.length) then
 bif (bif x9 then (!(((a1.getD a3.toNat .bad).fld 0).asStr==([111,119,110,101,114]:List UInt8))) else false) then
 bif aaa a3 a1.length then
 let x15:=a1.getD a3.toNat .bad
 bif decide (a2.length+[x15].length<=aao) then
 some (.inl (a1,(a2++[x15]),(IntKind.wrap .i64 (a3+(1:Int)))))
 else none
 else none
 else
 some (.inl (a1,a2,(IntKind.wrap .i64 (a3+(1:Int)))))
 else none
 else none
 else
 some (.inr a2)
def S76_4step (uu:Nat) (x:S76_4x):Option (S76_4x⊕S76_4y):=S76_4 uu x.1 x.2.1 x.2.2
def F76 (uu:Nat) (a0:List PV):Option ((List PV)):=
 (aaf uu (S76_4step uu) (a0,[],(0:Int))).bind fun y19=>
 some y19
def S76_4l (uu:Nat):LoopE:=⟨4,⟨[0,3,4],[.acc],[(.slice 65),(.acc 0 65),(.int .i64)]⟩,[(.exit 0,⟨[3],[.acc],[(.acc 0 65)]⟩)],S76_4step uu⟩
def F76C (uu:Nat):Cfg:=cfg Tryz.prog 33 0 [] [S76_4l uu] uu
def F76c (uu:Nat):CallE:=⟨76,⟨1,[],[(.slice 65)]⟩,⟨1,[],[(.slice 65)]⟩,fun x=>F76 uu x,[]⟩
theorem F76k (uu:Nat):aai (F76C uu):=aac (q0) (p0)
theorem S76_4ok (uu:Nat):LoopOk (F76C uu) (lp (aag Tryz.f76) 0):=okL (F76k uu) uu (S76_4l uu) L0
theorem F76ok (uu:Nat):(F76c uu).Ok Tryz.prog:=okE Tryz.f76 (F76k uu) (L1 (S76_4ok uu))
abbrev S49_4x:=Unit×Unit×Unit×Int×(List UInt8)×(List PV)×(List PV)×(List PV)×(List PV)×(List UInt8)×(List PV)×(List PV)×(List PV)×(List PV)×(List UInt8)×(List PV)×(List PV)×(List PV)×(List PV)
abbrev S49_4y:=(Unit×Unit×(List UInt8)×(List PV)×(List PV)×(List PV)×(List PV)×(List UInt8)×(List PV)×(List PV)×(List PV)×(List PV)×(List UInt8)×(List PV)×(List PV)×(List PV)×(List PV))
def S49_4 (uu:Nat) (a6:Unit) (a7:Unit) (a8:Unit) (a9:Int) (s:(List UInt8)×(List PV)×(List PV)×(List PV)×(List PV)×(List UInt8)×(List PV)×(List PV)×(List PV)×(List PV)×(List UInt8)×(List PV)×(List PV)×(List PV)×(List PV)):Option (S49_4x⊕S49_4y):=
 bif (decide (a9<(s.2.1.length:Int))) then
 bif aaa a9 s.2.1.length then
 let x12:=s.2.1.getD a9.toNat .bad
 (F76 uu ((x12.fld 8).asList)).bind fun y14=>
 let x15:=(x12.fld 0).asInt
 let x16:=(x12.fld 1).asStr
 let x17:=(x12.fld 2).asInt
 let x18:=(x12.fld 3).asInt
 let x19:=x12.fld 4
 let x20:=(x12.fld 5).asStr
 let x21:=(x12.fld 6).asBool
 let x22:=x12.fld 7
 bif decide (s.2.2.2.2.2.2.2.2.2.2.2.1.length+[(PV.agg [(PV.int x15),(PV.str x16),(PV.int x17),(PV.int x18),x19,(PV.str x20),(PV.bool x21),x22,(PV.slice y14)])].length<=aao) then
 let x23:=s.2.2.2.2.2.2.2.2.2.2.2.1++[(PV.agg [(PV.int x15),(PV.str x16),(PV.int x17),(PV.int x18),x19,(PV.str x20),(PV.bool x21),x22,(PV.slice y14)])]
 some (.inl ((),(),(),(IntKind.wrap .i64 (a9+(1:Int))),s.1,s.2.1,s.2.2.1,s.2.2.2.1,s.2.2.2.2.1,s.2.2.2.2.2.1,s.2.2.2.2.2.2.1,s.2.2.2.2.2.2.2.1,s.2.2.2.2.2.2.2.2.1,s.2.2.2.2.2.2.2.2.2.1,s.2.2.2.2.2.2.2.2.2.2.1,x23,s.2.2.2.2.2.2.2.2.2.2.2.2))
 else none
 else none
 else
 some (.inr ((),(),s))
def S49_4step (uu:Nat) (x:S49_4x):Option (S49_4x⊕S49_4y):=S49_4 uu x.1 x.2.1 x.2.2.1 x.2.2.2.1 x.2.2.2.2
def F49 (uu:Nat) (a0:PV):Option (PV):=
 (F76 uu ((a0.fld 4).asList)).bind fun y5=>
 (aaf uu (S49_4step uu) ((),(),(),(0:Int),(a0.fld 0).asStr,(a0.fld 1).asList,(a0.fld 2).asList,(a0.fld 3).asList,(a0.fld 4).asList,([]:List UInt8),[],[],[],[],((a0.fld 0).asStr),[],((a0.fld 2).asList),((a0.fld 3).asList),y5)).bind fun y25=>
 some (PV.agg [(PV.str y25.2.2.2.2.2.2.2.2.2.2.2.2.1),(PV.slice y25.2.2.2.2.2.2.2.2.2.2.2.2.2.1),(PV.slice y25.2.2.2.2.2.2.2.2.2.2.2.2.2.2.1),(PV.slice y25.2.2.2.2.2.2.2.2.2.2.2.2.2.2.2.1),(PV.slice y25.2.2.2.2.2.2.2.2.2.2.2.2.2.2.2.2)])
def S49_4l (uu:Nat):LoopE:=⟨4,⟨[1,2,3,4],bx25,(.con (.ref 0 [] 73))::(.con (.ref 1 [] 73))::(.con (.ref 2 [] 73))::(.int .i64)::.str::(.slice 68)::(.slice 219)::(.slice 9)::(.slice 65)::.str::(.acc 3 68)::(.slice 219)::(.slice 9)::(.slice 65)::.str::(.acc 4 68)::sv44⟩,[(.exit 0,⟨[2,3],bx25,(.con (.ref 1 [] 73))::(.con (.ref 2 [] 73))::.str::(.slice 68)::(.slice 219)::(.slice 9)::(.slice 65)::.str::(.acc 3 68)::(.slice 219)::(.slice 9)::(.slice 65)::.str::(.acc 4 68)::sv44⟩)],S49_4step uu⟩
def F49C (uu:Nat):Cfg:=cfg Tryz.prog 39 0 [F76c uu] [S49_4l uu] uu
def F49c (uu:Nat):CallE:=⟨49,⟨1,[],[(.data 73)]⟩,⟨1,[],[(.data 73)]⟩,fun x=>F49 uu x,PV.bad⟩
theorem F49k (uu:Nat):aai (F49C uu):=aac (qc (F76ok uu)<|q0) (p0)
theorem S49_4ok (uu:Nat):LoopOk (F49C uu) (lp (aag Tryz.f49) 0):=okL (F49k uu) uu (S49_4l uu) L0
theorem F49ok (uu:Nat):(F49c uu).Ok Tryz.prog:=okE Tryz.f49 (F49k uu) (L1 (S49_4ok uu))
abbrev S50_4x:=Unit×Unit×Unit×Int×(List UInt8)×Bool×(List PV)×(List PV)×(List PV)×(List UInt8)×Bool×(List PV)×(List PV)×(List PV)×(List UInt8)×Bool×(List PV)×(List PV)×(List PV)
abbrev S50_4y:=(Unit×Unit×(List UInt8)×Bool×(List PV)×(List PV)×(List PV)×(List UInt8)×Bool×(List PV)×(List PV)×(List PV)×(List UInt8)×Bool×(List PV)×(List PV)×(List PV))
def S50_4 (uu:Nat) (a6:Unit) (a7:Unit) (a8:Unit) (a9:Int) (s:(List UInt8)×Bool×(List PV)×(List PV)×(List PV)×(List UInt8)×Bool×(List PV)×(List PV)×(List PV)×(List UInt8)×Bool×(List PV)×(List PV)×(List PV)):Option (S50_4x⊕S50_4y):=
 bif (decide (a9<(s.2.2.1.length:Int))) then
 bif aaa a9 s.2.2.1.length then
 let x12:=s.2.2.1.getD a9.toNat .bad
 (F76 uu ((x12.fld 2).asList)).bind fun y14=>
 let x15:=(x12.fld 0).asStr
 let x16:=(x12.fld 1).asInt
 bif decide (s.2.2.2.2.2.2.2.2.2.2.2.2.1.length+[(PV.agg [(PV.str x15),(PV.int x16),(PV.slice y14)])].length<=aao) then
 let x17:=s.2.2.2.2.2.2.2.2.2.2.2.2.1++[(PV.agg [(PV.str x15),(PV.int x16),(PV.slice y14)])]
 some (.inl ((),(),(),(IntKind.wrap .i64 (a9+(1:Int))),s.1,s.2.1,s.2.2.1,s.2.2.2.1,s.2.2.2.2.1,s.2.2.2.2.2.1,s.2.2.2.2.2.2.1,s.2.2.2.2.2.2.2.1,s.2.2.2.2.2.2.2.2.1,s.2.2.2.2.2.2.2.2.2.1,s.2.2.2.2.2.2.2.2.2.2.1,s.2.2.2.2.2.2.2.2.2.2.2.1,x17,s.2.2.2.2.2.2.2.2.2.2.2.2.2))
 else none
 else none
 else
 some (.inr ((),(),s))
def S50_4step (uu:Nat) (x:S50_4x):Option (S50_4x⊕S50_4y):=S50_4 uu x.1 x.2.1 x.2.2.1 x.2.2.2.1 x.2.2.2.2
def F50 (uu:Nat) (a0:PV):Option (PV):=
 (F76 uu ((a0.fld 4).asList)).bind fun y5=>
 (aaf uu (S50_4step uu) ((),(),(),(0:Int),(a0.fld 0).asStr,(a0.fld 1).asBool,(a0.fld 2).asList,(a0.fld 3).asList,(a0.fld 4).asList,([]:List UInt8),false,[],[],[],((a0.fld 0).asStr),((a0.fld 1).asBool),[],((a0.fld 3).asList),y5)).bind fun y19=>
 some (PV.agg [(PV.str y19.2.2.2.2.2.2.2.2.2.2.2.2.1),(PV.bool y19.2.2.2.2.2.2.2.2.2.2.2.2.2.1),(PV.slice y19.2.2.2.2.2.2.2.2.2.2.2.2.2.2.1),(PV.slice y19.2.2.2.2.2.2.2.2.2.2.2.2.2.2.2.1),(PV.slice y19.2.2.2.2.2.2.2.2.2.2.2.2.2.2.2.2)])
def S50_4l (uu:Nat):LoopE:=⟨4,⟨[1,2,3,4],bx26,[(.con (.ref 0 [] 116)),(.con (.ref 1 [] 116)),(.con (.ref 2 [] 116)),(.int .i64),.str,.bool,(.slice 164),(.slice 219),(.slice 65),.str,.bool,(.acc 3 164),(.slice 219),(.slice 65),.str,.bool,(.acc 4 164),(.slice 219),(.slice 65)]⟩,[(.exit 0,⟨[2,3],bx26,[(.con (.ref 1 [] 116)),(.con (.ref 2 [] 116)),.str,.bool,(.slice 164),(.slice 219),(.slice 65),.str,.bool,(.acc 3 164),(.slice 219),(.slice 65),.str,.bool,(.acc 4 164),(.slice 219),(.slice 65)]⟩)],S50_4step uu⟩
def F50C (uu:Nat):Cfg:=cfg Tryz.prog 39 0 [F76c uu] [S50_4l uu] uu
def F50c (uu:Nat):CallE:=⟨50,⟨1,[],[(.data 116)]⟩,⟨1,[],[(.data 116)]⟩,fun x=>F50 uu x,PV.bad⟩
theorem F50k (uu:Nat):aai (F50C uu):=aac (qc (F76ok uu)<|q0) (p0)
theorem S50_4ok (uu:Nat):LoopOk (F50C uu) (lp (aag Tryz.f50) 0):=okL (F50k uu) uu (S50_4l uu) L0
theorem F50ok (uu:Nat):(F50c uu).Ok Tryz.prog:=okE Tryz.f50 (F50k uu) (L1 (S50_4ok uu))
abbrev S51_4x:=Unit×Unit×Unit×Int×(List UInt8)×(List PV)×(List PV)×(List UInt8)×(List PV)×(List PV)×(List UInt8)×(List PV)×(List PV)
abbrev S51_4y:=(Unit×Unit×(List UInt8)×(List PV)×(List PV)×(List UInt8)×(List PV)×(List PV)×(List UInt8)×(List PV)×(List PV))
def S51_4 (uu:Nat) (a4:Unit) (a5:Unit) (a6:Unit) (a7:Int) (s:(List UInt8)×(List PV)×(List PV)×(List UInt8)×(List PV)×(List PV)×(List UInt8)×(List PV)×(List PV)):Option (S51_4x⊕S51_4y):=
 bif (decide (a7<(s.2.1.length:Int))) then
 bif aaa a7 s.2.1.length then
 let x10:=s.2.1.getD a7.toNat .bad
 (F76 uu ((x10.fld 4).asList)).bind fun y12=>
 let x13:=(x10.fld 0).asStr
 let x14:=(x10.fld 1).asStr
 let x15:=(x10.fld 2).asStr
 let x16:=(x10.fld 3).asInt
 bif decide (s.2.2.2.2.2.2.2.1.length+[(PV.agg [(PV.str x13),(PV.str x14),(PV.str x15),(PV.int x16),(PV.slice y12)])].length<=aao) then
 let x17:=s.2.2.2.2.2.2.2.1++[(PV.agg [(PV.str x13),(PV.str x14),(PV.str x15),(PV.int x16),(PV.slice y12)])]
 some (.inl ((),(),(),(IntKind.wrap .i64 (a7+(1:Int))),s.1,s.2.1,s.2.2.1,s.2.2.2.1,s.2.2.2.2.1,s.2.2.2.2.2.1,s.2.2.2.2.2.2.1,x17,s.2.2.2.2.2.2.2.2))
 else none
 else none
 else
 some (.inr ((),(),s))
def S51_4step (uu:Nat) (x:S51_4x):Option (S51_4x⊕S51_4y):=S51_4 uu x.1 x.2.1 x.2.2.1 x.2.2.2.1 x.2.2.2.2
def F51 (uu:Nat) (a0:PV):Option (PV):=
 (F76 uu ((a0.fld 2).asList)).bind fun y3=>
 (aaf uu (S51_4step uu) ((),(),(),(0:Int),(a0.fld 0).asStr,(a0.fld 1).asList,(a0.fld 2).asList,([]:List UInt8),[],[],((a0.fld 0).asStr),[],y3)).bind fun y19=>
 some (PV.agg [(PV.str y19.2.2.2.2.2.2.2.2.1),(PV.slice y19.2.2.2.2.2.2.2.2.2.1),(PV.slice y19.2.2.2.2.2.2.2.2.2.2)])
def S51_4l (uu:Nat):LoopE:=⟨4,⟨[1,2,3,4],bx27,[(.con (.ref 0 [] 120)),(.con (.ref 1 [] 120)),(.con (.ref 2 [] 120)),(.int .i64),.str,(.slice 166),(.slice 65),.str,(.acc 3 166),(.slice 65),.str,(.acc 4 166),(.slice 65)]⟩,[(.exit 0,⟨[2,3],bx27,[(.con (.ref 1 [] 120)),(.con (.ref 2 [] 120)),.str,(.slice 166),(.slice 65),.str,(.acc 3 166),(.slice 65),.str,(.acc 4 166),(.slice 65)]⟩)],S51_4step uu⟩
def F51C (uu:Nat):Cfg:=cfg Tryz.prog 35 0 [F76c uu] [S51_4l uu] uu
def F51c (uu:Nat):CallE:=⟨51,⟨1,[],[(.data 120)]⟩,⟨1,[],[(.data 120)]⟩,fun x=>F51 uu x,PV.bad⟩
theorem F51k (uu:Nat):aai (F51C uu):=aac (qc (F76ok uu)<|q0) (p0)
theorem S51_4ok (uu:Nat):LoopOk (F51C uu) (lp (aag Tryz.f51) 0):=okL (F51k uu) uu (S51_4l uu) L0
theorem F51ok (uu:Nat):(F51c uu).Ok Tryz.prog:=okE Tryz.f51 (F51k uu) (L1 (S51_4ok uu))
abbrev S38_6x:=Unit×Unit×Unit×Int×(List PV)×(List PV)×(List PV)×(List PV)×(List PV)×(List PV)×(List PV)×(List PV)×(List PV)
abbrev S38_6y:=(Unit×Unit×Unit×(List PV)×(List PV)×(List PV)×(List PV)×(List PV)×(List PV)×(List PV)×(List PV)×(List PV))
def S38_6 (uu:Nat) (a3:Unit) (a4:Unit) (a5:Unit) (a6:Int) (s:(List PV)×(List PV)×(List PV)×(List PV)×(List PV)×(List PV)×(List PV)×(List PV)×(List PV)):Option (S38_6x⊕S38_6y):=
 bif (decide (a6<(s.1.length:Int))) then
 bif aaa a6 s.1.length then
 (F49 uu (s.1.getD a6.toNat .bad)).bind fun y10=>
 bif decide (s.2.2.2.2.2.2.1.length+[y10].length<=aao) then
 some (.inl ((),(),(),(IntKind.wrap .i64 (a6+(1:Int))),s.1,s.2.1,s.2.2.1,s.2.2.2.1,s.2.2.2.2.1,s.2.2.2.2.2.1,(s.2.2.2.2.2.2.1++[y10]),s.2.2.2.2.2.2.2))
 else none
 else none
 else
 some (.inr ((),(),(),s))
def S38_6step (uu:Nat) (x:S38_6x):Option (S38_6x⊕S38_6y):=S38_6 uu x.1 x.2.1 x.2.2.1 x.2.2.2.1 x.2.2.2.2
abbrev S38_10x:=Unit×Unit×Unit×Int×(List PV)×(List PV)×(List PV)×(List PV)×(List PV)×(List PV)×(List PV)×(List PV)×(List PV)
abbrev S38_10y:=(Unit×Unit×Unit×(List PV)×(List PV)×(List PV)×(List PV)×(List PV)×(List PV)×(List PV)×(List PV)×(List PV))
def S38_10 (uu:Nat) (a14:Unit) (a15:Unit) (a16:Unit) (a17:Int) (s:(List PV)×(List PV)×(List PV)×(List PV)×(List PV)×(List PV)×(List PV)×(List PV)×(List PV)):Option (S38_10x⊕S38_10y):=
 bif (decide (a17<(s.2.1.length:Int))) then
 bif aaa a17 s.2.1.length then
 (F50 uu (s.2.1.getD a17.toNat .bad)).bind fun y21=>
 bif decide (s.2.2.2.2.2.2.2.1.length+[y21].length<=aao) then
 some (.inl ((),(),(),(IntKind.wrap .i64 (a17+(1:Int))),s.1,s.2.1,s.2.2.1,s.2.2.2.1,s.2.2.2.2.1,s.2.2.2.2.2.1,s.2.2.2.2.2.2.1,(s.2.2.2.2.2.2.2.1++[y21]),s.2.2.2.2.2.2.2.2))
 else none
 else none
 else
 some (.inr ((),(),(),s))
def S38_10step (uu:Nat) (x:S38_10x):Option (S38_10x⊕S38_10y):=S38_10 uu x.1 x.2.1 x.2.2.1 x.2.2.2.1 x.2.2.2.2
abbrev S38_14x:=Unit×Unit×Unit×Int×(List PV)×(List PV)×(List PV)×(List PV)×(List PV)×(List PV)×(List PV)×(List PV)×(List PV)
abbrev S38_14y:=(Unit×Unit×(List PV)×(List PV)×(List PV)×(List PV)×(List PV)×(List PV)×(List PV)×(List PV)×(List PV))
def S38_14 (uu:Nat) (a25:Unit) (a26:Unit) (a27:Unit) (a28:Int) (s:(List PV)×(List PV)×(List PV)×(List PV)×(List PV)×(List PV)×(List PV)×(List PV)×(List PV)):Option (S38_14x⊕S38_14y):=
 bif (decide (a28<(s.2.2.1.length:Int))) then
 bif aaa a28 s.2.2.1.length then
 (F51 uu (s.2.2.1.getD a28.toNat .bad)).bind fun y32=>
 bif decide (s.2.2.2.2.2.2.2.2.length+[y32].length<=aao) then
 some (.inl ((),(),(),(IntKind.wrap .i64 (a28+(1:Int))),s.1,s.2.1,s.2.2.1,s.2.2.2.1,s.2.2.2.2.1,s.2.2.2.2.2.1,s.2.2.2.2.2.2.1,s.2.2.2.2.2.2.2.1,(s.2.2.2.2.2.2.2.2++[y32])))
 else none
 else none
 else
 some (.inr ((),(),s))
def S38_14step (uu:Nat) (x:S38_14x):Option (S38_14x⊕S38_14y):=S38_14 uu x.1 x.2.1 x.2.2.1 x.2.2.2.1 x.2.2.2.2
def F38 (uu:Nat) (a0:PV):Option (PV):=
 (F36 uu a0).bind fun y1=>
 bif (!y1) then
 some a0
 else
 (aaf uu (S38_6step uu) ((),(),(),(0:Int),(a0.fld 0).asList,(a0.fld 1).asList,(a0.fld 2).asList,[],[],[],[],[],[])).bind fun y13=>
 (aaf uu (S38_10step uu) ((),(),(),(0:Int),y13.2.2.2)).bind fun y24=>
 (aaf uu (S38_14step uu) ((),(),(),(0:Int),y24.2.2.2)).bind fun y35=>
 some (PV.agg [(PV.slice y35.2.2.2.2.2.2.2.2.1),(PV.slice y35.2.2.2.2.2.2.2.2.2.1),(PV.slice y35.2.2.2.2.2.2.2.2.2.2)])
def S38_6l (uu:Nat):LoopE:=⟨6,⟨[1,2,3,4],bx28,sv45⟩,[(.exit 0,⟨[1,2,3],bx28,(.con (.ref 0 [] 39))::sv46⟩)],S38_6step uu⟩
def S38_10l (uu:Nat):LoopE:=⟨10,⟨[1,2,3,5],bx28,sv45⟩,[(.exit 2,⟨[1,2,3],bx28,(.con (.ref 0 [] 39))::sv46⟩)],S38_10step uu⟩
def S38_14l (uu:Nat):LoopE:=⟨14,⟨[1,2,3,6],bx28,sv45⟩,[(.exit 4,⟨[2,3],bx28,sv46⟩)],S38_14step uu⟩
def F38C (uu:Nat):Cfg:=cfg Tryz.prog 66 0 [F36c uu,F49c uu,F50c uu,F51c uu] [S38_6l uu,S38_10l uu,S38_14l uu] uu
def F38c (uu:Nat):CallE:=⟨38,⟨1,[],[(.data 39)]⟩,⟨1,[],[(.data 39)]⟩,fun x=>F38 uu x,PV.bad⟩
theorem F38k (uu:Nat):aai (F38C uu):=aac (qc (F36ok uu)<|qc (F49ok uu)<|qc (F50ok uu)<|qc (F51ok uu)<|q0) (p0)
theorem S38_6ok (uu:Nat):LoopOk (F38C uu) (lp (aag Tryz.f38) 0):=okL (F38k uu) uu (S38_6l uu) L0
theorem S38_10ok (uu:Nat):LoopOk (F38C uu) (lp (aag Tryz.f38) 1):=okL (F38k uu) uu (S38_10l uu) L0
theorem S38_14ok (uu:Nat):LoopOk (F38C uu) (lp (aag Tryz.f38) 2):=okL (F38k uu) uu (S38_14l uu) L0
theorem F38ok (uu:Nat):(F38c uu).Ok Tryz.prog:=okE Tryz.f38 (F38k uu) (L3 (S38_6ok uu) (S38_10ok uu) (S38_14ok uu))
end
end Go.Ab
